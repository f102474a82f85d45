/- Plain: what the scanner yields. -/
import Derived.Test.YtpcmamoomaddoaaGreatDoorNeg
import Derived.Defers
import Derived.Recover
import Derived.Test.YtpcmamoomaddoaaGreatDoorPs4
/- JOINED: Unt Rec Scp -/
/- The parser's unit. -/
namespace Go.Proofs.YtpcmamoomaddoaaGreatDoor
open Go.RowKit
theorem unit_end {w2:World} {tmps:Array Value} {v0 v1 v2 v3 v4 X:Value} {b:Nat} {R:Ending→World→Prop} (hb:Blk w2 b 46 #[v0,v1,v2,v3,v4]) (h2:tmps[2]?.getD undef=.pointer (some ⟨b,0,none⟩))
  (hX:.agg #[v0,v1,v2,v3,v4]=X) (hR:R (.returned X) w2) :
  bodyPost Tryz.prog Tryz.f153 R Exit.ret { tmps:=tmps,defers:=[] } w2:=by
 subst hX;have c0:w2.cell? ⟨b,0,none⟩=some v0:=hb.cell 0;have c1:w2.cell? ⟨b,1,none⟩=some v1:=hb.cell 1;have c2:w2.cell? ⟨b,2,none⟩=some v2:=hb.cell 2;have c3:w2.cell? ⟨b,3,none⟩=some v3:=hb.cell 3;have c4:w2.cell? ⟨b,4,none⟩=some v4:=hb.cell 4;refine bodyPost_ret (v:=.agg #[v0,v1,v2,v3,v4]) ?_ rfl hR;simp only [results,Tryz.results153]
 simp [go_sem,h2,c0,c1,c2,c3,c4]
set_option maxRecDepth 100000 in
set_option maxHeartbeats 8000000 in
theorem unit_any {B:Nat} {W0:World} {rb:Nat} {ts:List Tok} {a:Option Addr} {c:Nat} {z:Int}:∀ (f i:Nat) (w:World),ts.length < i+f→Ps B W0 rb ts a c z w i →
  Calls Tryz.prog 153 #[.pointer (some ⟨rb,0,none⟩)] w (PdE B W0 rb ts a c z w (unitP ts f i)):=by
 intro f
 induction f with
 | zero=>intro i w hf h;have:=h.le;omega
 | succ f ih =>
  intro i w hf h;obtain ⟨W,hW⟩:∃ W,w.alloc (.cells #[.int .i64 0,.string ⟨#[]⟩,.string ⟨#[]⟩,.int .i64 0,.slice none 0 0] 46)=W:=⟨_,rfl⟩;have hkW:Kept [] w W:=hW▸(Kept.refl _ _).alloc _;have hBA:Blk W w.heap.size 46 #[.int .i64 0,.string ⟨#[]⟩,.string ⟨#[]⟩,.int .i64 0,.slice none 0 0]:=hW▸Blk.new _ _ _;have hw:=h.step hkW;have hrb:rb < w.heap.size:=h.blk.lt;have hpos:i≤ts.length:=h.le;have hsml:=h.small
  have hmono:∀ i p j,unitP ts f i=.ok (p,j)→i≤j:=fun i p j hh=>by have:=(unit_size (ts:=ts) f i p j hh).1;omega
  have y1:W.cell? ⟨rb,1,none⟩=some (.int .i64 i):=hw.blk.cell 1;obtain ⟨R,hR⟩:∃ R,unitP ts (f+1) i=R:=⟨_,rfl⟩;rw [hR];rw [unitP] at hR;have HBA:=Lib.hid hBA;have HP:=Lib.hid hw;have HK:Hid (Kept [rb] w W):=Lib.hid (hkW.mono (by simp));have HW:=Lib.hid hW;have HR:=Lib.hid hR;have HM:=Lib.hid hmono;have IH:=Lib.hid (fun (j:Nat) (w':World) (hj:i < j) (hp:Ps B W0 rb ts a c z w' j)=>ih j w' (by omega) hp);have H1:=Lib.hid (skip_any hw wNot);clear hW hkW hBA h hw hR ih hmono
  go_enter Tryz.func153,Tryz.ntmps153
  go_upto_region 1 with (fail);have hW':=HW.out;rw [hW'];clear hW'
  cases e1:skipP ts wNot i
  ·have hR:=HR.out;rw [e1] at H1 hR;simp only [Bool.false_eq_true,if_false] at hR;have HR1:=Lib.hid hR;clear hR;go_upto_region 4 with (go_at_call 115;refine H1.out.mono ?_;rintro e w2 ⟨rfl,k2,h2⟩);have h2':Ps B W0 rb ts a c z w2 i:=h2;have H2:=Lib.hid (skip_any h2' [40]);have B2:=Lib.hid (HBA.out.kept k2 (by simp;omega));have K2:=Lib.hid (HK.out.trans k2);clear h2 h2' k2 y1
   cases e2:skipP ts [40] i
   ·have hR:=HR1.out;rw [e2] at H2 hR;simp only [Bool.false_eq_true,if_false] at hR;have HR2:=Lib.hid hR;clear hR;go_upto_region 8 with (go_at_call 115;refine H2.out.mono ?_;rintro e w3 ⟨rfl,k3,h3⟩);have h3':Ps B W0 rb ts a c z w3 i:=h3;have H3:=Lib.hid (skip_any h3' wAt);have B3:=Lib.hid (B2.out.kept k3 (by simp;omega));have K3:=Lib.hid (K2.out.trans k3);clear h3 h3' k3
    cases e3:skipP ts wAt i
    ·have hR:=HR2.out;rw [e3] at H3 hR;simp only [Bool.false_eq_true,if_false] at hR;have HR3:=Lib.hid hR;clear hR;go_upto_region 10 with (go_at_call 115;refine H3.out.mono ?_;rintro e w4 ⟨rfl,k4,h4⟩);have h4':Ps B W0 rb ts a c z w4 i:=h4;have H4:=Lib.hid (sum_any h4');have B4:=Lib.hid (B3.out.kept k4 (by simp;omega));have K4:=Lib.hid (K3.out.trans k4);clear h4 h4' k4
     cases e4:sumP ts i with
     | error k =>
      have hR:=HR3.out;rw [e4] at H4 hR;simp only [bnd] at hR;subst hR;go_wp2_with (go_at_call 197;refine H4.out.mono ?_;unfold SumE;rintro e w5 ⟨⟨p,rfl⟩,k5⟩);exact ⟨rfl,⟨p,rfl⟩,K4.out.trans k5⟩
     | ok y =>
     obtain ⟨sm,j⟩:=y;have hR:=HR3.out;rw [e4] at H4 hR;simp only [bnd] at hR;have HR4:=Lib.hid hR;clear hR;go_upto_region 11 with (go_at_call 197;refine H4.out.mono ?_;unfold SumE;rintro e w5 ⟨rfl,k5,h5,hsm,hsl⟩);obtain ⟨g,hg⟩:∃ g,w5.heap.size=g:=⟨_,rfl⟩;obtain ⟨wa,hwa⟩:∃ x,w5.alloc (.cells #[.string ⟨sm.name.toArray⟩,.int .i64 sm.off] 252)=x:=⟨_,rfl⟩;rw [hwa,hg];have kA:Kept [] w5 wa:=hwa▸(Kept.refl _ _).alloc _;have bA:Blk wa g 252 #[.string ⟨sm.name.toArray⟩,.int .i64 sm.off]:=hg▸hwa▸Blk.new _ _ _;have b5:=B4.out.kept k5 (by simp;omega);have hgw:w.heap.size < g:=hg▸b5.lt;have hA:=h5.step kA;have H5:=Lib.hid (skip_any hA wIn);have BA:=Lib.hid bA;have B5:=Lib.hid (b5.kept kA (by simp));have K5:=Lib.hid ((K4.out.trans k5).trans (kA.mono (by simp)));clear hwa hg kA bA b5 hA h5 k5
     cases e5:skipP ts wIn j
     ·have hR:=HR4.out;rw [e5] at H5 hR;simp only [Bool.false_eq_true,if_false] at hR;have HR5:=Lib.hid hR;clear hR;go_upto_region 13 with (go_at_call 115;refine H5.out.mono ?_;rintro e w6 ⟨rfl,k6,h6⟩);have h6':Ps B W0 rb ts a c z w6 j:=h6;have x0:w6.cell? ⟨g,0,none⟩=some (.string ⟨sm.name.toArray⟩):=(BA.out.kept k6 (by simp;omega)).cell 0;have x1:w6.cell? ⟨g,1,none⟩=some (.int .i64 sm.off):=(BA.out.kept k6 (by simp;omega)).cell 1;have H6:=Lib.hid (compare_any sm hsm i hpos h6');have B6:=Lib.hid (B5.out.kept k6 (by simp;omega));have K6:=Lib.hid (K5.out.trans k6);have hsz:w.heap.size+1≤w6.heap.size:=B6.out.lt;clear h6 h6' k6
      cases e6:compareP ts sm j with
      | error k =>
       have hR:=HR5.out;rw [e6] at H6 hR;subst hR;go_wp2_with (go_at_call 199;refine H6.out.mono ?_;unfold PdE;rintro e w7 ⟨⟨p,rfl⟩,k7⟩);exact ⟨rfl,⟨p,rfl⟩,K6.out.trans k7⟩
      | ok y =>
       obtain ⟨p,j2⟩:=y;have hR:=HR5.out;rw [e6] at H6 hR;subst hR;obtain ⟨pk,pl,pr,pc,pks⟩:=p;go_wp2_with (go_at_call 199;refine H6.out.mono ?_;unfold PdE;rintro e w7 ⟨v,rfl,k7,h7,cs,rfl,hst⟩;obtain ⟨pa,pcc,rfl,_⟩:=hst.get.rows;have hb:=B6.out.kept k7 (by simp;omega);have c0:w7.cell? ⟨w.heap.size,0,none⟩=some (.int .i64 0):=hb.cell 0;have c1:w7.cell? ⟨w.heap.size,1,none⟩=some (.string ⟨#[]⟩):=hb.cell 1;have c2:w7.cell? ⟨w.heap.size,2,none⟩=some (.string ⟨#[]⟩):=hb.cell 2;have c3:w7.cell? ⟨w.heap.size,3,none⟩=some (.int .i64 0):=hb.cell 3;have c4:w7.cell? ⟨w.heap.size,4,none⟩=some (.slice none 0 0):=hb.cell 4;have f0:=hb.frozen 0;have f1:=hb.frozen 1;have f2:=hb.frozen 2;have f3:=hb.frozen 3;have f4:=hb.frozen 4;have HRB:=Lib.hid hb;have K7:=Lib.hid (K6.out.trans k7);have H7:=Lib.hid h7;have HST:=Lib.hid (hst.less (X':=List.range (w.heap.size+1)) (fun y hy=>Or.inl (List.mem_range.2 (by have:=List.mem_range.1 hy;omega))));clear hb k7 h7 hst);refine unit_end (((((HRB.out.set_ 0 _).set_ 1 _).set_ 2 _).set_ 3 _).set_ 4 _) rfl rfl ?_;have kF:=((((((Kept.refl [w.heap.size] w7).setCell (p:=⟨w.heap.size,0,none⟩) (Or.inl (by simp)) (.int .i64 pk)).setCell (p:=⟨w.heap.size,1,none⟩) (Or.inl (by simp)) (.string ⟨pl.toArray⟩)).setCell (p:=⟨w.heap.size,2,none⟩) (Or.inl (by simp)) (.string ⟨pr.toArray⟩)).setCell (p:=⟨w.heap.size,3,none⟩) (Or.inl (by simp)) (.int .i64 pc)).setCell (p:=⟨w.heap.size,4,none⟩) (Or.inl (by simp)) (.slice pa pks.length pcc));refine ⟨_,rfl,K7.out.fresh kF (fun y hy=>by rw [List.mem_singleton] at hy;omega),H7.out.far kF (fun y hy=>by rw [List.mem_singleton] at hy;omega),?_⟩
       exact ⟨[.int .i64 pk,.string ⟨pl.toArray⟩,.string ⟨pr.toArray⟩,.int .i64 pc,.slice pa pks.length pcc],rfl,HST.out.step kF (fun y hy _=>by rw [List.mem_singleton] at hy;exact List.mem_range.2 (by omega)) (fun y hy=>Or.inl (List.mem_range.2 (by have:=List.mem_range.1 hy;omega)))⟩
     ·have hR:=HR4.out;rw [e5] at H5 hR;simp only [if_true] at hR;have HR5:=Lib.hid hR;clear hR;go_upto_region 12 with (go_at_call 115;refine H5.out.mono ?_;rintro e w6 ⟨rfl,k6,h6⟩);have h6':Ps B W0 rb ts a c z w6 (j+1):=h6;have x0:w6.cell? ⟨g,0,none⟩=some (.string ⟨sm.name.toArray⟩):=(BA.out.kept k6 (by simp;omega)).cell 0;have x1:w6.cell? ⟨g,1,none⟩=some (.int .i64 sm.off):=(BA.out.kept k6 (by simp;omega)).cell 1;have H6:=Lib.hid (member_any sm hsm i hpos h6');have B6:=Lib.hid (B5.out.kept k6 (by simp;omega));have K6:=Lib.hid (K5.out.trans k6);have hsz:w.heap.size+1≤w6.heap.size:=B6.out.lt;clear h6 h6' k6
      cases e6:memberP ts sm (j+1) with
      | error k =>
       have hR:=HR5.out;rw [e6] at H6 hR;subst hR;go_wp2_with (go_at_call 198;refine H6.out.mono ?_;unfold PdE;rintro e w7 ⟨⟨p,rfl⟩,k7⟩);exact ⟨rfl,⟨p,rfl⟩,K6.out.trans k7⟩
      | ok y =>
       obtain ⟨p,j2⟩:=y;have hR:=HR5.out;rw [e6] at H6 hR;subst hR;obtain ⟨pk,pl,pr,pc,pks⟩:=p;go_wp2_with (go_at_call 198;refine H6.out.mono ?_;unfold PdE;rintro e w7 ⟨v,rfl,k7,h7,cs,rfl,hst⟩;obtain ⟨pa,pcc,rfl,_⟩:=hst.get.rows;have hb:=B6.out.kept k7 (by simp;omega);have c0:w7.cell? ⟨w.heap.size,0,none⟩=some (.int .i64 0):=hb.cell 0;have c1:w7.cell? ⟨w.heap.size,1,none⟩=some (.string ⟨#[]⟩):=hb.cell 1;have c2:w7.cell? ⟨w.heap.size,2,none⟩=some (.string ⟨#[]⟩):=hb.cell 2;have c3:w7.cell? ⟨w.heap.size,3,none⟩=some (.int .i64 0):=hb.cell 3;have c4:w7.cell? ⟨w.heap.size,4,none⟩=some (.slice none 0 0):=hb.cell 4;have f0:=hb.frozen 0;have f1:=hb.frozen 1;have f2:=hb.frozen 2;have f3:=hb.frozen 3;have f4:=hb.frozen 4;have HRB:=Lib.hid hb;have K7:=Lib.hid (K6.out.trans k7);have H7:=Lib.hid h7;have HST:=Lib.hid (hst.less (X':=List.range (w.heap.size+1)) (fun y hy=>Or.inl (List.mem_range.2 (by have:=List.mem_range.1 hy;omega))));clear hb k7 h7 hst);refine unit_end (((((HRB.out.set_ 0 _).set_ 1 _).set_ 2 _).set_ 3 _).set_ 4 _) rfl rfl ?_;have kF:=((((((Kept.refl [w.heap.size] w7).setCell (p:=⟨w.heap.size,0,none⟩) (Or.inl (by simp)) (.int .i64 pk)).setCell (p:=⟨w.heap.size,1,none⟩) (Or.inl (by simp)) (.string ⟨pl.toArray⟩)).setCell (p:=⟨w.heap.size,2,none⟩) (Or.inl (by simp)) (.string ⟨pr.toArray⟩)).setCell (p:=⟨w.heap.size,3,none⟩) (Or.inl (by simp)) (.int .i64 pc)).setCell (p:=⟨w.heap.size,4,none⟩) (Or.inl (by simp)) (.slice pa pks.length pcc));refine ⟨_,rfl,K7.out.fresh kF (fun y hy=>by rw [List.mem_singleton] at hy;omega),H7.out.far kF (fun y hy=>by rw [List.mem_singleton] at hy;omega),?_⟩
       exact ⟨[.int .i64 pk,.string ⟨pl.toArray⟩,.string ⟨pr.toArray⟩,.int .i64 pc,.slice pa pks.length pcc],rfl,HST.out.step kF (fun y hy _=>by rw [List.mem_singleton] at hy;exact List.mem_range.2 (by omega)) (fun y hy=>Or.inl (List.mem_range.2 (by have:=List.mem_range.1 hy;omega)))⟩
    ·have hR:=HR2.out;rw [e3] at H3 hR;simp only [if_true] at hR;have HR3:=Lib.hid hR;clear hR;go_upto_region 9 with (go_at_call 115;refine H3.out.mono ?_;rintro e w4 ⟨rfl,k4,h4⟩);have h4':Ps B W0 rb ts a c z w4 (i+1):=h4;have H4:=Lib.hid (least_any i hpos (unitP ts f) h4' (fun w' j hj hq=>IH.out j w' (by omega) hq) HM.out);have B4:=Lib.hid (B3.out.kept k4 (by simp;omega));have K4:=Lib.hid (K3.out.trans k4);have hsz:w.heap.size+1≤w4.heap.size:=B4.out.lt;clear h4 h4' k4
     cases e4:leastP ts (unitP ts f) (i+1) with
     | error k =>
      have hR:=HR3.out;rw [e4] at H4 hR;subst hR;go_wp2_with (go_at_call 196;refine H4.out.mono ?_;unfold PdE;rintro e w7 ⟨⟨p,rfl⟩,k7⟩);exact ⟨rfl,⟨p,rfl⟩,K4.out.trans k7⟩
     | ok y =>
      obtain ⟨p,j2⟩:=y;have hR:=HR3.out;rw [e4] at H4 hR;subst hR;obtain ⟨pk,pl,pr,pc,pks⟩:=p;go_wp2_with (go_at_call 196;refine H4.out.mono ?_;unfold PdE;rintro e w7 ⟨v,rfl,k7,h7,cs,rfl,hst⟩;obtain ⟨pa,pcc,rfl,_⟩:=hst.get.rows;have hb:=B4.out.kept k7 (by simp;omega);have c0:w7.cell? ⟨w.heap.size,0,none⟩=some (.int .i64 0):=hb.cell 0;have c1:w7.cell? ⟨w.heap.size,1,none⟩=some (.string ⟨#[]⟩):=hb.cell 1;have c2:w7.cell? ⟨w.heap.size,2,none⟩=some (.string ⟨#[]⟩):=hb.cell 2;have c3:w7.cell? ⟨w.heap.size,3,none⟩=some (.int .i64 0):=hb.cell 3;have c4:w7.cell? ⟨w.heap.size,4,none⟩=some (.slice none 0 0):=hb.cell 4;have f0:=hb.frozen 0;have f1:=hb.frozen 1;have f2:=hb.frozen 2;have f3:=hb.frozen 3;have f4:=hb.frozen 4;have HRB:=Lib.hid hb;have K7:=Lib.hid (K4.out.trans k7);have H7:=Lib.hid h7;have HST:=Lib.hid (hst.less (X':=List.range (w.heap.size+1)) (fun y hy=>Or.inl (List.mem_range.2 (by have:=List.mem_range.1 hy;omega))));clear hb k7 h7 hst);refine unit_end (((((HRB.out.set_ 0 _).set_ 1 _).set_ 2 _).set_ 3 _).set_ 4 _) rfl rfl ?_;have kF:=((((((Kept.refl [w.heap.size] w7).setCell (p:=⟨w.heap.size,0,none⟩) (Or.inl (by simp)) (.int .i64 pk)).setCell (p:=⟨w.heap.size,1,none⟩) (Or.inl (by simp)) (.string ⟨pl.toArray⟩)).setCell (p:=⟨w.heap.size,2,none⟩) (Or.inl (by simp)) (.string ⟨pr.toArray⟩)).setCell (p:=⟨w.heap.size,3,none⟩) (Or.inl (by simp)) (.int .i64 pc)).setCell (p:=⟨w.heap.size,4,none⟩) (Or.inl (by simp)) (.slice pa pks.length pcc));refine ⟨_,rfl,K7.out.fresh kF (fun y hy=>by rw [List.mem_singleton] at hy;omega),H7.out.far kF (fun y hy=>by rw [List.mem_singleton] at hy;omega),?_⟩
      exact ⟨[.int .i64 pk,.string ⟨pl.toArray⟩,.string ⟨pr.toArray⟩,.int .i64 pc,.slice pa pks.length pcc],rfl,HST.out.step kF (fun y hy _=>by rw [List.mem_singleton] at hy;exact List.mem_range.2 (by omega)) (fun y hy=>Or.inl (List.mem_range.2 (by have:=List.mem_range.1 hy;omega)))⟩
   ·have hR:=HR1.out;rw [e2] at H2 hR;simp only [if_true] at hR;have HR2:=Lib.hid hR;clear hR;go_upto_region 5 with (go_at_call 115;refine H2.out.mono ?_;rintro e w3 ⟨rfl,k3,h3⟩);have h3':Ps B W0 rb ts a c z w3 (i+1):=h3;have H3:=Lib.hid (some_any (unitP ts f) h3' (fun w' j hj hq=>IH.out j w' (by omega) hq) HM.out);have B3:=Lib.hid (B2.out.kept k3 (by simp;omega));have K3:=Lib.hid (K2.out.trans k3);have hsz:w.heap.size+1≤w3.heap.size:=B3.out.lt;clear h3 h3' k3
    cases e3:someP ts (unitP ts f) (i+1) with
    | error k =>
     have hR:=HR2.out;rw [e3] at H3 hR;simp only [bnd] at hR;subst hR;go_wp2_with (go_at_call 71;refine H3.out.mono ?_;unfold PdE;rintro e w7 ⟨⟨p,rfl⟩,k7⟩);exact ⟨rfl,⟨p,rfl⟩,K3.out.trans k7⟩
    | ok y =>
    obtain ⟨p,j2⟩:=y;have hR:=HR2.out;rw [e3] at H3 hR;simp only [bnd] at hR;have HR3:=Lib.hid hR;clear hR;obtain ⟨pk,pl,pr,pc,pks⟩:=p;go_upto_region 6 with (go_at_call 71;refine H3.out.mono ?_;unfold PdE;rintro e w4 ⟨v,rfl,k4,h4,cs,rfl,hst⟩;obtain ⟨pa,pcc,rfl,_⟩:=hst.get.rows);obtain ⟨g,hg⟩:∃ g,w4.heap.size=g:=⟨_,rfl⟩;obtain ⟨wa,hwa⟩:∃ x,w4.alloc (.cells #[.int .i64 pk,.string ⟨pl.toArray⟩,.string ⟨pr.toArray⟩,.int .i64 pc,.slice pa pks.length pcc] 46)=x:=⟨_,rfl⟩;rw [hwa,hg];have kA:Kept [] w4 wa:=hwa▸(Kept.refl _ _).alloc _;have bA:Blk wa g 46 #[.int .i64 pk,.string ⟨pl.toArray⟩,.string ⟨pr.toArray⟩,.int .i64 pc,.slice pa pks.length pcc]:=hg▸hwa▸Blk.new _ _ _;have b5:=B3.out.kept k4 (by simp;omega);have hgw:w.heap.size < g:=hg▸b5.lt;have H5:=Lib.hid (take_any (h4.step kA) [41]);have BA:=Lib.hid bA;have B5:=Lib.hid (b5.kept kA (by simp));have K5:=Lib.hid ((K3.out.trans k4).trans (kA.mono (by simp)));have HST:=Lib.hid ((hst.step (X':=List.range w3.heap.size) kA (fun y hy _=>by simp at hy) (fun y hy=>Or.inl hy)).less (X':=List.range (w.heap.size+1)) (fun y hy=>Or.inl (List.mem_range.2 (by have:=List.mem_range.1 hy;omega))));clear hwa hg kA bA b5 h4 k4 hst
    cases e5:takeP ts [41] j2 with
    | error k =>
     have hR:=HR3.out;rw [e5] at H5 hR
     simp only at hR
     subst hR;go_wp2_with (go_at_call 69;refine H5.out.mono ?_;unfold TakeE;rintro e w7 ⟨⟨p,rfl⟩,k7⟩);exact ⟨rfl,⟨p,rfl⟩,K5.out.trans k7⟩
    | ok y =>
     obtain ⟨u5,j3⟩:=y;have hR:=HR3.out;rw [e5] at H5 hR
     simp only at hR
     subst hR;go_wp2_with (go_at_call 69;refine H5.out.mono ?_;unfold TakeE;rintro e w7 ⟨rfl,k7,h7⟩;have ha7:=BA.out.kept k7 (by simp;omega);have x0:w7.cell? ⟨g,0,none⟩=some (.int .i64 pk):=ha7.cell 0;have x1:w7.cell? ⟨g,1,none⟩=some (.string ⟨pl.toArray⟩):=ha7.cell 1;have x2:w7.cell? ⟨g,2,none⟩=some (.string ⟨pr.toArray⟩):=ha7.cell 2;have x3:w7.cell? ⟨g,3,none⟩=some (.int .i64 pc):=ha7.cell 3;have x4:w7.cell? ⟨g,4,none⟩=some (.slice pa pks.length pcc):=ha7.cell 4;have hb:=B5.out.kept k7 (by simp;omega);have c0:w7.cell? ⟨w.heap.size,0,none⟩=some (.int .i64 0):=hb.cell 0;have c1:w7.cell? ⟨w.heap.size,1,none⟩=some (.string ⟨#[]⟩):=hb.cell 1;have c2:w7.cell? ⟨w.heap.size,2,none⟩=some (.string ⟨#[]⟩):=hb.cell 2;have c3:w7.cell? ⟨w.heap.size,3,none⟩=some (.int .i64 0):=hb.cell 3;have c4:w7.cell? ⟨w.heap.size,4,none⟩=some (.slice none 0 0):=hb.cell 4;have f0:=hb.frozen 0;have f1:=hb.frozen 1;have f2:=hb.frozen 2;have f3:=hb.frozen 3;have f4:=hb.frozen 4;have HRB:=Lib.hid hb;have K7:=Lib.hid (K5.out.trans k7);have H7:=Lib.hid h7;have HST7:=Lib.hid (HST.out.step (X':=List.range (w.heap.size+1)) k7 (fun y hy _=>by rw [List.mem_singleton] at hy;exact List.mem_range.2 (by omega)) (fun y hy=>Or.inl hy));clear hb ha7 k7 h7);refine unit_end (((((HRB.out.set_ 0 _).set_ 1 _).set_ 2 _).set_ 3 _).set_ 4 _) rfl rfl ?_;have kF:=((((((Kept.refl [w.heap.size] w7).setCell (p:=⟨w.heap.size,0,none⟩) (Or.inl (by simp)) (.int .i64 pk)).setCell (p:=⟨w.heap.size,1,none⟩) (Or.inl (by simp)) (.string ⟨pl.toArray⟩)).setCell (p:=⟨w.heap.size,2,none⟩) (Or.inl (by simp)) (.string ⟨pr.toArray⟩)).setCell (p:=⟨w.heap.size,3,none⟩) (Or.inl (by simp)) (.int .i64 pc)).setCell (p:=⟨w.heap.size,4,none⟩) (Or.inl (by simp)) (.slice pa pks.length pcc))
     refine ⟨_,rfl,K7.out.fresh kF (fun y hy=>by rw [List.mem_singleton] at hy;omega),H7.out.far kF (fun y hy=>by rw [List.mem_singleton] at hy;omega),?_⟩;exact ⟨[.int .i64 pk,.string ⟨pl.toArray⟩,.string ⟨pr.toArray⟩,.int .i64 pc,.slice pa pks.length pcc],rfl,HST7.out.step kF (fun y hy _=>by rw [List.mem_singleton] at hy;exact List.mem_range.2 (by omega)) (fun y hy=>Or.inl (List.mem_range.2 (by have:=List.mem_range.1 hy;omega)))⟩
  ·have hR:=HR.out;rw [e1] at H1 hR;simp only [if_true] at hR;have HR1:=Lib.hid hR;clear hR;go_upto_region 3 with (go_at_call 115;refine H1.out.mono ?_;rintro e w2 ⟨rfl,k2,h2⟩);have h2':Ps B W0 rb ts a c z w2 (i+1):=h2;have H2:=Lib.hid (IH.out (i+1) w2 (by omega) h2');have B2:=Lib.hid (HBA.out.kept k2 (by simp;omega));have K2:=Lib.hid (HK.out.trans k2);have hsz:w.heap.size+1≤w2.heap.size:=B2.out.lt;clear h2 h2' k2 y1
   cases e2:unitP ts f (i+1) with
   | error k =>
    have hR:=HR1.out;rw [e2] at H2 hR;simp only [bnd] at hR;subst hR;go_wp2_with (go_at_call 153;refine H2.out.mono ?_;unfold PdE;rintro e w7 ⟨⟨p,rfl⟩,k7⟩);exact ⟨rfl,⟨p,rfl⟩,K2.out.trans k7⟩
   | ok y =>
    obtain ⟨q,j2⟩:=y;have hR:=HR1.out;rw [e2] at H2 hR;simp only [bnd] at hR;subst hR;have hqf:=unitP_formed (ts:=ts) f _ _ _ e2;have hqs:=(unit_size (ts:=ts) f _ _ _ e2).2;obtain ⟨p,hp⟩:∃ p,negB q=p:=⟨_,rfl⟩;have HN:=Lib.hid (fun (w':World) (cs:List Value) (h:PdR w' cs q) (hj:j2≤ts.length)=>(negate_any 100000 (by decide) q cs w' (by omega) hqf h));have HNE:=Lib.hid hp;obtain ⟨pk,pl,pr,pc,pks⟩:=p;clear hqf hqs hp;go_wp2_with (first|(go_at_call 153;(with_reducible refine H2.out.mono ?_);(unfold PdE;rintro e w5 ⟨v,rfl,k5,h5,cs5,rfl,hst5⟩;have HST5:=Lib.hid hst5;have H5:=Lib.hid h5;have K5:=Lib.hid k5;clear hst5 h5 k5))|(go_at_call 195;refine (HN.out w5 cs5 HST5.out.get H5.out.le).mono ?_;unfold NegE;rintro e w7 ⟨v,rfl,k7,hpd⟩;rw [HNE.out] at hpd;obtain ⟨cs,rfl,hst⟩:=hpd;obtain ⟨pa,pcc,rfl,_⟩:=hst.get.rows;have hsz5:=K5.out.size;have hb:=(B2.out.kept K5.out (by simp;omega)).kept k7 (by simp);have c0:w7.cell? ⟨w.heap.size,0,none⟩=some (.int .i64 0):=hb.cell 0;have c1:w7.cell? ⟨w.heap.size,1,none⟩=some (.string ⟨#[]⟩):=hb.cell 1;have c2:w7.cell? ⟨w.heap.size,2,none⟩=some (.string ⟨#[]⟩):=hb.cell 2;have c3:w7.cell? ⟨w.heap.size,3,none⟩=some (.int .i64 0):=hb.cell 3;have c4:w7.cell? ⟨w.heap.size,4,none⟩=some (.slice none 0 0):=hb.cell 4;have f0:=hb.frozen 0;have f1:=hb.frozen 1;have f2:=hb.frozen 2;have f3:=hb.frozen 3;have f4:=hb.frozen 4;have HRB:=Lib.hid hb;have K7:=Lib.hid ((K2.out.trans K5.out).trans (k7.mono (by simp)));have H7:=Lib.hid (H5.out.step k7);have HST:=Lib.hid (hst.less (X':=List.range (w.heap.size+1)) (fun y hy=>Or.inl (List.mem_range.2 (by have:=List.mem_range.1 hy;omega))));clear hb k7 hst hsz5))
    refine unit_end (((((HRB.out.set_ 0 _).set_ 1 _).set_ 2 _).set_ 3 _).set_ 4 _) rfl rfl ?_;have kF:=((((((Kept.refl [w.heap.size] w7).setCell (p:=⟨w.heap.size,0,none⟩) (Or.inl (by simp)) (.int .i64 pk)).setCell (p:=⟨w.heap.size,1,none⟩) (Or.inl (by simp)) (.string ⟨pl.toArray⟩)).setCell (p:=⟨w.heap.size,2,none⟩) (Or.inl (by simp)) (.string ⟨pr.toArray⟩)).setCell (p:=⟨w.heap.size,3,none⟩) (Or.inl (by simp)) (.int .i64 pc)).setCell (p:=⟨w.heap.size,4,none⟩) (Or.inl (by simp)) (.slice pa pks.length pcc));refine ⟨_,rfl,K7.out.fresh kF (fun y hy=>by rw [List.mem_singleton] at hy;omega),H7.out.far kF (fun y hy=>by rw [List.mem_singleton] at hy;omega),?_⟩;rw [HNE.out];exact ⟨[.int .i64 pk,.string ⟨pl.toArray⟩,.string ⟨pr.toArray⟩,.int .i64 pc,.slice pa pks.length pcc],rfl,HST.out.step kF (fun y hy _=>by rw [List.mem_singleton] at hy;exact List.mem_range.2 (by omega)) (fun y hy=>Or.inl (List.mem_range.2 (by have:=List.mem_range.1 hy;omega)))⟩
end Go.Proofs.YtpcmamoomaddoaaGreatDoor
/- What Parse defers: recover. -/
namespace Go.Proofs.YtpcmamoomaddoaaGreatDoor
open Go.RowKit
theorem wp_abs {P:Program} {c:Code} {a:Act} {w:World} {Q:Exit→Act→World→Prop} (h:∀ Q':Exit→Act→World→Prop,Hid (∀ e a w,Q e a w→Q' e a w)→c.wp P Q' a w):c.wp P Q a w:=h Q (Lib.hid fun _ _ _ h=>h)
set_option maxRecDepth 100000 in
set_option maxHeartbeats 400000 in
theorem catch_idle (p q r s:Addr) (w:World) :
  CallsD Tryz.prog 68 #[.pointer (some p),.pointer (some q),.pointer (some r),.pointer (some s)] .returning w fun e u' w'=>e=.returned (.tuple #[])∧u'=.returning∧w'=w:=by
 refine callsD_of_wpS Tryz.func68 rfl fun c₀ cs hu=>?_
 apply wpS_seq
 apply wpS_region
 simp [wpOpsS,go_sem,recoverD,hu,Tryz.ntmps68,Exit.thenS]
 refine wpS_of_wp (wp_abs fun Q' hQ'=>?_);simp only [Array.replicate_succ,Array.replicate_zero,List.push_toArray,List.append_toArray,List.nil_append,List.cons_append,List.setIfInBounds_toArray,List.set_cons_zero,List.set_cons_succ];go_wp2_with fail;refine hQ'.out _ _ _ ?_
 cases c₀
 simp_all [bodyPostS,results,Tryz.results68]
set_option maxRecDepth 100000 in
set_option maxHeartbeats 2000000 in
theorem catch_fail (b:Nat) (c at_:Int) (older:List PanicEntry) (w:World) {x0 v0 v1 v2 v3 v4 y0 z0:Value} (h0:Blk w b 9 #[x0]) (h1:Blk w (b+1) 46 #[v0,v1,v2,v3,v4]) (h2:Blk w (b+2) 3 #[y0]) (h3:Blk w (b+3) 31 #[z0]) :
  CallsD Tryz.prog 68 #[.pointer (some ⟨b,0,none⟩),.pointer (some ⟨b+1,0,none⟩),.pointer (some ⟨b+2,0,none⟩),.pointer (some ⟨b+3,0,none⟩)] (.panicking ({ v:=.iface 127 (.agg #[.int .i64 c,.int .i64 at_]),recovered:=false }::older)) w fun e u' w' =>
   e=.returned (.tuple #[])∧u'=.panicking ({ v:=.iface 127 (.agg #[.int .i64 c,.int .i64 at_]),recovered:=true }::older)∧Kept [b,b+1,b+2,b+3] w w' ∧
   Blk w' b 9 #[.string ⟨#[]⟩]∧Blk w' (b+1) 46 #[.int .i64 0,.string ⟨#[]⟩,.string ⟨#[]⟩,.int .i64 0,.slice none 0 0]∧Blk w' (b+2) 3 #[.int .i64 at_]∧Blk w' (b+3) 31 #[.int .i64 c]:=by
 refine callsD_of_wpS Tryz.func68 rfl fun c₀ cs hu=>?_
 apply wpS_seq
 apply wpS_region
 simp [wpOpsS,go_sem,recoverD,hu,Tryz.ntmps68,Exit.thenS]
 refine wpS_of_wp (wp_abs fun Q' hQ'=>?_);simp only [Array.replicate_succ,Array.replicate_zero,List.push_toArray,List.append_toArray,List.nil_append,List.cons_append,List.setIfInBounds_toArray,List.set_cons_zero,List.set_cons_succ]
 have hta:∀ (v:Value) (w:World),(Instr.typeAssert (.iface 127 v) 20 127 true).run Tryz.prog w=.ok (.tuple #[v,.bool true]) w:=fun v w=>by kernel_rfl
 go_upto_region 5 with (fail);obtain ⟨g,hg⟩:∃ g,w.heap.size=g:=⟨_,rfl⟩;obtain ⟨wa,hwa⟩:∃ x,w.alloc (.cells #[.int .i64 c,.int .i64 at_] 127)=x:=⟨_,rfl⟩;rw [hwa,hg];have kA:Kept [] w wa:=hwa▸(Kept.refl _ _).alloc _;have bA:Blk wa g 127 #[.int .i64 c,.int .i64 at_]:=hg▸hwa▸Blk.new _ _ _;have H0:=Lib.hid (h0.kept kA (by simp));have H1:=Lib.hid (h1.kept kA (by simp));have H2:=Lib.hid (h2.kept kA (by simp));have H3:=Lib.hid (h3.kept kA (by simp));have hlt:b+3 < g:=hg▸h3.lt;have a0:wa.cell? ⟨g,0,none⟩=some (.int .i64 c):=bA.cell 0;have a1:wa.cell? ⟨g,1,none⟩=some (.int .i64 at_):=bA.cell 1;have c0:wa.cell? ⟨b,0,none⟩=some x0:=H0.out.cell 0;have f0:=H0.out.frozen 0;have p0:wa.cell? ⟨b+1,0,none⟩=some v0:=H1.out.cell 0;have p1:wa.cell? ⟨b+1,1,none⟩=some v1:=H1.out.cell 1;have p2:wa.cell? ⟨b+1,2,none⟩=some v2:=H1.out.cell 2;have p3:wa.cell? ⟨b+1,3,none⟩=some v3:=H1.out.cell 3;have p4:wa.cell? ⟨b+1,4,none⟩=some v4:=H1.out.cell 4;have q0:=H1.out.frozen 0;have q1:=H1.out.frozen 1;have q2:=H1.out.frozen 2;have q3:=H1.out.frozen 3;have q4:=H1.out.frozen 4;have y0:wa.cell? ⟨b+2,0,none⟩=some y0:=H2.out.cell 0;have y1:=H2.out.frozen 0;have z0:wa.cell? ⟨b+3,0,none⟩=some z0:=H3.out.cell 0;have z1:=H3.out.frozen 0;have KA:=Lib.hid kA;clear hwa hg kA bA h0 h1 h2 h3 hta
 go_region
 refine hQ'.out _ _ _ ⟨rfl,_,rfl,.tuple #[],by simp [results,Tryz.results68,go_sem],rfl,rfl,?_⟩;have B0:=((((((((H0.out.set_ 0 (.string ⟨#[]⟩)).far (p:=⟨b+1,0,none⟩) (by simp) (.int .i64 0)).far (p:=⟨b+1,1,none⟩) (by simp) (.string ⟨#[]⟩)).far (p:=⟨b+1,2,none⟩) (by simp) (.string ⟨#[]⟩)).far (p:=⟨b+1,3,none⟩) (by simp) (.int .i64 0)).far (p:=⟨b+1,4,none⟩) (by simp) (.slice none 0 0)).far (p:=⟨b+2,0,none⟩) (by simp) (.int .i64 at_)).far (p:=⟨b+3,0,none⟩) (by simp) (.int .i64 c)).drew;have B1:=((((((((H1.out.far (p:=⟨b,0,none⟩) (by simp) (.string ⟨#[]⟩)).set_ 0 (.int .i64 0)).set_ 1 (.string ⟨#[]⟩)).set_ 2 (.string ⟨#[]⟩)).set_ 3 (.int .i64 0)).set_ 4 (.slice none 0 0)).far (p:=⟨b+2,0,none⟩) (by simp) (.int .i64 at_)).far (p:=⟨b+3,0,none⟩) (by simp) (.int .i64 c)).drew;have B2:=((((((((H2.out.far (p:=⟨b,0,none⟩) (by simp) (.string ⟨#[]⟩)).far (p:=⟨b+1,0,none⟩) (by simp) (.int .i64 0)).far (p:=⟨b+1,1,none⟩) (by simp) (.string ⟨#[]⟩)).far (p:=⟨b+1,2,none⟩) (by simp) (.string ⟨#[]⟩)).far (p:=⟨b+1,3,none⟩) (by simp) (.int .i64 0)).far (p:=⟨b+1,4,none⟩) (by simp) (.slice none 0 0)).set_ 0 (.int .i64 at_)).far (p:=⟨b+3,0,none⟩) (by simp) (.int .i64 c)).drew;have B3:=((((((((H3.out.far (p:=⟨b,0,none⟩) (by simp) (.string ⟨#[]⟩)).far (p:=⟨b+1,0,none⟩) (by simp) (.int .i64 0)).far (p:=⟨b+1,1,none⟩) (by simp) (.string ⟨#[]⟩)).far (p:=⟨b+1,2,none⟩) (by simp) (.string ⟨#[]⟩)).far (p:=⟨b+1,3,none⟩) (by simp) (.int .i64 0)).far (p:=⟨b+1,4,none⟩) (by simp) (.slice none 0 0)).far (p:=⟨b+2,0,none⟩) (by simp) (.int .i64 at_)).set_ 0 (.int .i64 c)).drew
 exact ⟨(((((((((KA.out.mono (by simp)).setCell (Or.inl (by simp)) _).setCell (Or.inl (by simp)) _).setCell (Or.inl (by simp)) _).setCell (Or.inl (by simp)) _).setCell (Or.inl (by simp)) _).setCell (Or.inl (by simp)) _).setCell (Or.inl (by simp)) _).setCell (Or.inl (by simp)) _).drew,B0,B1,B2,B3⟩
end Go.Proofs.YtpcmamoomaddoaaGreatDoor
namespace Go.Proofs.YtpcmamoomaddoaaGreatDoor
def TokOk (t:Tok):Prop:=t.text.length≤100000∧0≤t.n∧t.n≤1099511627776
theorem number_le {s:Bs} {n:Nat} (h:numberB s=some n):n≤1099511627776:=by
 unfold numberB at h
 split at h
 ·cases h
 ·split at h
  ·cases h
  ·injection h with h;omega
theorem next_n {a:UInt8} {r:Bs} {t:Tok} {n:Nat} (h:nextB (a::r)=.ok (t,n)):0≤t.n∧t.n≤1099511627776:=by
 rw [nextB] at h
 split at h
 ·split at h
  ·injection h with h;injection h with h _;subst h;exact ⟨Int.le_refl _,by show (0:Int)≤1099511627776;decide⟩
  ·cases h
 ·split at h
  ·split at h
   ·next m hm =>
    injection h with h;injection h with h _;subst h;have:=number_le hm;exact ⟨by show (0:Int)≤(m:Int);omega,by show (m:Int)≤1099511627776;omega⟩
   ·cases h
  ·split at h
   ·split at h
    ·injection h with h;injection h with h _;subst h;exact ⟨Int.le_refl _,by show (0:Int)≤1099511627776;decide⟩
    ·cases h
   ·split at h
    ·injection h with h;injection h with h _;subst h;exact ⟨Int.le_refl _,by show (0:Int)≤1099511627776;decide⟩
    ·cases h
theorem scan_ne:∀ (f:Nat) (s:Bs) (i:Nat) (out:List Tok) (c:Int),s.length < f→scanB f s i out=.error c→c≠0
 | 0,_,_,_,_,h,_=>absurd h (by omega)
 | f+1,s,i,out,c,hl,h=>by
  rw [scanB] at h
  split at h
  ·cases h
  ·next a r hg =>
   have hle:=(gapB_suffix s).length_le;rw [hg,List.length_cons] at hle
   split at h
   ·next e he=>injection h with h;exact h▸nextB_err he
   ·next t n hn =>
    obtain ⟨h1,h2,_⟩:=nextB_len hn;exact scan_ne f _ _ _ c (by rw [List.length_drop,List.length_cons];omega) h
theorem scan_ok:∀ (f:Nat) (s:Bs) (i:Nat) (out ts:List Tok),s.length≤90000→(∀ t∈out,TokOk t)→scanB f s i out=.ok ts→∀ t∈ts,TokOk t
 | 0,_,_,_,_,_,_,h=>by simp [scanB] at h
 | f+1,s,i,out,ts,hl,ho,h=>by
  rw [scanB] at h
  split at h
  ·injection h with h;exact h▸ho
  ·next a r hg =>
   have hle:=(gapB_suffix s).length_le;rw [hg,List.length_cons] at hle
   split at h
   ·cases h
   ·next t n hn =>
    obtain ⟨h1,h2,h3⟩:=nextB_len hn;have h4:=next_n hn;refine scan_ok f _ _ _ ts (by rw [List.length_drop,List.length_cons];omega) (fun x hx=>?_) h
    rcases List.mem_append.1 hx with hx|hx
    ·exact ho x hx
    ·rw [List.mem_singleton] at hx;subst hx;exact ⟨by show t.text.length≤100000;omega,h4⟩
end Go.Proofs.YtpcmamoomaddoaaGreatDoor
