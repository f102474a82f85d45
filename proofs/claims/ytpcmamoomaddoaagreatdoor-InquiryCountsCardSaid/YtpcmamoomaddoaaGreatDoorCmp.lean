/- The parser's compare. -/
import Derived.Test.YtpcmamoomaddoaaGreatDoorMbr
import Derived.Laws.EntriesVeiled
namespace Go.Proofs.YtpcmamoomaddoaaGreatDoor
open Go.RowKit
theorem compare_end {w2:World} {tmps:Array Value} {v0 v1 v2 v3 v4 X:Value} {b:Nat} {R:Ending→World→Prop} (hb:Blk w2 b 46 #[v0,v1,v2,v3,v4]) (h2:tmps[6]?.getD undef=.pointer (some ⟨b,0,none⟩))
  (hX:.agg #[v0,v1,v2,v3,v4]=X) (hR:R (.returned X) w2) :
  bodyPost Tryz.prog Tryz.f199 R Exit.ret { tmps:=tmps,defers:=[] } w2:=by
 subst hX;have c0:w2.cell? ⟨b,0,none⟩=some v0:=hb.cell 0;have c1:w2.cell? ⟨b,1,none⟩=some v1:=hb.cell 1;have c2:w2.cell? ⟨b,2,none⟩=some v2:=hb.cell 2;have c3:w2.cell? ⟨b,3,none⟩=some v3:=hb.cell 3;have c4:w2.cell? ⟨b,4,none⟩=some v4:=hb.cell 4;refine bodyPost_ret (v:=.agg #[v0,v1,v2,v3,v4]) ?_ rfl hR;simp only [results,Tryz.results199]
 simp [go_sem,h2,c0,c1,c2,c3,c4]
theorem find_at {α:Type} {p:α→Bool} {l:List α} {k:Nat} {s:α} (hk:l[k]?=some s) (hb:∀ x∈l.take k,p x=false) (hs:p s=true):l.find? p=some s:=by
 induction l generalizing k with
 | nil=>simp at hk
 | cons a l ih =>
  cases k with
  | zero =>
   simp at hk;subst hk;rw [List.find?_cons,hs]
  | succ k =>
   have ha:=hb a (by simp);rw [List.find?_cons,ha];exact ih (by simpa using hk) (fun x hx=>hb x (by simp [hx]))
theorem find_none {α:Type} {p:α→Bool} {l:List α} {k:Nat} (hk:l.length≤k) (hb:∀ x∈l.take k,p x=false):l.find? p=none:=by
 rw [List.find?_eq_none];intro x hx;rw [List.take_of_length_le hk] at hb
 simp [hb x hx]
theorem take_more {α:Type} {p:α→Bool} {l:List α} {k:Nat} {s:α} (hk:l[k]?=some s) (hb:∀ x∈l.take k,p x=false) (hs:p s=false):∀ x∈l.take (k+1),p x=false:=by
 intro x hx;rw [List.take_add_one,hk] at hx
 rcases List.mem_append.1 hx with hx|hx
 ·exact hb x hx
 ·simp at hx;exact hx▸hs
set_option maxRecDepth 100000 in
set_option maxHeartbeats 8000000 in
theorem compare_any {B:Nat} {W0:World} {rb:Nat} {ts:List Tok} {a:Option Addr} {c:Nat} {z:Int} {w:World} {n0:Nat} (sm:Sm) (hsm:SmI sm) (pos:Nat) (hpos:pos≤ts.length) (h:Ps B W0 rb ts a c z w n0) :
  Calls Tryz.prog 199 #[.pointer (some ⟨rb,0,none⟩),.agg #[.string ⟨sm.name.toArray⟩,.int .i64 sm.off],.int .i64 (pos:Int)] w (PdE B W0 rb ts a c z w (compareP ts sm n0)):=by
 obtain ⟨W,hW⟩:∃ W,(w.alloc (.cells #[.string ⟨sm.name.toArray⟩,.int .i64 sm.off] 252)).alloc (.cells #[.int .i64 0,.string ⟨#[]⟩,.string ⟨#[]⟩,.int .i64 0,.slice none 0 0] 46)=W:=⟨_,rfl⟩;have hkW:Kept [] w W:=hW▸((Kept.refl _ _).alloc _).alloc _;have hBS:Blk W w.heap.size 252 #[.string ⟨sm.name.toArray⟩,.int .i64 sm.off]:=hW▸(Blk.new _ _ _).alloc _;have hBA:Blk W (w.heap.size+1) 46 #[.int .i64 0,.string ⟨#[]⟩,.string ⟨#[]⟩,.int .i64 0,.slice none 0 0]:=hW▸Blk.new1 _ _ _ _;have hw:=h.step hkW;have hrb:rb < w.heap.size:=h.blk.lt;obtain ⟨R,hR⟩:∃ R,compareP ts sm n0=R:=⟨_,rfl⟩;rw [hR]
 unfold compareP at hR
 obtain ⟨H,hH⟩:∃ H,W.heap.size=H:=⟨_,rfl⟩
 have hHw:w.heap.size+2≤H:=by have:=hBA.lt;omega
 have H1:=Lib.hid (signs_any W);rw [hH] at H1;have HBS:=Lib.hid hBS;have HBA:=Lib.hid hBA;have HP:=Lib.hid hw;have HK:Hid (Kept [rb] w W):=Lib.hid (hkW.mono (by simp));have HW:=Lib.hid hW;have HR:=Lib.hid hR;clear hW hkW hBS hBA h hw hR hH
 go_enter Tryz.func199,Tryz.ntmps199
 go_upto_region 1 with (fail);have hW':=HW.out;rw [hW'];clear hW';go_upto_region 2 with (go_at_call 236;refine H1.out.mono ?_;rintro e w4 ⟨rfl,k4,b4,x0,x1,x2,x3⟩);have HKW:=Lib.hid k4;have HSB:=Lib.hid b4;have HX0:=Lib.hid x0;have HX1:=Lib.hid x1;have HX2:=Lib.hid x2;have HX3:=Lib.hid x3;have HK4:=Lib.hid (HK.out.trans (k4.mono (by simp)));have BA:=Lib.hid (HBA.out.kept k4 (by simp));have BS:=Lib.hid (HBS.out.kept k4 (by simp));have P4:=Lib.hid (HP.out.step k4);clear k4 b4 x0 x1 x2 x3 HBS HBA HP HK HKW HW H1
 go_loopw [11] (fun v wr=>∃ k:Int,v=.int .i64 k∧0≤k∧k≤6∧Kept [rb] w4 wr∧Ps B W0 rb ts a c z wr n0∧∀ s∈signOf.take k.toNat,skipP ts s.1 n0=false)
  (fun v _=>(6 - intOf v).toNat)
 case atStart=>exact ⟨0,rfl,by decide,by decide,Kept.refl _ _,P4.out,by simp⟩
 case round =>
  obtain ⟨k,rfl,hk0,hk6,hkr,hps,hpass⟩:=hrel;have HKR:=Lib.hid hkr;have HPS:=Lib.hid hps;have HPA:=Lib.hid hpass;have HAR:=Lib.hid (BA.out.kept hkr (by simp;omega));have HSR:=Lib.hid (BS.out.kept hkr (by simp;omega));have HSBR:=Lib.hid (HSB.out.kept hkr (by simp;omega));have lift:∀ {p:Addr} {v:Value},w4.cell? p=some v→p.block≠rb→wr.cell? p=some v:=fun h hne=>(hkr.cell (World.block_lt_of_cell? w4 _ h) (by simpa using hne)).trans h;have Y0:=Lib.hid (lift HX0.out (by show H≠rb;omega));have Y1:=Lib.hid (lift HX1.out (by show H+1≠rb;omega));have Y2:=Lib.hid (lift HX2.out (by show H+2≠rb;omega));have Y3:=Lib.hid (lift HX3.out (by show H+3≠rb;omega));clear hkr hps hpass lift BA BS HSB HX0 HX1 HX2 HX3 P4
  have hk:k=6∨k=0∨k=1∨k=2∨k=3∨k=4∨k=5:=by omega
  rcases hk with rfl|rfl|rfl|rfl|rfl|rfl|rfl
  ·have hR:=HR.out;rw [find_none (k:=6) (by decide) HPA.out] at hR
   simp only at hR
   subst hR;have HF:=Lib.hid (fail_any HPS.out 12 n0 HPS.out.le (n0:Int) rfl);have y1:wr.cell? ⟨rb,1,none⟩=some (.int .i64 n0):=HPS.out.blk.cell 1;go_wp2_with (go_at_call 72;refine HF.out.mono ?_;rintro e w5 ⟨⟨p,rfl⟩,k5⟩);exact ⟨rfl,⟨p,rfl⟩,(HK4.out.trans HKR.out).trans (k5.mono (by simp))⟩
  ·have c0:wr.cell? ⟨H+4,0,none⟩=some (.string ⟨#[60,61]⟩):=HSBR.out.cell 0;have c1:wr.cell? ⟨H+4,1,none⟩=some (.func (.func 258) #[] #[]):=HSBR.out.cell 1;go_upto_region 4 with (fail);obtain ⟨g,hg⟩:∃ g,wr.heap.size=g:=⟨_,rfl⟩;obtain ⟨wa,hwa⟩:∃ x,wr.alloc (.cells #[.string ⟨#[60,61]⟩,.func (.func 258) #[] #[]] 283)=x:=⟨_,rfl⟩;rw [hwa,hg];have kA:Kept [] wr wa:=hwa▸(Kept.refl _ _).alloc _;have bA:Blk wa g 283 #[.string ⟨#[60,61]⟩,.func (.func 258) #[] #[]]:=hg▸hwa▸Blk.new _ _ _
   have hgl:w.heap.size+2≤g:=by have:=HAR.out.lt;omega
   have y0:wa.cell? ⟨g,0,none⟩=some (.string ⟨#[60,61]⟩):=bA.cell 0;have H1:=Lib.hid (skip_any (HPS.out.step kA) [60,61]);have KA:=Lib.hid kA;have BAA:=Lib.hid bA;clear hwa kA bA c0 c1 hg
   cases hs:skipP ts [60,61] n0
   ·rw [hs] at H1;go_wp2_with (go_at_call 115;refine H1.out.mono ?_;rintro e w5 ⟨rfl,k5,h5⟩)
    go_roundw
    case rel=>exact ⟨1,rfl,by decide,by decide,(HKR.out.trans (KA.out.mono (by simp))).trans k5,h5,take_more (k:=0) (s:=([60,61],fun a b=>mostB a b 0)) rfl HPA.out hs⟩
    case measure=>simp [intOf]
   ·rw [hs] at H1;have hR:=HR.out;rw [find_at (k:=0) (s:=([60,61],fun a b=>mostB a b 0)) rfl HPA.out hs] at hR
    simp only at hR
    have HRR:=Lib.hid hR;clear hR;go_upto_region 5 with (go_at_call 115;refine H1.out.mono ?_;rintro e w5 ⟨rfl,k5,h5⟩);have h5':Ps B W0 rb ts a c z w5 (n0+1):=h5;have K45:=Lib.hid ((HKR.out.trans (KA.out.mono (by simp))).trans k5);have KR5:=Lib.hid ((KA.out.mono (by simp):Kept [rb] wr wa).trans k5);have hA5:=(HAR.out.kept KA.out (by simp)).kept k5 (by simp;omega);have hS5:=(HSR.out.kept KA.out (by simp)).kept k5 (by simp;omega);have hG5:=BAA.out.kept k5 (by simp;omega);have s0:∀ w',Kept [rb] w5 w'→w'.cell? ⟨g,1,none⟩=some (.func (.func 258) #[] #[]):=fun w' k=>(hG5.kept k (by simp;omega)).cell 1;have s1:∀ w',Kept [rb] w5 w'→w'.cell? ⟨w.heap.size,0,none⟩=some (.string ⟨sm.name.toArray⟩):=fun w' k=>(hS5.kept k (by simp;omega)).cell 0;have s2:∀ w',Kept [rb] w5 w'→w'.cell? ⟨w.heap.size,1,none⟩=some (.int .i64 sm.off):=fun w' k=>(hS5.kept k (by simp;omega)).cell 1;have HSU:=Lib.hid (sum_any (h5'.step (Kept.refl [] w5).drew));have HA5:=Lib.hid hA5;clear hA5 hS5 hG5 h5 h5' k5 y0 H1 BAA KA;refine wp_region_T [9] (fun w'=>Kept [rb] w5 w') (by kernel_rfl) (Kept.refl _ _).drew (fun hH=>?_);refine takeT [8,9] (i:=0) (v:=?tv0k0) rfl (by kernel_rfl) (by kernel_rfl) (by kernel_rfl) (by kernel_rfl) (fun _ _ _ h=>h) (Or.inl ⟨by rfl,?ty0k0⟩) hH ?tr0k0
    case ty0k0=>intro w' hSw;(try dsimp only at hSw);go_simp;first|done|with_reducible rfl
    simp only [Act.put,List.setIfInBounds_toArray,List.set_cons_zero,List.set_cons_succ];refine takeT [2,6,8,9] (i:=1) (v:=?tv1k0) rfl (by kernel_rfl) (by kernel_rfl) (by kernel_rfl) (by kernel_rfl) (fun _ _ _ h=>h) (Or.inl ⟨by rfl,?ty1k0⟩) hH ?tr1k0
    case ty1k0=>intro w' hSw;(try dsimp only at hSw);go_simp;first|done|with_reducible rfl
    simp only [Act.put,List.setIfInBounds_toArray,List.set_cons_zero,List.set_cons_succ];refine takeT [6,8,9] (i:=2) (v:=?tv2k0) rfl (by kernel_rfl) (by kernel_rfl) (by kernel_rfl) (by kernel_rfl) (fun _ _ _ h=>h) (Or.inl ⟨by rfl,?ty2k0⟩) hH ?tr2k0
    case ty2k0=>intro w' hSw;(try dsimp only at hSw);go_simp;first|done|with_reducible rfl
    simp only [Act.put,List.setIfInBounds_toArray,List.set_cons_zero,List.set_cons_succ];refine takeT [6,8,9] (i:=3) (v:=?tv3k0) rfl (by kernel_rfl) (by kernel_rfl) (by kernel_rfl) (by kernel_rfl) (fun _ _ _ h=>h) (Or.inl ⟨by rfl,?ty3k0⟩) hH ?tr3k0
    case ty3k0=>intro w' hSw;(try dsimp only at hSw);go_simp;first|done|with_reducible rfl
    simp only [Act.put,List.setIfInBounds_toArray,List.set_cons_zero,List.set_cons_succ];refine takeT [5,6,8,9] (i:=4) (v:=?tv4k0) rfl (by kernel_rfl) (by kernel_rfl) (by kernel_rfl) (by kernel_rfl) (fun _ _ _ h=>h) (Or.inl ⟨by rfl,?ty4k0⟩) hH ?tr4k0
    case ty4k0=>intro w' hSw;(try dsimp only at hSw);go_simp;first|done|with_reducible rfl
    simp only [Act.put,List.setIfInBounds_toArray,List.set_cons_zero,List.set_cons_succ];refine takeT [8,9] (i:=7) (v:=?tv7k0) rfl (by kernel_rfl) (by kernel_rfl) (by kernel_rfl) (by kernel_rfl) (fun _ _ _ h=>h) (Or.inl ⟨by rfl,?ty7k0⟩) hH ?tr7k0
    case ty7k0=>intro w' hSw;(try dsimp only at hSw);go_simp;first|done|with_reducible rfl
    simp only [Act.put,List.setIfInBounds_toArray,List.set_cons_zero,List.set_cons_succ];refine wpAnyT_ready (rs:=[5]) (by kernel_rfl) (by simp) ?_;refine AllReadyT.cons rfl (fun K hK=>?_) AllReadyT.nil;go_simp
    cases hsum:sumP ts (n0+1) with
    | error er =>
     have hR:=HRR.out;rw [hsum] at hR HSU;simp only [bnd] at hR;subst hR;refine HSU.out.mono ?_
     unfold SumE
     rintro e w6 ⟨⟨p,rfl⟩,k6⟩;exact ⟨rfl,⟨p,rfl⟩,(HK4.out.trans K45.out).drew.trans k6⟩
    | ok y =>
    obtain ⟨b,j⟩:=y;have hR:=HRR.out;rw [hsum] at hR HSU;simp only [bnd] at hR;have HR6:=Lib.hid hR;clear hR;refine HSU.out.mono ?_
    unfold SumE
    rintro e w6 ⟨rfl,k6,h6,hbI,hbl⟩;have K6:Kept [rb] w5 w6:=(Kept.refl _ _).drew.trans k6;have H6:=Lib.hid h6;have HB66:=Lib.hid ((HA5.out.kept K6 (by simp;omega)).lt);refine hK.out _ _ K6 (fun hH=>?_);clear hK K k6 h6
    (try simp only [Act.put,List.setIfInBounds_toArray,List.set_cons_zero,List.set_cons_succ])
    have lift6:∀ {p:Addr} {v:Value},wr.cell? p=some v→p.block≠rb→w6.cell? p=some v:=fun h hne=>((KR5.out.trans K6).cell (World.block_lt_of_cell? wr _ h) (by simpa using hne)).trans h;have HMK:=Lib.hid (sgn2_any sm b w6 hsm hbI);obtain ⟨p,hp⟩:∃ p,mostB sm b 0=p:=⟨_,rfl⟩;rw [hp] at HMK;have hR:=HR6.out;rw [hp] at hR;have HR7:=Lib.hid hR;clear hR lift6 hp;refine wpAnyT_ready (rs:=[6]) (by kernel_rfl) (by simp) ?_;refine AllReadyT.cons rfl (fun K hK=>?_) AllReadyT.nil;go_simp;refine HMK.out.mono ?_;rintro e w7 ⟨v,rfl,k7,cs,rfl,hst⟩;have K7:Kept [rb] w5 w7:=K6.trans (k7.mono (by simp))
    have hlo:w.heap.size≤w6.heap.size:=by have:=K6.size;have:=K45.out.size;have:=HK4.out.size;omega
    have h7:=H6.out.step k7;have HRG:=Lib.hid (ranged_any pos hpos _ p cs w7 (Nat.le_refl _) h7 hst.get);obtain ⟨pk,pl,pr,pc,pks⟩:=p;obtain ⟨pa,pcc,rfl,_⟩:=hst.get.rows;have HST:=Lib.hid hst;have H7:=Lib.hid h7;refine hK.out _ _ K7 (fun hH=>?_);clear hK K k7 hst h7 K6
    (try simp only [Act.put,List.setIfInBounds_toArray,List.set_cons_zero,List.set_cons_succ])
    refine wpAnyT_ready (rs:=[8]) (by kernel_rfl) (by simp) ?_;refine AllReadyT.cons rfl (fun K hK=>?_) AllReadyT.nil;go_simp;have hR:=HR7.out
    unfold chk at hR
    cases hrg:rangedB (.node pk pl pr pc pks)
    ·rw [hrg] at hR HRG;simp only [Bool.false_eq_true,if_false] at hR;subst hR;refine HRG.out.mono ?_
     unfold RngE
     rintro e w8 ⟨⟨q,rfl⟩,k8⟩;exact ⟨rfl,⟨q,rfl⟩,((HK4.out.trans K45.out).trans K7).trans (k8.mono (by simp))⟩
    ·rw [hrg] at hR HRG;simp only [if_true] at hR;subst hR;refine HRG.out.mono ?_
     unfold RngE
     rintro e w8 ⟨rfl,k8⟩;have K8:Kept [rb] w5 w8:=K7.trans (k8.mono (by simp));refine hK.out _ _ K8 (fun hH=>?_);clear hK K
     (try simp only [Act.put,List.setIfInBounds_toArray,List.set_cons_zero,List.set_cons_succ])
     have hb8:=HA5.out.kept K8 (by simp;omega);have c0:w8.cell? ⟨w.heap.size+1,0,none⟩=some (.int .i64 0):=hb8.cell 0;have c1:w8.cell? ⟨w.heap.size+1,1,none⟩=some (.string ⟨#[]⟩):=hb8.cell 1;have c2:w8.cell? ⟨w.heap.size+1,2,none⟩=some (.string ⟨#[]⟩):=hb8.cell 2;have c3:w8.cell? ⟨w.heap.size+1,3,none⟩=some (.int .i64 0):=hb8.cell 3;have c4:w8.cell? ⟨w.heap.size+1,4,none⟩=some (.slice none 0 0):=hb8.cell 4;have f0:=hb8.frozen 0;have f1:=hb8.frozen 1;have f2:=hb8.frozen 2;have f3:=hb8.frozen 3;have f4:=hb8.frozen 4;have HB8:=Lib.hid hb8;have HB6:Hid (w.heap.size+2≤w6.heap.size):=Lib.hid (by have:=HB66.out;omega);have HK8:=Lib.hid k8;have KW8:=Lib.hid ((HK4.out.trans K45.out).trans K8);clear hb8 k8 K8 K7 s0 s1 s2;refine wpAnyT_ready (rs:=[9]) (by kernel_rfl) (by simp) ?_;refine AllReadyT.last rfl (by kernel_rfl) (fun K hK=>?_);go_simp;refine hK.out _ _ ?_;clear hK K
     (try simp only [Act.put,List.setIfInBounds_toArray,List.set_cons_zero,List.set_cons_succ])
     refine wpAnyT_done (by kernel_rfl) ?_ _;go_wp2_with fail;refine compare_end (((((HB8.out.set_ 0 _).set_ 1 _).set_ 2 _).set_ 3 _).set_ 4 _) rfl rfl ?_;have kF:=(((((Kept.refl [w.heap.size+1] w8).setCell (p:=⟨w.heap.size+1,0,none⟩) (Or.inl (by simp)) (.int .i64 pk)).setCell (p:=⟨w.heap.size+1,1,none⟩) (Or.inl (by simp)) (.string ⟨pl.toArray⟩)).setCell (p:=⟨w.heap.size+1,2,none⟩) (Or.inl (by simp)) (.string ⟨pr.toArray⟩)).setCell (p:=⟨w.heap.size+1,3,none⟩) (Or.inl (by simp)) (.int .i64 pc)).setCell (p:=⟨w.heap.size+1,4,none⟩) (Or.inl (by simp)) (.slice pa pks.length pcc);refine ⟨_,rfl,KW8.out.fresh kF (fun y hy=>by rw [List.mem_singleton] at hy;omega),(H7.out.step HK8.out).far kF (fun y hy=>by rw [List.mem_singleton] at hy;omega),?_⟩;exact ⟨[.int .i64 pk,.string ⟨pl.toArray⟩,.string ⟨pr.toArray⟩,.int .i64 pc,.slice pa pks.length pcc],rfl,((HST.out.step (X':=List.range w6.heap.size) HK8.out (fun y hy _=>by simp at hy) (fun y hy=>Or.inl hy)).step (X':=List.range w.heap.size) kF (fun y hy _=>by rw [List.mem_singleton] at hy;have:=KW8.out.size;exact List.mem_range.2 (by have:=HB6.out;omega)) (fun y hy=>Or.inl (List.mem_range.2 (by have:=List.mem_range.1 hy;omega))))⟩
  ·have c0:wr.cell? ⟨H+4,2,none⟩=some (.string ⟨#[60]⟩):=HSBR.out.cell 2;have c1:wr.cell? ⟨H+4,3,none⟩=some (.func (.func 259) #[] #[]):=HSBR.out.cell 3;go_upto_region 4 with (fail);obtain ⟨g,hg⟩:∃ g,wr.heap.size=g:=⟨_,rfl⟩;obtain ⟨wa,hwa⟩:∃ x,wr.alloc (.cells #[.string ⟨#[60]⟩,.func (.func 259) #[] #[]] 283)=x:=⟨_,rfl⟩;rw [hwa,hg];have kA:Kept [] wr wa:=hwa▸(Kept.refl _ _).alloc _;have bA:Blk wa g 283 #[.string ⟨#[60]⟩,.func (.func 259) #[] #[]]:=hg▸hwa▸Blk.new _ _ _
   have hgl:w.heap.size+2≤g:=by have:=HAR.out.lt;omega
   have y0:wa.cell? ⟨g,0,none⟩=some (.string ⟨#[60]⟩):=bA.cell 0;have H1:=Lib.hid (skip_any (HPS.out.step kA) [60]);have KA:=Lib.hid kA;have BAA:=Lib.hid bA;clear hwa kA bA c0 c1 hg
   cases hs:skipP ts [60] n0
   ·rw [hs] at H1;go_wp2_with (go_at_call 115;refine H1.out.mono ?_;rintro e w5 ⟨rfl,k5,h5⟩)
    go_roundw
    case rel=>exact ⟨2,rfl,by decide,by decide,(HKR.out.trans (KA.out.mono (by simp))).trans k5,h5,take_more (k:=1) (s:=([60],fun a b=>mostB a b 1)) rfl HPA.out hs⟩
    case measure=>simp [intOf]
   ·rw [hs] at H1;have hR:=HR.out;rw [find_at (k:=1) (s:=([60],fun a b=>mostB a b 1)) rfl HPA.out hs] at hR
    simp only at hR
    have HRR:=Lib.hid hR;clear hR;go_upto_region 5 with (go_at_call 115;refine H1.out.mono ?_;rintro e w5 ⟨rfl,k5,h5⟩);have h5':Ps B W0 rb ts a c z w5 (n0+1):=h5;have K45:=Lib.hid ((HKR.out.trans (KA.out.mono (by simp))).trans k5);have KR5:=Lib.hid ((KA.out.mono (by simp):Kept [rb] wr wa).trans k5);have hA5:=(HAR.out.kept KA.out (by simp)).kept k5 (by simp;omega);have hS5:=(HSR.out.kept KA.out (by simp)).kept k5 (by simp;omega);have hG5:=BAA.out.kept k5 (by simp;omega);have s0:∀ w',Kept [rb] w5 w'→w'.cell? ⟨g,1,none⟩=some (.func (.func 259) #[] #[]):=fun w' k=>(hG5.kept k (by simp;omega)).cell 1;have s1:∀ w',Kept [rb] w5 w'→w'.cell? ⟨w.heap.size,0,none⟩=some (.string ⟨sm.name.toArray⟩):=fun w' k=>(hS5.kept k (by simp;omega)).cell 0;have s2:∀ w',Kept [rb] w5 w'→w'.cell? ⟨w.heap.size,1,none⟩=some (.int .i64 sm.off):=fun w' k=>(hS5.kept k (by simp;omega)).cell 1;have HSU:=Lib.hid (sum_any (h5'.step (Kept.refl [] w5).drew));have HA5:=Lib.hid hA5;clear hA5 hS5 hG5 h5 h5' k5 y0 H1 BAA KA;refine wp_region_T [9] (fun w'=>Kept [rb] w5 w') (by kernel_rfl) (Kept.refl _ _).drew (fun hH=>?_);refine takeT [8,9] (i:=0) (v:=?tv0k1) rfl (by kernel_rfl) (by kernel_rfl) (by kernel_rfl) (by kernel_rfl) (fun _ _ _ h=>h) (Or.inl ⟨by rfl,?ty0k1⟩) hH ?tr0k1
    case ty0k1=>intro w' hSw;(try dsimp only at hSw);go_simp;first|done|with_reducible rfl
    simp only [Act.put,List.setIfInBounds_toArray,List.set_cons_zero,List.set_cons_succ];refine takeT [2,6,8,9] (i:=1) (v:=?tv1k1) rfl (by kernel_rfl) (by kernel_rfl) (by kernel_rfl) (by kernel_rfl) (fun _ _ _ h=>h) (Or.inl ⟨by rfl,?ty1k1⟩) hH ?tr1k1
    case ty1k1=>intro w' hSw;(try dsimp only at hSw);go_simp;first|done|with_reducible rfl
    simp only [Act.put,List.setIfInBounds_toArray,List.set_cons_zero,List.set_cons_succ];refine takeT [6,8,9] (i:=2) (v:=?tv2k1) rfl (by kernel_rfl) (by kernel_rfl) (by kernel_rfl) (by kernel_rfl) (fun _ _ _ h=>h) (Or.inl ⟨by rfl,?ty2k1⟩) hH ?tr2k1
    case ty2k1=>intro w' hSw;(try dsimp only at hSw);go_simp;first|done|with_reducible rfl
    simp only [Act.put,List.setIfInBounds_toArray,List.set_cons_zero,List.set_cons_succ];refine takeT [6,8,9] (i:=3) (v:=?tv3k1) rfl (by kernel_rfl) (by kernel_rfl) (by kernel_rfl) (by kernel_rfl) (fun _ _ _ h=>h) (Or.inl ⟨by rfl,?ty3k1⟩) hH ?tr3k1
    case ty3k1=>intro w' hSw;(try dsimp only at hSw);go_simp;first|done|with_reducible rfl
    simp only [Act.put,List.setIfInBounds_toArray,List.set_cons_zero,List.set_cons_succ];refine takeT [5,6,8,9] (i:=4) (v:=?tv4k1) rfl (by kernel_rfl) (by kernel_rfl) (by kernel_rfl) (by kernel_rfl) (fun _ _ _ h=>h) (Or.inl ⟨by rfl,?ty4k1⟩) hH ?tr4k1
    case ty4k1=>intro w' hSw;(try dsimp only at hSw);go_simp;first|done|with_reducible rfl
    simp only [Act.put,List.setIfInBounds_toArray,List.set_cons_zero,List.set_cons_succ];refine takeT [8,9] (i:=7) (v:=?tv7k1) rfl (by kernel_rfl) (by kernel_rfl) (by kernel_rfl) (by kernel_rfl) (fun _ _ _ h=>h) (Or.inl ⟨by rfl,?ty7k1⟩) hH ?tr7k1
    case ty7k1=>intro w' hSw;(try dsimp only at hSw);go_simp;first|done|with_reducible rfl
    simp only [Act.put,List.setIfInBounds_toArray,List.set_cons_zero,List.set_cons_succ];refine wpAnyT_ready (rs:=[5]) (by kernel_rfl) (by simp) ?_;refine AllReadyT.cons rfl (fun K hK=>?_) AllReadyT.nil;go_simp
    cases hsum:sumP ts (n0+1) with
    | error er =>
     have hR:=HRR.out;rw [hsum] at hR HSU;simp only [bnd] at hR;subst hR;refine HSU.out.mono ?_
     unfold SumE
     rintro e w6 ⟨⟨p,rfl⟩,k6⟩;exact ⟨rfl,⟨p,rfl⟩,(HK4.out.trans K45.out).drew.trans k6⟩
    | ok y =>
    obtain ⟨b,j⟩:=y;have hR:=HRR.out;rw [hsum] at hR HSU;simp only [bnd] at hR;have HR6:=Lib.hid hR;clear hR;refine HSU.out.mono ?_
    unfold SumE
    rintro e w6 ⟨rfl,k6,h6,hbI,hbl⟩;have K6:Kept [rb] w5 w6:=(Kept.refl _ _).drew.trans k6;have H6:=Lib.hid h6;have HB66:=Lib.hid ((HA5.out.kept K6 (by simp;omega)).lt);refine hK.out _ _ K6 (fun hH=>?_);clear hK K k6 h6
    (try simp only [Act.put,List.setIfInBounds_toArray,List.set_cons_zero,List.set_cons_succ])
    have lift6:∀ {p:Addr} {v:Value},wr.cell? p=some v→p.block≠rb→w6.cell? p=some v:=fun h hne=>((KR5.out.trans K6).cell (World.block_lt_of_cell? wr _ h) (by simpa using hne)).trans h;have HMK:=Lib.hid (sgn3_any sm b w6 hsm hbI);obtain ⟨p,hp⟩:∃ p,mostB sm b 1=p:=⟨_,rfl⟩;rw [hp] at HMK;have hR:=HR6.out;rw [hp] at hR;have HR7:=Lib.hid hR;clear hR lift6 hp;refine wpAnyT_ready (rs:=[6]) (by kernel_rfl) (by simp) ?_;refine AllReadyT.cons rfl (fun K hK=>?_) AllReadyT.nil;go_simp;refine HMK.out.mono ?_;rintro e w7 ⟨v,rfl,k7,cs,rfl,hst⟩;have K7:Kept [rb] w5 w7:=K6.trans (k7.mono (by simp))
    have hlo:w.heap.size≤w6.heap.size:=by have:=K6.size;have:=K45.out.size;have:=HK4.out.size;omega
    have h7:=H6.out.step k7;have HRG:=Lib.hid (ranged_any pos hpos _ p cs w7 (Nat.le_refl _) h7 hst.get);obtain ⟨pk,pl,pr,pc,pks⟩:=p;obtain ⟨pa,pcc,rfl,_⟩:=hst.get.rows;have HST:=Lib.hid hst;have H7:=Lib.hid h7;refine hK.out _ _ K7 (fun hH=>?_);clear hK K k7 hst h7 K6
    (try simp only [Act.put,List.setIfInBounds_toArray,List.set_cons_zero,List.set_cons_succ])
    refine wpAnyT_ready (rs:=[8]) (by kernel_rfl) (by simp) ?_;refine AllReadyT.cons rfl (fun K hK=>?_) AllReadyT.nil;go_simp;have hR:=HR7.out
    unfold chk at hR
    cases hrg:rangedB (.node pk pl pr pc pks)
    ·rw [hrg] at hR HRG;simp only [Bool.false_eq_true,if_false] at hR;subst hR;refine HRG.out.mono ?_
     unfold RngE
     rintro e w8 ⟨⟨q,rfl⟩,k8⟩;exact ⟨rfl,⟨q,rfl⟩,((HK4.out.trans K45.out).trans K7).trans (k8.mono (by simp))⟩
    ·rw [hrg] at hR HRG;simp only [if_true] at hR;subst hR;refine HRG.out.mono ?_
     unfold RngE
     rintro e w8 ⟨rfl,k8⟩;have K8:Kept [rb] w5 w8:=K7.trans (k8.mono (by simp));refine hK.out _ _ K8 (fun hH=>?_);clear hK K
     (try simp only [Act.put,List.setIfInBounds_toArray,List.set_cons_zero,List.set_cons_succ])
     have hb8:=HA5.out.kept K8 (by simp;omega);have c0:w8.cell? ⟨w.heap.size+1,0,none⟩=some (.int .i64 0):=hb8.cell 0;have c1:w8.cell? ⟨w.heap.size+1,1,none⟩=some (.string ⟨#[]⟩):=hb8.cell 1;have c2:w8.cell? ⟨w.heap.size+1,2,none⟩=some (.string ⟨#[]⟩):=hb8.cell 2;have c3:w8.cell? ⟨w.heap.size+1,3,none⟩=some (.int .i64 0):=hb8.cell 3;have c4:w8.cell? ⟨w.heap.size+1,4,none⟩=some (.slice none 0 0):=hb8.cell 4;have f0:=hb8.frozen 0;have f1:=hb8.frozen 1;have f2:=hb8.frozen 2;have f3:=hb8.frozen 3;have f4:=hb8.frozen 4;have HB8:=Lib.hid hb8;have HB6:Hid (w.heap.size+2≤w6.heap.size):=Lib.hid (by have:=HB66.out;omega);have HK8:=Lib.hid k8;have KW8:=Lib.hid ((HK4.out.trans K45.out).trans K8);clear hb8 k8 K8 K7 s0 s1 s2;refine wpAnyT_ready (rs:=[9]) (by kernel_rfl) (by simp) ?_;refine AllReadyT.last rfl (by kernel_rfl) (fun K hK=>?_);go_simp;refine hK.out _ _ ?_;clear hK K
     (try simp only [Act.put,List.setIfInBounds_toArray,List.set_cons_zero,List.set_cons_succ])
     refine wpAnyT_done (by kernel_rfl) ?_ _;go_wp2_with fail;refine compare_end (((((HB8.out.set_ 0 _).set_ 1 _).set_ 2 _).set_ 3 _).set_ 4 _) rfl rfl ?_;have kF:=(((((Kept.refl [w.heap.size+1] w8).setCell (p:=⟨w.heap.size+1,0,none⟩) (Or.inl (by simp)) (.int .i64 pk)).setCell (p:=⟨w.heap.size+1,1,none⟩) (Or.inl (by simp)) (.string ⟨pl.toArray⟩)).setCell (p:=⟨w.heap.size+1,2,none⟩) (Or.inl (by simp)) (.string ⟨pr.toArray⟩)).setCell (p:=⟨w.heap.size+1,3,none⟩) (Or.inl (by simp)) (.int .i64 pc)).setCell (p:=⟨w.heap.size+1,4,none⟩) (Or.inl (by simp)) (.slice pa pks.length pcc);refine ⟨_,rfl,KW8.out.fresh kF (fun y hy=>by rw [List.mem_singleton] at hy;omega),(H7.out.step HK8.out).far kF (fun y hy=>by rw [List.mem_singleton] at hy;omega),?_⟩;exact ⟨[.int .i64 pk,.string ⟨pl.toArray⟩,.string ⟨pr.toArray⟩,.int .i64 pc,.slice pa pks.length pcc],rfl,((HST.out.step (X':=List.range w6.heap.size) HK8.out (fun y hy _=>by simp at hy) (fun y hy=>Or.inl hy)).step (X':=List.range w.heap.size) kF (fun y hy _=>by rw [List.mem_singleton] at hy;have:=KW8.out.size;exact List.mem_range.2 (by have:=HB6.out;omega)) (fun y hy=>Or.inl (List.mem_range.2 (by have:=List.mem_range.1 hy;omega))))⟩
  ·have c0:wr.cell? ⟨H+4,4,none⟩=some (.string ⟨#[62,61]⟩):=HSBR.out.cell 4;have c1:wr.cell? ⟨H+4,5,none⟩=some (.func (.func 260) #[] #[]):=HSBR.out.cell 5;go_upto_region 4 with (fail);obtain ⟨g,hg⟩:∃ g,wr.heap.size=g:=⟨_,rfl⟩;obtain ⟨wa,hwa⟩:∃ x,wr.alloc (.cells #[.string ⟨#[62,61]⟩,.func (.func 260) #[] #[]] 283)=x:=⟨_,rfl⟩;rw [hwa,hg];have kA:Kept [] wr wa:=hwa▸(Kept.refl _ _).alloc _;have bA:Blk wa g 283 #[.string ⟨#[62,61]⟩,.func (.func 260) #[] #[]]:=hg▸hwa▸Blk.new _ _ _
   have hgl:w.heap.size+2≤g:=by have:=HAR.out.lt;omega
   have y0:wa.cell? ⟨g,0,none⟩=some (.string ⟨#[62,61]⟩):=bA.cell 0;have H1:=Lib.hid (skip_any (HPS.out.step kA) [62,61]);have KA:=Lib.hid kA;have BAA:=Lib.hid bA;clear hwa kA bA c0 c1 hg
   cases hs:skipP ts [62,61] n0
   ·rw [hs] at H1;go_wp2_with (go_at_call 115;refine H1.out.mono ?_;rintro e w5 ⟨rfl,k5,h5⟩)
    go_roundw
    case rel=>exact ⟨3,rfl,by decide,by decide,(HKR.out.trans (KA.out.mono (by simp))).trans k5,h5,take_more (k:=2) (s:=([62,61],fun a b=>mostB b a 0)) rfl HPA.out hs⟩
    case measure=>simp [intOf]
   ·rw [hs] at H1;have hR:=HR.out;rw [find_at (k:=2) (s:=([62,61],fun a b=>mostB b a 0)) rfl HPA.out hs] at hR
    simp only at hR
    have HRR:=Lib.hid hR;clear hR;go_upto_region 5 with (go_at_call 115;refine H1.out.mono ?_;rintro e w5 ⟨rfl,k5,h5⟩);have h5':Ps B W0 rb ts a c z w5 (n0+1):=h5;have K45:=Lib.hid ((HKR.out.trans (KA.out.mono (by simp))).trans k5);have KR5:=Lib.hid ((KA.out.mono (by simp):Kept [rb] wr wa).trans k5);have hA5:=(HAR.out.kept KA.out (by simp)).kept k5 (by simp;omega);have hS5:=(HSR.out.kept KA.out (by simp)).kept k5 (by simp;omega);have hG5:=BAA.out.kept k5 (by simp;omega);have s0:∀ w',Kept [rb] w5 w'→w'.cell? ⟨g,1,none⟩=some (.func (.func 260) #[] #[]):=fun w' k=>(hG5.kept k (by simp;omega)).cell 1;have s1:∀ w',Kept [rb] w5 w'→w'.cell? ⟨w.heap.size,0,none⟩=some (.string ⟨sm.name.toArray⟩):=fun w' k=>(hS5.kept k (by simp;omega)).cell 0;have s2:∀ w',Kept [rb] w5 w'→w'.cell? ⟨w.heap.size,1,none⟩=some (.int .i64 sm.off):=fun w' k=>(hS5.kept k (by simp;omega)).cell 1;have HSU:=Lib.hid (sum_any (h5'.step (Kept.refl [] w5).drew));have HA5:=Lib.hid hA5;clear hA5 hS5 hG5 h5 h5' k5 y0 H1 BAA KA;refine wp_region_T [9] (fun w'=>Kept [rb] w5 w') (by kernel_rfl) (Kept.refl _ _).drew (fun hH=>?_);refine takeT [8,9] (i:=0) (v:=?tv0k2) rfl (by kernel_rfl) (by kernel_rfl) (by kernel_rfl) (by kernel_rfl) (fun _ _ _ h=>h) (Or.inl ⟨by rfl,?ty0k2⟩) hH ?tr0k2
    case ty0k2=>intro w' hSw;(try dsimp only at hSw);go_simp;first|done|with_reducible rfl
    simp only [Act.put,List.setIfInBounds_toArray,List.set_cons_zero,List.set_cons_succ];refine takeT [2,6,8,9] (i:=1) (v:=?tv1k2) rfl (by kernel_rfl) (by kernel_rfl) (by kernel_rfl) (by kernel_rfl) (fun _ _ _ h=>h) (Or.inl ⟨by rfl,?ty1k2⟩) hH ?tr1k2
    case ty1k2=>intro w' hSw;(try dsimp only at hSw);go_simp;first|done|with_reducible rfl
    simp only [Act.put,List.setIfInBounds_toArray,List.set_cons_zero,List.set_cons_succ];refine takeT [6,8,9] (i:=2) (v:=?tv2k2) rfl (by kernel_rfl) (by kernel_rfl) (by kernel_rfl) (by kernel_rfl) (fun _ _ _ h=>h) (Or.inl ⟨by rfl,?ty2k2⟩) hH ?tr2k2
    case ty2k2=>intro w' hSw;(try dsimp only at hSw);go_simp;first|done|with_reducible rfl
    simp only [Act.put,List.setIfInBounds_toArray,List.set_cons_zero,List.set_cons_succ];refine takeT [6,8,9] (i:=3) (v:=?tv3k2) rfl (by kernel_rfl) (by kernel_rfl) (by kernel_rfl) (by kernel_rfl) (fun _ _ _ h=>h) (Or.inl ⟨by rfl,?ty3k2⟩) hH ?tr3k2
    case ty3k2=>intro w' hSw;(try dsimp only at hSw);go_simp;first|done|with_reducible rfl
    simp only [Act.put,List.setIfInBounds_toArray,List.set_cons_zero,List.set_cons_succ];refine takeT [5,6,8,9] (i:=4) (v:=?tv4k2) rfl (by kernel_rfl) (by kernel_rfl) (by kernel_rfl) (by kernel_rfl) (fun _ _ _ h=>h) (Or.inl ⟨by rfl,?ty4k2⟩) hH ?tr4k2
    case ty4k2=>intro w' hSw;(try dsimp only at hSw);go_simp;first|done|with_reducible rfl
    simp only [Act.put,List.setIfInBounds_toArray,List.set_cons_zero,List.set_cons_succ];refine takeT [8,9] (i:=7) (v:=?tv7k2) rfl (by kernel_rfl) (by kernel_rfl) (by kernel_rfl) (by kernel_rfl) (fun _ _ _ h=>h) (Or.inl ⟨by rfl,?ty7k2⟩) hH ?tr7k2
    case ty7k2=>intro w' hSw;(try dsimp only at hSw);go_simp;first|done|with_reducible rfl
    simp only [Act.put,List.setIfInBounds_toArray,List.set_cons_zero,List.set_cons_succ];refine wpAnyT_ready (rs:=[5]) (by kernel_rfl) (by simp) ?_;refine AllReadyT.cons rfl (fun K hK=>?_) AllReadyT.nil;go_simp
    cases hsum:sumP ts (n0+1) with
    | error er =>
     have hR:=HRR.out;rw [hsum] at hR HSU;simp only [bnd] at hR;subst hR;refine HSU.out.mono ?_
     unfold SumE
     rintro e w6 ⟨⟨p,rfl⟩,k6⟩;exact ⟨rfl,⟨p,rfl⟩,(HK4.out.trans K45.out).drew.trans k6⟩
    | ok y =>
    obtain ⟨b,j⟩:=y;have hR:=HRR.out;rw [hsum] at hR HSU;simp only [bnd] at hR;have HR6:=Lib.hid hR;clear hR;refine HSU.out.mono ?_
    unfold SumE
    rintro e w6 ⟨rfl,k6,h6,hbI,hbl⟩;have K6:Kept [rb] w5 w6:=(Kept.refl _ _).drew.trans k6;have H6:=Lib.hid h6;have HB66:=Lib.hid ((HA5.out.kept K6 (by simp;omega)).lt);refine hK.out _ _ K6 (fun hH=>?_);clear hK K k6 h6
    (try simp only [Act.put,List.setIfInBounds_toArray,List.set_cons_zero,List.set_cons_succ])
    have lift6:∀ {p:Addr} {v:Value},wr.cell? p=some v→p.block≠rb→w6.cell? p=some v:=fun h hne=>((KR5.out.trans K6).cell (World.block_lt_of_cell? wr _ h) (by simpa using hne)).trans h;have HMK:=Lib.hid (sgn4_any sm b w6 hsm hbI);obtain ⟨p,hp⟩:∃ p,mostB b sm 0=p:=⟨_,rfl⟩;rw [hp] at HMK;have hR:=HR6.out;rw [hp] at hR;have HR7:=Lib.hid hR;clear hR lift6 hp;refine wpAnyT_ready (rs:=[6]) (by kernel_rfl) (by simp) ?_;refine AllReadyT.cons rfl (fun K hK=>?_) AllReadyT.nil;go_simp;refine HMK.out.mono ?_;rintro e w7 ⟨v,rfl,k7,cs,rfl,hst⟩;have K7:Kept [rb] w5 w7:=K6.trans (k7.mono (by simp))
    have hlo:w.heap.size≤w6.heap.size:=by have:=K6.size;have:=K45.out.size;have:=HK4.out.size;omega
    have h7:=H6.out.step k7;have HRG:=Lib.hid (ranged_any pos hpos _ p cs w7 (Nat.le_refl _) h7 hst.get);obtain ⟨pk,pl,pr,pc,pks⟩:=p;obtain ⟨pa,pcc,rfl,_⟩:=hst.get.rows;have HST:=Lib.hid hst;have H7:=Lib.hid h7;refine hK.out _ _ K7 (fun hH=>?_);clear hK K k7 hst h7 K6
    (try simp only [Act.put,List.setIfInBounds_toArray,List.set_cons_zero,List.set_cons_succ])
    refine wpAnyT_ready (rs:=[8]) (by kernel_rfl) (by simp) ?_;refine AllReadyT.cons rfl (fun K hK=>?_) AllReadyT.nil;go_simp;have hR:=HR7.out
    unfold chk at hR
    cases hrg:rangedB (.node pk pl pr pc pks)
    ·rw [hrg] at hR HRG;simp only [Bool.false_eq_true,if_false] at hR;subst hR;refine HRG.out.mono ?_
     unfold RngE
     rintro e w8 ⟨⟨q,rfl⟩,k8⟩;exact ⟨rfl,⟨q,rfl⟩,((HK4.out.trans K45.out).trans K7).trans (k8.mono (by simp))⟩
    ·rw [hrg] at hR HRG;simp only [if_true] at hR;subst hR;refine HRG.out.mono ?_
     unfold RngE
     rintro e w8 ⟨rfl,k8⟩;have K8:Kept [rb] w5 w8:=K7.trans (k8.mono (by simp));refine hK.out _ _ K8 (fun hH=>?_);clear hK K
     (try simp only [Act.put,List.setIfInBounds_toArray,List.set_cons_zero,List.set_cons_succ])
     have hb8:=HA5.out.kept K8 (by simp;omega);have c0:w8.cell? ⟨w.heap.size+1,0,none⟩=some (.int .i64 0):=hb8.cell 0;have c1:w8.cell? ⟨w.heap.size+1,1,none⟩=some (.string ⟨#[]⟩):=hb8.cell 1;have c2:w8.cell? ⟨w.heap.size+1,2,none⟩=some (.string ⟨#[]⟩):=hb8.cell 2;have c3:w8.cell? ⟨w.heap.size+1,3,none⟩=some (.int .i64 0):=hb8.cell 3;have c4:w8.cell? ⟨w.heap.size+1,4,none⟩=some (.slice none 0 0):=hb8.cell 4;have f0:=hb8.frozen 0;have f1:=hb8.frozen 1;have f2:=hb8.frozen 2;have f3:=hb8.frozen 3;have f4:=hb8.frozen 4;have HB8:=Lib.hid hb8;have HB6:Hid (w.heap.size+2≤w6.heap.size):=Lib.hid (by have:=HB66.out;omega);have HK8:=Lib.hid k8;have KW8:=Lib.hid ((HK4.out.trans K45.out).trans K8);clear hb8 k8 K8 K7 s0 s1 s2;refine wpAnyT_ready (rs:=[9]) (by kernel_rfl) (by simp) ?_;refine AllReadyT.last rfl (by kernel_rfl) (fun K hK=>?_);go_simp;refine hK.out _ _ ?_;clear hK K
     (try simp only [Act.put,List.setIfInBounds_toArray,List.set_cons_zero,List.set_cons_succ])
     refine wpAnyT_done (by kernel_rfl) ?_ _;go_wp2_with fail;refine compare_end (((((HB8.out.set_ 0 _).set_ 1 _).set_ 2 _).set_ 3 _).set_ 4 _) rfl rfl ?_;have kF:=(((((Kept.refl [w.heap.size+1] w8).setCell (p:=⟨w.heap.size+1,0,none⟩) (Or.inl (by simp)) (.int .i64 pk)).setCell (p:=⟨w.heap.size+1,1,none⟩) (Or.inl (by simp)) (.string ⟨pl.toArray⟩)).setCell (p:=⟨w.heap.size+1,2,none⟩) (Or.inl (by simp)) (.string ⟨pr.toArray⟩)).setCell (p:=⟨w.heap.size+1,3,none⟩) (Or.inl (by simp)) (.int .i64 pc)).setCell (p:=⟨w.heap.size+1,4,none⟩) (Or.inl (by simp)) (.slice pa pks.length pcc);refine ⟨_,rfl,KW8.out.fresh kF (fun y hy=>by rw [List.mem_singleton] at hy;omega),(H7.out.step HK8.out).far kF (fun y hy=>by rw [List.mem_singleton] at hy;omega),?_⟩;exact ⟨[.int .i64 pk,.string ⟨pl.toArray⟩,.string ⟨pr.toArray⟩,.int .i64 pc,.slice pa pks.length pcc],rfl,((HST.out.step (X':=List.range w6.heap.size) HK8.out (fun y hy _=>by simp at hy) (fun y hy=>Or.inl hy)).step (X':=List.range w.heap.size) kF (fun y hy _=>by rw [List.mem_singleton] at hy;have:=KW8.out.size;exact List.mem_range.2 (by have:=HB6.out;omega)) (fun y hy=>Or.inl (List.mem_range.2 (by have:=List.mem_range.1 hy;omega))))⟩
  ·have c0:wr.cell? ⟨H+4,6,none⟩=some (.string ⟨#[62]⟩):=HSBR.out.cell 6;have c1:wr.cell? ⟨H+4,7,none⟩=some (.func (.func 261) #[] #[]):=HSBR.out.cell 7;go_upto_region 4 with (fail);obtain ⟨g,hg⟩:∃ g,wr.heap.size=g:=⟨_,rfl⟩;obtain ⟨wa,hwa⟩:∃ x,wr.alloc (.cells #[.string ⟨#[62]⟩,.func (.func 261) #[] #[]] 283)=x:=⟨_,rfl⟩;rw [hwa,hg];have kA:Kept [] wr wa:=hwa▸(Kept.refl _ _).alloc _;have bA:Blk wa g 283 #[.string ⟨#[62]⟩,.func (.func 261) #[] #[]]:=hg▸hwa▸Blk.new _ _ _
   have hgl:w.heap.size+2≤g:=by have:=HAR.out.lt;omega
   have y0:wa.cell? ⟨g,0,none⟩=some (.string ⟨#[62]⟩):=bA.cell 0;have H1:=Lib.hid (skip_any (HPS.out.step kA) [62]);have KA:=Lib.hid kA;have BAA:=Lib.hid bA;clear hwa kA bA c0 c1 hg
   cases hs:skipP ts [62] n0
   ·rw [hs] at H1;go_wp2_with (go_at_call 115;refine H1.out.mono ?_;rintro e w5 ⟨rfl,k5,h5⟩)
    go_roundw
    case rel=>exact ⟨4,rfl,by decide,by decide,(HKR.out.trans (KA.out.mono (by simp))).trans k5,h5,take_more (k:=3) (s:=([62],fun a b=>mostB b a 1)) rfl HPA.out hs⟩
    case measure=>simp [intOf]
   ·rw [hs] at H1;have hR:=HR.out;rw [find_at (k:=3) (s:=([62],fun a b=>mostB b a 1)) rfl HPA.out hs] at hR
    simp only at hR
    have HRR:=Lib.hid hR;clear hR;go_upto_region 5 with (go_at_call 115;refine H1.out.mono ?_;rintro e w5 ⟨rfl,k5,h5⟩);have h5':Ps B W0 rb ts a c z w5 (n0+1):=h5;have K45:=Lib.hid ((HKR.out.trans (KA.out.mono (by simp))).trans k5);have KR5:=Lib.hid ((KA.out.mono (by simp):Kept [rb] wr wa).trans k5);have hA5:=(HAR.out.kept KA.out (by simp)).kept k5 (by simp;omega);have hS5:=(HSR.out.kept KA.out (by simp)).kept k5 (by simp;omega);have hG5:=BAA.out.kept k5 (by simp;omega);have s0:∀ w',Kept [rb] w5 w'→w'.cell? ⟨g,1,none⟩=some (.func (.func 261) #[] #[]):=fun w' k=>(hG5.kept k (by simp;omega)).cell 1;have s1:∀ w',Kept [rb] w5 w'→w'.cell? ⟨w.heap.size,0,none⟩=some (.string ⟨sm.name.toArray⟩):=fun w' k=>(hS5.kept k (by simp;omega)).cell 0;have s2:∀ w',Kept [rb] w5 w'→w'.cell? ⟨w.heap.size,1,none⟩=some (.int .i64 sm.off):=fun w' k=>(hS5.kept k (by simp;omega)).cell 1;have HSU:=Lib.hid (sum_any (h5'.step (Kept.refl [] w5).drew));have HA5:=Lib.hid hA5;clear hA5 hS5 hG5 h5 h5' k5 y0 H1 BAA KA;refine wp_region_T [9] (fun w'=>Kept [rb] w5 w') (by kernel_rfl) (Kept.refl _ _).drew (fun hH=>?_);refine takeT [8,9] (i:=0) (v:=?tv0k3) rfl (by kernel_rfl) (by kernel_rfl) (by kernel_rfl) (by kernel_rfl) (fun _ _ _ h=>h) (Or.inl ⟨by rfl,?ty0k3⟩) hH ?tr0k3
    case ty0k3=>intro w' hSw;(try dsimp only at hSw);go_simp;first|done|with_reducible rfl
    simp only [Act.put,List.setIfInBounds_toArray,List.set_cons_zero,List.set_cons_succ];refine takeT [2,6,8,9] (i:=1) (v:=?tv1k3) rfl (by kernel_rfl) (by kernel_rfl) (by kernel_rfl) (by kernel_rfl) (fun _ _ _ h=>h) (Or.inl ⟨by rfl,?ty1k3⟩) hH ?tr1k3
    case ty1k3=>intro w' hSw;(try dsimp only at hSw);go_simp;first|done|with_reducible rfl
    simp only [Act.put,List.setIfInBounds_toArray,List.set_cons_zero,List.set_cons_succ];refine takeT [6,8,9] (i:=2) (v:=?tv2k3) rfl (by kernel_rfl) (by kernel_rfl) (by kernel_rfl) (by kernel_rfl) (fun _ _ _ h=>h) (Or.inl ⟨by rfl,?ty2k3⟩) hH ?tr2k3
    case ty2k3=>intro w' hSw;(try dsimp only at hSw);go_simp;first|done|with_reducible rfl
    simp only [Act.put,List.setIfInBounds_toArray,List.set_cons_zero,List.set_cons_succ];refine takeT [6,8,9] (i:=3) (v:=?tv3k3) rfl (by kernel_rfl) (by kernel_rfl) (by kernel_rfl) (by kernel_rfl) (fun _ _ _ h=>h) (Or.inl ⟨by rfl,?ty3k3⟩) hH ?tr3k3
    case ty3k3=>intro w' hSw;(try dsimp only at hSw);go_simp;first|done|with_reducible rfl
    simp only [Act.put,List.setIfInBounds_toArray,List.set_cons_zero,List.set_cons_succ];refine takeT [5,6,8,9] (i:=4) (v:=?tv4k3) rfl (by kernel_rfl) (by kernel_rfl) (by kernel_rfl) (by kernel_rfl) (fun _ _ _ h=>h) (Or.inl ⟨by rfl,?ty4k3⟩) hH ?tr4k3
    case ty4k3=>intro w' hSw;(try dsimp only at hSw);go_simp;first|done|with_reducible rfl
    simp only [Act.put,List.setIfInBounds_toArray,List.set_cons_zero,List.set_cons_succ];refine takeT [8,9] (i:=7) (v:=?tv7k3) rfl (by kernel_rfl) (by kernel_rfl) (by kernel_rfl) (by kernel_rfl) (fun _ _ _ h=>h) (Or.inl ⟨by rfl,?ty7k3⟩) hH ?tr7k3
    case ty7k3=>intro w' hSw;(try dsimp only at hSw);go_simp;first|done|with_reducible rfl
    simp only [Act.put,List.setIfInBounds_toArray,List.set_cons_zero,List.set_cons_succ];refine wpAnyT_ready (rs:=[5]) (by kernel_rfl) (by simp) ?_;refine AllReadyT.cons rfl (fun K hK=>?_) AllReadyT.nil;go_simp
    cases hsum:sumP ts (n0+1) with
    | error er =>
     have hR:=HRR.out;rw [hsum] at hR HSU;simp only [bnd] at hR;subst hR;refine HSU.out.mono ?_
     unfold SumE
     rintro e w6 ⟨⟨p,rfl⟩,k6⟩;exact ⟨rfl,⟨p,rfl⟩,(HK4.out.trans K45.out).drew.trans k6⟩
    | ok y =>
    obtain ⟨b,j⟩:=y;have hR:=HRR.out;rw [hsum] at hR HSU;simp only [bnd] at hR;have HR6:=Lib.hid hR;clear hR;refine HSU.out.mono ?_
    unfold SumE
    rintro e w6 ⟨rfl,k6,h6,hbI,hbl⟩;have K6:Kept [rb] w5 w6:=(Kept.refl _ _).drew.trans k6;have H6:=Lib.hid h6;have HB66:=Lib.hid ((HA5.out.kept K6 (by simp;omega)).lt);refine hK.out _ _ K6 (fun hH=>?_);clear hK K k6 h6
    (try simp only [Act.put,List.setIfInBounds_toArray,List.set_cons_zero,List.set_cons_succ])
    have lift6:∀ {p:Addr} {v:Value},wr.cell? p=some v→p.block≠rb→w6.cell? p=some v:=fun h hne=>((KR5.out.trans K6).cell (World.block_lt_of_cell? wr _ h) (by simpa using hne)).trans h;have HMK:=Lib.hid (sgn5_any sm b w6 hsm hbI);obtain ⟨p,hp⟩:∃ p,mostB b sm 1=p:=⟨_,rfl⟩;rw [hp] at HMK;have hR:=HR6.out;rw [hp] at hR;have HR7:=Lib.hid hR;clear hR lift6 hp;refine wpAnyT_ready (rs:=[6]) (by kernel_rfl) (by simp) ?_;refine AllReadyT.cons rfl (fun K hK=>?_) AllReadyT.nil;go_simp;refine HMK.out.mono ?_;rintro e w7 ⟨v,rfl,k7,cs,rfl,hst⟩;have K7:Kept [rb] w5 w7:=K6.trans (k7.mono (by simp))
    have hlo:w.heap.size≤w6.heap.size:=by have:=K6.size;have:=K45.out.size;have:=HK4.out.size;omega
    have h7:=H6.out.step k7;have HRG:=Lib.hid (ranged_any pos hpos _ p cs w7 (Nat.le_refl _) h7 hst.get);obtain ⟨pk,pl,pr,pc,pks⟩:=p;obtain ⟨pa,pcc,rfl,_⟩:=hst.get.rows;have HST:=Lib.hid hst;have H7:=Lib.hid h7;refine hK.out _ _ K7 (fun hH=>?_);clear hK K k7 hst h7 K6
    (try simp only [Act.put,List.setIfInBounds_toArray,List.set_cons_zero,List.set_cons_succ])
    refine wpAnyT_ready (rs:=[8]) (by kernel_rfl) (by simp) ?_;refine AllReadyT.cons rfl (fun K hK=>?_) AllReadyT.nil;go_simp;have hR:=HR7.out
    unfold chk at hR
    cases hrg:rangedB (.node pk pl pr pc pks)
    ·rw [hrg] at hR HRG;simp only [Bool.false_eq_true,if_false] at hR;subst hR;refine HRG.out.mono ?_
     unfold RngE
     rintro e w8 ⟨⟨q,rfl⟩,k8⟩;exact ⟨rfl,⟨q,rfl⟩,((HK4.out.trans K45.out).trans K7).trans (k8.mono (by simp))⟩
    ·rw [hrg] at hR HRG;simp only [if_true] at hR;subst hR;refine HRG.out.mono ?_
     unfold RngE
     rintro e w8 ⟨rfl,k8⟩;have K8:Kept [rb] w5 w8:=K7.trans (k8.mono (by simp));refine hK.out _ _ K8 (fun hH=>?_);clear hK K
     (try simp only [Act.put,List.setIfInBounds_toArray,List.set_cons_zero,List.set_cons_succ])
     have hb8:=HA5.out.kept K8 (by simp;omega);have c0:w8.cell? ⟨w.heap.size+1,0,none⟩=some (.int .i64 0):=hb8.cell 0;have c1:w8.cell? ⟨w.heap.size+1,1,none⟩=some (.string ⟨#[]⟩):=hb8.cell 1;have c2:w8.cell? ⟨w.heap.size+1,2,none⟩=some (.string ⟨#[]⟩):=hb8.cell 2;have c3:w8.cell? ⟨w.heap.size+1,3,none⟩=some (.int .i64 0):=hb8.cell 3;have c4:w8.cell? ⟨w.heap.size+1,4,none⟩=some (.slice none 0 0):=hb8.cell 4;have f0:=hb8.frozen 0;have f1:=hb8.frozen 1;have f2:=hb8.frozen 2;have f3:=hb8.frozen 3;have f4:=hb8.frozen 4;have HB8:=Lib.hid hb8;have HB6:Hid (w.heap.size+2≤w6.heap.size):=Lib.hid (by have:=HB66.out;omega);have HK8:=Lib.hid k8;have KW8:=Lib.hid ((HK4.out.trans K45.out).trans K8);clear hb8 k8 K8 K7 s0 s1 s2;refine wpAnyT_ready (rs:=[9]) (by kernel_rfl) (by simp) ?_;refine AllReadyT.last rfl (by kernel_rfl) (fun K hK=>?_);go_simp;refine hK.out _ _ ?_;clear hK K
     (try simp only [Act.put,List.setIfInBounds_toArray,List.set_cons_zero,List.set_cons_succ])
     refine wpAnyT_done (by kernel_rfl) ?_ _;go_wp2_with fail;refine compare_end (((((HB8.out.set_ 0 _).set_ 1 _).set_ 2 _).set_ 3 _).set_ 4 _) rfl rfl ?_;have kF:=(((((Kept.refl [w.heap.size+1] w8).setCell (p:=⟨w.heap.size+1,0,none⟩) (Or.inl (by simp)) (.int .i64 pk)).setCell (p:=⟨w.heap.size+1,1,none⟩) (Or.inl (by simp)) (.string ⟨pl.toArray⟩)).setCell (p:=⟨w.heap.size+1,2,none⟩) (Or.inl (by simp)) (.string ⟨pr.toArray⟩)).setCell (p:=⟨w.heap.size+1,3,none⟩) (Or.inl (by simp)) (.int .i64 pc)).setCell (p:=⟨w.heap.size+1,4,none⟩) (Or.inl (by simp)) (.slice pa pks.length pcc);refine ⟨_,rfl,KW8.out.fresh kF (fun y hy=>by rw [List.mem_singleton] at hy;omega),(H7.out.step HK8.out).far kF (fun y hy=>by rw [List.mem_singleton] at hy;omega),?_⟩;exact ⟨[.int .i64 pk,.string ⟨pl.toArray⟩,.string ⟨pr.toArray⟩,.int .i64 pc,.slice pa pks.length pcc],rfl,((HST.out.step (X':=List.range w6.heap.size) HK8.out (fun y hy _=>by simp at hy) (fun y hy=>Or.inl hy)).step (X':=List.range w.heap.size) kF (fun y hy _=>by rw [List.mem_singleton] at hy;have:=KW8.out.size;exact List.mem_range.2 (by have:=HB6.out;omega)) (fun y hy=>Or.inl (List.mem_range.2 (by have:=List.mem_range.1 hy;omega))))⟩
  ·have c0:wr.cell? ⟨H+4,8,none⟩=some (.string ⟨#[61]⟩):=HSBR.out.cell 8;have c1:wr.cell? ⟨H+4,9,none⟩=some (.func (.func 257) #[] #[.pointer (some ⟨H,0,none⟩),.pointer (some ⟨H+1,0,none⟩)]):=HSBR.out.cell 9;go_upto_region 4 with (fail);obtain ⟨g,hg⟩:∃ g,wr.heap.size=g:=⟨_,rfl⟩;obtain ⟨wa,hwa⟩:∃ x,wr.alloc (.cells #[.string ⟨#[61]⟩,.func (.func 257) #[] #[.pointer (some ⟨H,0,none⟩),.pointer (some ⟨H+1,0,none⟩)]] 283)=x:=⟨_,rfl⟩;rw [hwa,hg];have kA:Kept [] wr wa:=hwa▸(Kept.refl _ _).alloc _;have bA:Blk wa g 283 #[.string ⟨#[61]⟩,.func (.func 257) #[] #[.pointer (some ⟨H,0,none⟩),.pointer (some ⟨H+1,0,none⟩)]]:=hg▸hwa▸Blk.new _ _ _
   have hgl:w.heap.size+2≤g:=by have:=HAR.out.lt;omega
   have y0:wa.cell? ⟨g,0,none⟩=some (.string ⟨#[61]⟩):=bA.cell 0;have H1:=Lib.hid (skip_any (HPS.out.step kA) [61]);have KA:=Lib.hid kA;have BAA:=Lib.hid bA;clear hwa kA bA c0 c1 hg
   cases hs:skipP ts [61] n0
   ·rw [hs] at H1;go_wp2_with (go_at_call 115;refine H1.out.mono ?_;rintro e w5 ⟨rfl,k5,h5⟩)
    go_roundw
    case rel=>exact ⟨5,rfl,by decide,by decide,(HKR.out.trans (KA.out.mono (by simp))).trans k5,h5,take_more (k:=4) (s:=([61],fun a b=>.node 1 [] [] 0 [mostB a b 0,mostB b a 0])) rfl HPA.out hs⟩
    case measure=>simp [intOf]
   ·rw [hs] at H1;have hR:=HR.out;rw [find_at (k:=4) (s:=([61],fun a b=>.node 1 [] [] 0 [mostB a b 0,mostB b a 0])) rfl HPA.out hs] at hR
    simp only at hR
    have HRR:=Lib.hid hR;clear hR;go_upto_region 5 with (go_at_call 115;refine H1.out.mono ?_;rintro e w5 ⟨rfl,k5,h5⟩);have h5':Ps B W0 rb ts a c z w5 (n0+1):=h5;have K45:=Lib.hid ((HKR.out.trans (KA.out.mono (by simp))).trans k5);have KR5:=Lib.hid ((KA.out.mono (by simp):Kept [rb] wr wa).trans k5);have hA5:=(HAR.out.kept KA.out (by simp)).kept k5 (by simp;omega);have hS5:=(HSR.out.kept KA.out (by simp)).kept k5 (by simp;omega);have hG5:=BAA.out.kept k5 (by simp;omega);have s0:∀ w',Kept [rb] w5 w'→w'.cell? ⟨g,1,none⟩=some (.func (.func 257) #[] #[.pointer (some ⟨H,0,none⟩),.pointer (some ⟨H+1,0,none⟩)]):=fun w' k=>(hG5.kept k (by simp;omega)).cell 1;have s1:∀ w',Kept [rb] w5 w'→w'.cell? ⟨w.heap.size,0,none⟩=some (.string ⟨sm.name.toArray⟩):=fun w' k=>(hS5.kept k (by simp;omega)).cell 0;have s2:∀ w',Kept [rb] w5 w'→w'.cell? ⟨w.heap.size,1,none⟩=some (.int .i64 sm.off):=fun w' k=>(hS5.kept k (by simp;omega)).cell 1;have HSU:=Lib.hid (sum_any (h5'.step (Kept.refl [] w5).drew));have HA5:=Lib.hid hA5;clear hA5 hS5 hG5 h5 h5' k5 y0 H1 BAA KA;refine wp_region_T [9] (fun w'=>Kept [rb] w5 w') (by kernel_rfl) (Kept.refl _ _).drew (fun hH=>?_);refine takeT [8,9] (i:=0) (v:=?tv0k4) rfl (by kernel_rfl) (by kernel_rfl) (by kernel_rfl) (by kernel_rfl) (fun _ _ _ h=>h) (Or.inl ⟨by rfl,?ty0k4⟩) hH ?tr0k4
    case ty0k4=>intro w' hSw;(try dsimp only at hSw);go_simp;first|done|with_reducible rfl
    simp only [Act.put,List.setIfInBounds_toArray,List.set_cons_zero,List.set_cons_succ];refine takeT [2,6,8,9] (i:=1) (v:=?tv1k4) rfl (by kernel_rfl) (by kernel_rfl) (by kernel_rfl) (by kernel_rfl) (fun _ _ _ h=>h) (Or.inl ⟨by rfl,?ty1k4⟩) hH ?tr1k4
    case ty1k4=>intro w' hSw;(try dsimp only at hSw);go_simp;first|done|with_reducible rfl
    simp only [Act.put,List.setIfInBounds_toArray,List.set_cons_zero,List.set_cons_succ];refine takeT [6,8,9] (i:=2) (v:=?tv2k4) rfl (by kernel_rfl) (by kernel_rfl) (by kernel_rfl) (by kernel_rfl) (fun _ _ _ h=>h) (Or.inl ⟨by rfl,?ty2k4⟩) hH ?tr2k4
    case ty2k4=>intro w' hSw;(try dsimp only at hSw);go_simp;first|done|with_reducible rfl
    simp only [Act.put,List.setIfInBounds_toArray,List.set_cons_zero,List.set_cons_succ];refine takeT [6,8,9] (i:=3) (v:=?tv3k4) rfl (by kernel_rfl) (by kernel_rfl) (by kernel_rfl) (by kernel_rfl) (fun _ _ _ h=>h) (Or.inl ⟨by rfl,?ty3k4⟩) hH ?tr3k4
    case ty3k4=>intro w' hSw;(try dsimp only at hSw);go_simp;first|done|with_reducible rfl
    simp only [Act.put,List.setIfInBounds_toArray,List.set_cons_zero,List.set_cons_succ];refine takeT [5,6,8,9] (i:=4) (v:=?tv4k4) rfl (by kernel_rfl) (by kernel_rfl) (by kernel_rfl) (by kernel_rfl) (fun _ _ _ h=>h) (Or.inl ⟨by rfl,?ty4k4⟩) hH ?tr4k4
    case ty4k4=>intro w' hSw;(try dsimp only at hSw);go_simp;first|done|with_reducible rfl
    simp only [Act.put,List.setIfInBounds_toArray,List.set_cons_zero,List.set_cons_succ];refine takeT [8,9] (i:=7) (v:=?tv7k4) rfl (by kernel_rfl) (by kernel_rfl) (by kernel_rfl) (by kernel_rfl) (fun _ _ _ h=>h) (Or.inl ⟨by rfl,?ty7k4⟩) hH ?tr7k4
    case ty7k4=>intro w' hSw;(try dsimp only at hSw);go_simp;first|done|with_reducible rfl
    simp only [Act.put,List.setIfInBounds_toArray,List.set_cons_zero,List.set_cons_succ];refine wpAnyT_ready (rs:=[5]) (by kernel_rfl) (by simp) ?_;refine AllReadyT.cons rfl (fun K hK=>?_) AllReadyT.nil;go_simp
    cases hsum:sumP ts (n0+1) with
    | error er =>
     have hR:=HRR.out;rw [hsum] at hR HSU;simp only [bnd] at hR;subst hR;refine HSU.out.mono ?_
     unfold SumE
     rintro e w6 ⟨⟨p,rfl⟩,k6⟩;exact ⟨rfl,⟨p,rfl⟩,(HK4.out.trans K45.out).drew.trans k6⟩
    | ok y =>
    obtain ⟨b,j⟩:=y;have hR:=HRR.out;rw [hsum] at hR HSU;simp only [bnd] at hR;have HR6:=Lib.hid hR;clear hR;refine HSU.out.mono ?_
    unfold SumE
    rintro e w6 ⟨rfl,k6,h6,hbI,hbl⟩;have K6:Kept [rb] w5 w6:=(Kept.refl _ _).drew.trans k6;have H6:=Lib.hid h6;have HB66:=Lib.hid ((HA5.out.kept K6 (by simp;omega)).lt);refine hK.out _ _ K6 (fun hH=>?_);clear hK K k6 h6
    (try simp only [Act.put,List.setIfInBounds_toArray,List.set_cons_zero,List.set_cons_succ])
    have lift6:∀ {p:Addr} {v:Value},wr.cell? p=some v→p.block≠rb→w6.cell? p=some v:=fun h hne=>((KR5.out.trans K6).cell (World.block_lt_of_cell? wr _ h) (by simpa using hne)).trans h;have HMK:=Lib.hid (sgnB_any sm b 1 0 _ _ w6 hsm hbI (by decide) (lift6 Y0.out (by show H≠rb;omega)) (lift6 Y1.out (by show H+1≠rb;omega)));obtain ⟨p,hp⟩:∃ p,Pd.node 1 [] [] 0 [mostB sm b 0,mostB b sm 0]=p:=⟨_,rfl⟩;rw [hp] at HMK;have hR:=HR6.out;rw [hp] at hR;have HR7:=Lib.hid hR;clear hR lift6 hp;refine wpAnyT_ready (rs:=[6]) (by kernel_rfl) (by simp) ?_;refine AllReadyT.cons rfl (fun K hK=>?_) AllReadyT.nil;go_simp;refine HMK.out.mono ?_;rintro e w7 ⟨v,rfl,k7,cs,rfl,hst⟩;have K7:Kept [rb] w5 w7:=K6.trans (k7.mono (by simp))
    have hlo:w.heap.size≤w6.heap.size:=by have:=K6.size;have:=K45.out.size;have:=HK4.out.size;omega
    have h7:=H6.out.step k7;have HRG:=Lib.hid (ranged_any pos hpos _ p cs w7 (Nat.le_refl _) h7 hst.get);obtain ⟨pk,pl,pr,pc,pks⟩:=p;obtain ⟨pa,pcc,rfl,_⟩:=hst.get.rows;have HST:=Lib.hid hst;have H7:=Lib.hid h7;refine hK.out _ _ K7 (fun hH=>?_);clear hK K k7 hst h7 K6
    (try simp only [Act.put,List.setIfInBounds_toArray,List.set_cons_zero,List.set_cons_succ])
    refine wpAnyT_ready (rs:=[8]) (by kernel_rfl) (by simp) ?_;refine AllReadyT.cons rfl (fun K hK=>?_) AllReadyT.nil;go_simp;have hR:=HR7.out
    unfold chk at hR
    cases hrg:rangedB (.node pk pl pr pc pks)
    ·rw [hrg] at hR HRG;simp only [Bool.false_eq_true,if_false] at hR;subst hR;refine HRG.out.mono ?_
     unfold RngE
     rintro e w8 ⟨⟨q,rfl⟩,k8⟩;exact ⟨rfl,⟨q,rfl⟩,((HK4.out.trans K45.out).trans K7).trans (k8.mono (by simp))⟩
    ·rw [hrg] at hR HRG;simp only [if_true] at hR;subst hR;refine HRG.out.mono ?_
     unfold RngE
     rintro e w8 ⟨rfl,k8⟩;have K8:Kept [rb] w5 w8:=K7.trans (k8.mono (by simp));refine hK.out _ _ K8 (fun hH=>?_);clear hK K
     (try simp only [Act.put,List.setIfInBounds_toArray,List.set_cons_zero,List.set_cons_succ])
     have hb8:=HA5.out.kept K8 (by simp;omega);have c0:w8.cell? ⟨w.heap.size+1,0,none⟩=some (.int .i64 0):=hb8.cell 0;have c1:w8.cell? ⟨w.heap.size+1,1,none⟩=some (.string ⟨#[]⟩):=hb8.cell 1;have c2:w8.cell? ⟨w.heap.size+1,2,none⟩=some (.string ⟨#[]⟩):=hb8.cell 2;have c3:w8.cell? ⟨w.heap.size+1,3,none⟩=some (.int .i64 0):=hb8.cell 3;have c4:w8.cell? ⟨w.heap.size+1,4,none⟩=some (.slice none 0 0):=hb8.cell 4;have f0:=hb8.frozen 0;have f1:=hb8.frozen 1;have f2:=hb8.frozen 2;have f3:=hb8.frozen 3;have f4:=hb8.frozen 4;have HB8:=Lib.hid hb8;have HB6:Hid (w.heap.size+2≤w6.heap.size):=Lib.hid (by have:=HB66.out;omega);have HK8:=Lib.hid k8;have KW8:=Lib.hid ((HK4.out.trans K45.out).trans K8);clear hb8 k8 K8 K7 s0 s1 s2;refine wpAnyT_ready (rs:=[9]) (by kernel_rfl) (by simp) ?_;refine AllReadyT.last rfl (by kernel_rfl) (fun K hK=>?_);go_simp;refine hK.out _ _ ?_;clear hK K
     (try simp only [Act.put,List.setIfInBounds_toArray,List.set_cons_zero,List.set_cons_succ])
     refine wpAnyT_done (by kernel_rfl) ?_ _;go_wp2_with fail;refine compare_end (((((HB8.out.set_ 0 _).set_ 1 _).set_ 2 _).set_ 3 _).set_ 4 _) rfl rfl ?_;have kF:=(((((Kept.refl [w.heap.size+1] w8).setCell (p:=⟨w.heap.size+1,0,none⟩) (Or.inl (by simp)) (.int .i64 pk)).setCell (p:=⟨w.heap.size+1,1,none⟩) (Or.inl (by simp)) (.string ⟨pl.toArray⟩)).setCell (p:=⟨w.heap.size+1,2,none⟩) (Or.inl (by simp)) (.string ⟨pr.toArray⟩)).setCell (p:=⟨w.heap.size+1,3,none⟩) (Or.inl (by simp)) (.int .i64 pc)).setCell (p:=⟨w.heap.size+1,4,none⟩) (Or.inl (by simp)) (.slice pa pks.length pcc);refine ⟨_,rfl,KW8.out.fresh kF (fun y hy=>by rw [List.mem_singleton] at hy;omega),(H7.out.step HK8.out).far kF (fun y hy=>by rw [List.mem_singleton] at hy;omega),?_⟩;exact ⟨[.int .i64 pk,.string ⟨pl.toArray⟩,.string ⟨pr.toArray⟩,.int .i64 pc,.slice pa pks.length pcc],rfl,((HST.out.step (X':=List.range w6.heap.size) HK8.out (fun y hy _=>by simp at hy) (fun y hy=>Or.inl hy)).step (X':=List.range w.heap.size) kF (fun y hy _=>by rw [List.mem_singleton] at hy;have:=KW8.out.size;exact List.mem_range.2 (by have:=HB6.out;omega)) (fun y hy=>Or.inl (List.mem_range.2 (by have:=List.mem_range.1 hy;omega))))⟩
  ·have c0:wr.cell? ⟨H+4,10,none⟩=some (.string ⟨#[33,61]⟩):=HSBR.out.cell 10;have c1:wr.cell? ⟨H+4,11,none⟩=some (.func (.func 257) #[] #[.pointer (some ⟨H+2,0,none⟩),.pointer (some ⟨H+3,0,none⟩)]):=HSBR.out.cell 11;go_upto_region 4 with (fail);obtain ⟨g,hg⟩:∃ g,wr.heap.size=g:=⟨_,rfl⟩;obtain ⟨wa,hwa⟩:∃ x,wr.alloc (.cells #[.string ⟨#[33,61]⟩,.func (.func 257) #[] #[.pointer (some ⟨H+2,0,none⟩),.pointer (some ⟨H+3,0,none⟩)]] 283)=x:=⟨_,rfl⟩;rw [hwa,hg];have kA:Kept [] wr wa:=hwa▸(Kept.refl _ _).alloc _;have bA:Blk wa g 283 #[.string ⟨#[33,61]⟩,.func (.func 257) #[] #[.pointer (some ⟨H+2,0,none⟩),.pointer (some ⟨H+3,0,none⟩)]]:=hg▸hwa▸Blk.new _ _ _
   have hgl:w.heap.size+2≤g:=by have:=HAR.out.lt;omega
   have y0:wa.cell? ⟨g,0,none⟩=some (.string ⟨#[33,61]⟩):=bA.cell 0;have H1:=Lib.hid (skip_any (HPS.out.step kA) [33,61]);have KA:=Lib.hid kA;have BAA:=Lib.hid bA;clear hwa kA bA c0 c1 hg
   cases hs:skipP ts [33,61] n0
   ·rw [hs] at H1;go_wp2_with (go_at_call 115;refine H1.out.mono ?_;rintro e w5 ⟨rfl,k5,h5⟩)
    go_roundw
    case rel=>exact ⟨6,rfl,by decide,by decide,(HKR.out.trans (KA.out.mono (by simp))).trans k5,h5,take_more (k:=5) (s:=([33,61],fun a b=>.node 2 [] [] 0 [mostB a b 1,mostB b a 1])) rfl HPA.out hs⟩
    case measure=>simp [intOf]
   ·rw [hs] at H1;have hR:=HR.out;rw [find_at (k:=5) (s:=([33,61],fun a b=>.node 2 [] [] 0 [mostB a b 1,mostB b a 1])) rfl HPA.out hs] at hR
    simp only at hR
    have HRR:=Lib.hid hR;clear hR;go_upto_region 5 with (go_at_call 115;refine H1.out.mono ?_;rintro e w5 ⟨rfl,k5,h5⟩);have h5':Ps B W0 rb ts a c z w5 (n0+1):=h5;have K45:=Lib.hid ((HKR.out.trans (KA.out.mono (by simp))).trans k5);have KR5:=Lib.hid ((KA.out.mono (by simp):Kept [rb] wr wa).trans k5);have hA5:=(HAR.out.kept KA.out (by simp)).kept k5 (by simp;omega);have hS5:=(HSR.out.kept KA.out (by simp)).kept k5 (by simp;omega);have hG5:=BAA.out.kept k5 (by simp;omega);have s0:∀ w',Kept [rb] w5 w'→w'.cell? ⟨g,1,none⟩=some (.func (.func 257) #[] #[.pointer (some ⟨H+2,0,none⟩),.pointer (some ⟨H+3,0,none⟩)]):=fun w' k=>(hG5.kept k (by simp;omega)).cell 1;have s1:∀ w',Kept [rb] w5 w'→w'.cell? ⟨w.heap.size,0,none⟩=some (.string ⟨sm.name.toArray⟩):=fun w' k=>(hS5.kept k (by simp;omega)).cell 0;have s2:∀ w',Kept [rb] w5 w'→w'.cell? ⟨w.heap.size,1,none⟩=some (.int .i64 sm.off):=fun w' k=>(hS5.kept k (by simp;omega)).cell 1;have HSU:=Lib.hid (sum_any (h5'.step (Kept.refl [] w5).drew));have HA5:=Lib.hid hA5;clear hA5 hS5 hG5 h5 h5' k5 y0 H1 BAA KA;refine wp_region_T [9] (fun w'=>Kept [rb] w5 w') (by kernel_rfl) (Kept.refl _ _).drew (fun hH=>?_);refine takeT [8,9] (i:=0) (v:=?tv0k5) rfl (by kernel_rfl) (by kernel_rfl) (by kernel_rfl) (by kernel_rfl) (fun _ _ _ h=>h) (Or.inl ⟨by rfl,?ty0k5⟩) hH ?tr0k5
    case ty0k5=>intro w' hSw;(try dsimp only at hSw);go_simp;first|done|with_reducible rfl
    simp only [Act.put,List.setIfInBounds_toArray,List.set_cons_zero,List.set_cons_succ];refine takeT [2,6,8,9] (i:=1) (v:=?tv1k5) rfl (by kernel_rfl) (by kernel_rfl) (by kernel_rfl) (by kernel_rfl) (fun _ _ _ h=>h) (Or.inl ⟨by rfl,?ty1k5⟩) hH ?tr1k5
    case ty1k5=>intro w' hSw;(try dsimp only at hSw);go_simp;first|done|with_reducible rfl
    simp only [Act.put,List.setIfInBounds_toArray,List.set_cons_zero,List.set_cons_succ];refine takeT [6,8,9] (i:=2) (v:=?tv2k5) rfl (by kernel_rfl) (by kernel_rfl) (by kernel_rfl) (by kernel_rfl) (fun _ _ _ h=>h) (Or.inl ⟨by rfl,?ty2k5⟩) hH ?tr2k5
    case ty2k5=>intro w' hSw;(try dsimp only at hSw);go_simp;first|done|with_reducible rfl
    simp only [Act.put,List.setIfInBounds_toArray,List.set_cons_zero,List.set_cons_succ];refine takeT [6,8,9] (i:=3) (v:=?tv3k5) rfl (by kernel_rfl) (by kernel_rfl) (by kernel_rfl) (by kernel_rfl) (fun _ _ _ h=>h) (Or.inl ⟨by rfl,?ty3k5⟩) hH ?tr3k5
    case ty3k5=>intro w' hSw;(try dsimp only at hSw);go_simp;first|done|with_reducible rfl
    simp only [Act.put,List.setIfInBounds_toArray,List.set_cons_zero,List.set_cons_succ];refine takeT [5,6,8,9] (i:=4) (v:=?tv4k5) rfl (by kernel_rfl) (by kernel_rfl) (by kernel_rfl) (by kernel_rfl) (fun _ _ _ h=>h) (Or.inl ⟨by rfl,?ty4k5⟩) hH ?tr4k5
    case ty4k5=>intro w' hSw;(try dsimp only at hSw);go_simp;first|done|with_reducible rfl
    simp only [Act.put,List.setIfInBounds_toArray,List.set_cons_zero,List.set_cons_succ];refine takeT [8,9] (i:=7) (v:=?tv7k5) rfl (by kernel_rfl) (by kernel_rfl) (by kernel_rfl) (by kernel_rfl) (fun _ _ _ h=>h) (Or.inl ⟨by rfl,?ty7k5⟩) hH ?tr7k5
    case ty7k5=>intro w' hSw;(try dsimp only at hSw);go_simp;first|done|with_reducible rfl
    simp only [Act.put,List.setIfInBounds_toArray,List.set_cons_zero,List.set_cons_succ];refine wpAnyT_ready (rs:=[5]) (by kernel_rfl) (by simp) ?_;refine AllReadyT.cons rfl (fun K hK=>?_) AllReadyT.nil;go_simp
    cases hsum:sumP ts (n0+1) with
    | error er =>
     have hR:=HRR.out;rw [hsum] at hR HSU;simp only [bnd] at hR;subst hR;refine HSU.out.mono ?_
     unfold SumE
     rintro e w6 ⟨⟨p,rfl⟩,k6⟩;exact ⟨rfl,⟨p,rfl⟩,(HK4.out.trans K45.out).drew.trans k6⟩
    | ok y =>
    obtain ⟨b,j⟩:=y;have hR:=HRR.out;rw [hsum] at hR HSU;simp only [bnd] at hR;have HR6:=Lib.hid hR;clear hR;refine HSU.out.mono ?_
    unfold SumE
    rintro e w6 ⟨rfl,k6,h6,hbI,hbl⟩;have K6:Kept [rb] w5 w6:=(Kept.refl _ _).drew.trans k6;have H6:=Lib.hid h6;have HB66:=Lib.hid ((HA5.out.kept K6 (by simp;omega)).lt);refine hK.out _ _ K6 (fun hH=>?_);clear hK K k6 h6
    (try simp only [Act.put,List.setIfInBounds_toArray,List.set_cons_zero,List.set_cons_succ])
    have lift6:∀ {p:Addr} {v:Value},wr.cell? p=some v→p.block≠rb→w6.cell? p=some v:=fun h hne=>((KR5.out.trans K6).cell (World.block_lt_of_cell? wr _ h) (by simpa using hne)).trans h;have HMK:=Lib.hid (sgnB_any sm b 2 1 _ _ w6 hsm hbI (by decide) (lift6 Y2.out (by show H+2≠rb;omega)) (lift6 Y3.out (by show H+3≠rb;omega)));obtain ⟨p,hp⟩:∃ p,Pd.node 2 [] [] 0 [mostB sm b 1,mostB b sm 1]=p:=⟨_,rfl⟩;rw [hp] at HMK;have hR:=HR6.out;rw [hp] at hR;have HR7:=Lib.hid hR;clear hR lift6 hp;refine wpAnyT_ready (rs:=[6]) (by kernel_rfl) (by simp) ?_;refine AllReadyT.cons rfl (fun K hK=>?_) AllReadyT.nil;go_simp;refine HMK.out.mono ?_;rintro e w7 ⟨v,rfl,k7,cs,rfl,hst⟩;have K7:Kept [rb] w5 w7:=K6.trans (k7.mono (by simp))
    have hlo:w.heap.size≤w6.heap.size:=by have:=K6.size;have:=K45.out.size;have:=HK4.out.size;omega
    have h7:=H6.out.step k7;have HRG:=Lib.hid (ranged_any pos hpos _ p cs w7 (Nat.le_refl _) h7 hst.get);obtain ⟨pk,pl,pr,pc,pks⟩:=p;obtain ⟨pa,pcc,rfl,_⟩:=hst.get.rows;have HST:=Lib.hid hst;have H7:=Lib.hid h7;refine hK.out _ _ K7 (fun hH=>?_);clear hK K k7 hst h7 K6
    (try simp only [Act.put,List.setIfInBounds_toArray,List.set_cons_zero,List.set_cons_succ])
    refine wpAnyT_ready (rs:=[8]) (by kernel_rfl) (by simp) ?_;refine AllReadyT.cons rfl (fun K hK=>?_) AllReadyT.nil;go_simp;have hR:=HR7.out
    unfold chk at hR
    cases hrg:rangedB (.node pk pl pr pc pks)
    ·rw [hrg] at hR HRG;simp only [Bool.false_eq_true,if_false] at hR;subst hR;refine HRG.out.mono ?_
     unfold RngE
     rintro e w8 ⟨⟨q,rfl⟩,k8⟩;exact ⟨rfl,⟨q,rfl⟩,((HK4.out.trans K45.out).trans K7).trans (k8.mono (by simp))⟩
    ·rw [hrg] at hR HRG;simp only [if_true] at hR;subst hR;refine HRG.out.mono ?_
     unfold RngE
     rintro e w8 ⟨rfl,k8⟩;have K8:Kept [rb] w5 w8:=K7.trans (k8.mono (by simp));refine hK.out _ _ K8 (fun hH=>?_);clear hK K
     (try simp only [Act.put,List.setIfInBounds_toArray,List.set_cons_zero,List.set_cons_succ])
     have hb8:=HA5.out.kept K8 (by simp;omega);have c0:w8.cell? ⟨w.heap.size+1,0,none⟩=some (.int .i64 0):=hb8.cell 0;have c1:w8.cell? ⟨w.heap.size+1,1,none⟩=some (.string ⟨#[]⟩):=hb8.cell 1;have c2:w8.cell? ⟨w.heap.size+1,2,none⟩=some (.string ⟨#[]⟩):=hb8.cell 2;have c3:w8.cell? ⟨w.heap.size+1,3,none⟩=some (.int .i64 0):=hb8.cell 3;have c4:w8.cell? ⟨w.heap.size+1,4,none⟩=some (.slice none 0 0):=hb8.cell 4;have f0:=hb8.frozen 0;have f1:=hb8.frozen 1;have f2:=hb8.frozen 2;have f3:=hb8.frozen 3;have f4:=hb8.frozen 4;have HB8:=Lib.hid hb8;have HB6:Hid (w.heap.size+2≤w6.heap.size):=Lib.hid (by have:=HB66.out;omega);have HK8:=Lib.hid k8;have KW8:=Lib.hid ((HK4.out.trans K45.out).trans K8);clear hb8 k8 K8 K7 s0 s1 s2;refine wpAnyT_ready (rs:=[9]) (by kernel_rfl) (by simp) ?_;refine AllReadyT.last rfl (by kernel_rfl) (fun K hK=>?_);go_simp;refine hK.out _ _ ?_;clear hK K
     (try simp only [Act.put,List.setIfInBounds_toArray,List.set_cons_zero,List.set_cons_succ])
     refine wpAnyT_done (by kernel_rfl) ?_ _;go_wp2_with fail;refine compare_end (((((HB8.out.set_ 0 _).set_ 1 _).set_ 2 _).set_ 3 _).set_ 4 _) rfl rfl ?_;have kF:=(((((Kept.refl [w.heap.size+1] w8).setCell (p:=⟨w.heap.size+1,0,none⟩) (Or.inl (by simp)) (.int .i64 pk)).setCell (p:=⟨w.heap.size+1,1,none⟩) (Or.inl (by simp)) (.string ⟨pl.toArray⟩)).setCell (p:=⟨w.heap.size+1,2,none⟩) (Or.inl (by simp)) (.string ⟨pr.toArray⟩)).setCell (p:=⟨w.heap.size+1,3,none⟩) (Or.inl (by simp)) (.int .i64 pc)).setCell (p:=⟨w.heap.size+1,4,none⟩) (Or.inl (by simp)) (.slice pa pks.length pcc);refine ⟨_,rfl,KW8.out.fresh kF (fun y hy=>by rw [List.mem_singleton] at hy;omega),(H7.out.step HK8.out).far kF (fun y hy=>by rw [List.mem_singleton] at hy;omega),?_⟩;exact ⟨[.int .i64 pk,.string ⟨pl.toArray⟩,.string ⟨pr.toArray⟩,.int .i64 pc,.slice pa pks.length pcc],rfl,((HST.out.step (X':=List.range w6.heap.size) HK8.out (fun y hy _=>by simp at hy) (fun y hy=>Or.inl hy)).step (X':=List.range w.heap.size) kF (fun y hy _=>by rw [List.mem_singleton] at hy;have:=KW8.out.size;exact List.mem_range.2 (by have:=HB6.out;omega)) (fun y hy=>Or.inl (List.mem_range.2 (by have:=List.mem_range.1 hy;omega))))⟩
end Go.Proofs.YtpcmamoomaddoaaGreatDoor
