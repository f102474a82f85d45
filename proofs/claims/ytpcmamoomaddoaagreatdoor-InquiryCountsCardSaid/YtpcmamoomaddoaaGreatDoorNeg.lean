/- Keys of atoms; negate. -/
import Derived.Test.YtpcmamoomaddoaaGreatDoorCmp
import Derived.Test.YtpcmamoomaddoaaGreatDoorAsz
namespace Go.Proofs.YtpcmamoomaddoaaGreatDoor
open Go.RowKit
theorem keyOf_end {w2:World} {tmps:Array Value} {v0 v1 v2 X:Value} {b:Nat} {R:Ending→World→Prop} (hb:Blk w2 b 182 #[v0,v1,v2]) (h2:tmps[2]?.getD undef=.pointer (some ⟨b,0,none⟩))
  (hX:.agg #[v0,v1,v2]=X) (hR:R (.returned X) w2) :
  bodyPost Tryz.prog Tryz.f200 R Exit.ret { tmps:=tmps,defers:=[] } w2:=by
 subst hX;have c0:w2.cell? ⟨b,0,none⟩=some v0:=hb.cell 0;have c1:w2.cell? ⟨b,1,none⟩=some v1:=hb.cell 1;have c2:w2.cell? ⟨b,2,none⟩=some v2:=hb.cell 2;refine bodyPost_ret (v:=.agg #[v0,v1,v2]) ?_ rfl hR;simp only [results,Tryz.results200]
 simp [go_sem,h2,c0,c1,c2]
set_option maxRecDepth 100000 in
set_option maxHeartbeats 2000000 in
theorem keyOf_any (k:Int) (l r:Bs) (c:Int) (a:Option Addr) (n m:Nat) (w:World) :
  Calls Tryz.prog 200 #[.agg #[.int .i64 k,.string ⟨l.toArray⟩,.string ⟨r.toArray⟩,.int .i64 c,.slice a n m]] w fun e w'=>e=.returned (.agg #[.string ⟨l.toArray⟩,.string ⟨r.toArray⟩,.int .i64 c])∧Kept [] w w':=by
 go_enter Tryz.func200,Tryz.ntmps200
 go_wp2_with fail;exact keyOf_end (Blk.new1 _ _ _ _) rfl rfl ⟨rfl,((Kept.refl _ _).alloc _).alloc _⟩
theorem opposite_end {w2:World} {tmps:Array Value} {v0 v1 v2 X:Value} {b:Nat} {R:Ending→World→Prop} (hb:Blk w2 b 182 #[v0,v1,v2]) (h2:tmps[2]?.getD undef=.pointer (some ⟨b,0,none⟩))
  (hX:.agg #[v0,v1,v2]=X) (hR:R (.returned X) w2) :
  bodyPost Tryz.prog Tryz.f231 R Exit.ret { tmps:=tmps,defers:=[] } w2:=by
 subst hX;have c0:w2.cell? ⟨b,0,none⟩=some v0:=hb.cell 0;have c1:w2.cell? ⟨b,1,none⟩=some v1:=hb.cell 1;have c2:w2.cell? ⟨b,2,none⟩=some v2:=hb.cell 2;refine bodyPost_ret (v:=.agg #[v0,v1,v2]) ?_ rfl hR;simp only [results,Tryz.results231]
 simp [go_sem,h2,c0,c1,c2]
set_option maxRecDepth 100000 in
set_option maxHeartbeats 2000000 in
theorem opposite_any (l r:Bs) (c:Int) (w:World) (h1:-2199023255552≤c) (h2:c≤2199023255552) :
  Calls Tryz.prog 231 #[.agg #[.string ⟨l.toArray⟩,.string ⟨r.toArray⟩,.int .i64 c]] w fun e w'=>e=.returned (.agg #[.string ⟨r.toArray⟩,.string ⟨l.toArray⟩,.int .i64 (-c - 1)])∧Kept [] w w':=by
 go_enter Tryz.func231,Tryz.ntmps231
 go_wp2_with fail;exact opposite_end (Blk.new1 _ _ _ _) rfl rfl ⟨rfl,((Kept.refl _ _).alloc _).alloc _⟩
theorem atom_end {w2:World} {tmps:Array Value} {v0 v1 v2 v3 v4 X:Value} {b:Nat} {R:Ending→World→Prop} (hb:Blk w2 b 46 #[v0,v1,v2,v3,v4]) (h2:tmps[2]?.getD undef=.pointer (some ⟨b,0,none⟩))
  (hX:.agg #[v0,v1,v2,v3,v4]=X) (hR:R (.returned X) w2) :
  bodyPost Tryz.prog Tryz.f232 R Exit.ret { tmps:=tmps,defers:=[] } w2:=by
 subst hX;have c0:w2.cell? ⟨b,0,none⟩=some v0:=hb.cell 0;have c1:w2.cell? ⟨b,1,none⟩=some v1:=hb.cell 1;have c2:w2.cell? ⟨b,2,none⟩=some v2:=hb.cell 2;have c3:w2.cell? ⟨b,3,none⟩=some v3:=hb.cell 3;have c4:w2.cell? ⟨b,4,none⟩=some v4:=hb.cell 4;refine bodyPost_ret (v:=.agg #[v0,v1,v2,v3,v4]) ?_ rfl hR;simp only [results,Tryz.results232]
 simp [go_sem,h2,c0,c1,c2,c3,c4]
set_option maxRecDepth 100000 in
set_option maxHeartbeats 2000000 in
theorem atom_any (l r:Bs) (c:Int) (w:World) :
  Calls Tryz.prog 232 #[.agg #[.string ⟨l.toArray⟩,.string ⟨r.toArray⟩,.int .i64 c]] w fun e w'=>e=.returned (.agg #[.int .i64 0,.string ⟨l.toArray⟩,.string ⟨r.toArray⟩,.int .i64 c,.slice none 0 0])∧Kept [] w w':=by
 go_enter Tryz.func232,Tryz.ntmps232
 go_wp2_with fail;exact atom_end (Blk.new1 _ _ _ _) rfl rfl ⟨rfl,((Kept.refl _ _).alloc _).alloc _⟩
theorem negL_map:∀ l:List Pd,negL l=l.map negB
 | []=>rfl
 | p::l=>by rw [negL,List.map_cons,negL_map l]
theorem negate_end {w2:World} {tmps:Array Value} {v0 v1 v2 v3 v4 X:Value} {b:Nat} {R:Ending→World→Prop} (hb:Blk w2 b 46 #[v0,v1,v2,v3,v4]) (h2:tmps[2]?.getD undef=.pointer (some ⟨b,0,none⟩))
  (hX:.agg #[v0,v1,v2,v3,v4]=X) (hR:R (.returned X) w2) :
  bodyPost Tryz.prog Tryz.f195 R Exit.ret { tmps:=tmps,defers:=[] } w2:=by
 subst hX;have c0:w2.cell? ⟨b,0,none⟩=some v0:=hb.cell 0;have c1:w2.cell? ⟨b,1,none⟩=some v1:=hb.cell 1;have c2:w2.cell? ⟨b,2,none⟩=some v2:=hb.cell 2;have c3:w2.cell? ⟨b,3,none⟩=some v3:=hb.cell 3;have c4:w2.cell? ⟨b,4,none⟩=some v4:=hb.cell 4;refine bodyPost_ret (v:=.agg #[v0,v1,v2,v3,v4]) ?_ rfl hR;simp only [results,Tryz.results195]
 simp [go_sem,h2,c0,c1,c2,c3,c4]
def NegE (w:World) (p:Pd) (e:Ending) (w':World):Prop:=∃ v,e=.returned v∧Kept [] w w'∧PdN w.heap.size w' v (negB p)
set_option maxRecDepth 100000 in
set_option maxHeartbeats 8000000 in
theorem negate_any:∀ (m:Nat),m≤100000→∀ (p:Pd) (cs:List Value) (w:World),sizeB p≤m→formedB p=true→PdR w cs p→Calls Tryz.prog 195 #[.agg cs.toArray] w (NegE w p):=by
 obtain ⟨i0,hi,hz0,hz1,hz2⟩:=info_parts infoPred;intro m
 induction m with
 | zero=>intro _ p cs w hm;cases p;rw [sizeB] at hm;omega
 | succ m ih =>
  rintro hM ⟨kd,l,r,cc,ks⟩ cs w hm hf hp;have ih:=ih (by omega);obtain ⟨ka,kc,rfl,hrow⟩:=hp.rows;rw [sizeB] at hm;obtain ⟨_,_,hke,hkm,_⟩:=hrow.form;obtain ⟨kn,hkn⟩:∃ kn,ks.length=kn:=⟨_,rfl⟩;rw [hkn] at hrow hkm ⊢;have HKN:Hid (kn≤100000):=Lib.hid (by have:=length_sizeL ks;omega);clear hke
  show Calls _ _ #[.agg #[.int .i64 kd,.string ⟨l.toArray⟩,.string ⟨r.toArray⟩,.int .i64 cc,.slice ka kn kc]] w _
  obtain ⟨W,hW⟩:∃ W,(w.alloc (.cells #[.int .i64 kd,.string ⟨l.toArray⟩,.string ⟨r.toArray⟩,.int .i64 cc,.slice ka kn kc] 46)).alloc (.cells #[.int .i64 0,.string ⟨#[]⟩,.string ⟨#[]⟩,.int .i64 0,.slice none 0 0] 46)=W:=⟨_,rfl⟩;have hkW:Kept [] w W:=hW▸((Kept.refl _ _).alloc _).alloc _;have hB1:Blk W w.heap.size 46 #[.int .i64 kd,.string ⟨l.toArray⟩,.string ⟨r.toArray⟩,.int .i64 cc,.slice ka kn kc]:=hW▸(Blk.new _ _ _).alloc _;have hB2:Blk W (w.heap.size+1) 46 #[.int .i64 0,.string ⟨#[]⟩,.string ⟨#[]⟩,.int .i64 0,.slice none 0 0]:=hW▸Blk.new1 _ _ _ _
  have hsW:W.heap.size=w.heap.size+2:=by rw [←hW];simp
  rw [formedB] at hf
  by_cases h0:kd=0
  ·rw [if_pos h0] at hf;subst h0;simp only [Bool.and_eq_true,List.isEmpty_iff] at hf;obtain ⟨⟨⟨rfl,_⟩,_⟩,hr⟩:=hf
   have hr2:-2199023255552≤cc∧cc≤2199023255552:=by
    unfold inRange at hr
    simp only [Bool.and_eq_true,decide_eq_true_eq] at hr;omega
   have hb1:=hB1.cell 0;have q0:W.cell? ⟨w.heap.size,0,none⟩=some (.int .i64 0):=hB1.cell 0;have q1:W.cell? ⟨w.heap.size,1,none⟩=some (.string ⟨l.toArray⟩):=hB1.cell 1;have q2:W.cell? ⟨w.heap.size,2,none⟩=some (.string ⟨r.toArray⟩):=hB1.cell 2;have q3:W.cell? ⟨w.heap.size,3,none⟩=some (.int .i64 cc):=hB1.cell 3;have q4:W.cell? ⟨w.heap.size,4,none⟩=some (.slice ka kn kc):=hB1.cell 4;have H1:=Lib.hid (keyOf_any 0 l r cc ka kn kc W);have HKW:=Lib.hid hkW;have HB2:=Lib.hid hB2;have HW:=Lib.hid hW;clear hW hkW hB1 hB2 hrow hb1 hp
   go_enter Tryz.func195,Tryz.ntmps195
   go_upto_region 1 with (fail);have hW':=HW.out;rw [hW'];clear hW' HW;go_wp2_with (first|(go_at_call 200;(with_reducible refine H1.out.mono ?_);rintro e w5 ⟨rfl,k5⟩)|(go_at_call 231;refine (opposite_any l r cc w5 hr2.1 hr2.2).mono ?_;rintro e w6 ⟨rfl,k6⟩)|(go_at_call 232;refine (atom_any r l (-cc - 1) w6).mono ?_;rintro e w7 ⟨rfl,k7⟩;have K7:=HKW.out.trans ((k5.trans k6).trans k7);have hb7:=HB2.out.kept ((k5.trans k6).trans k7) (by simp);have c0:w7.cell? ⟨w.heap.size+1,0,none⟩=some (.int .i64 0):=hb7.cell 0;have c1:w7.cell? ⟨w.heap.size+1,1,none⟩=some (.string ⟨#[]⟩):=hb7.cell 1;have c2:w7.cell? ⟨w.heap.size+1,2,none⟩=some (.string ⟨#[]⟩):=hb7.cell 2;have c3:w7.cell? ⟨w.heap.size+1,3,none⟩=some (.int .i64 0):=hb7.cell 3;have c4:w7.cell? ⟨w.heap.size+1,4,none⟩=some (.slice none 0 0):=hb7.cell 4;have f0:=hb7.frozen 0;have f1:=hb7.frozen 1;have f2:=hb7.frozen 2;have f3:=hb7.frozen 3;have f4:=hb7.frozen 4;have HB7:=Lib.hid hb7;have HK7:=Lib.hid K7;clear hb7 K7 k5 k6 k7));refine negate_end (((((HB7.out.set_ 0 _).set_ 1 _).set_ 2 _).set_ 3 _).set_ 4 _) rfl rfl ?_;refine ⟨_,rfl,?_,?_⟩
   ·exact (((((HK7.out.setCell (Or.inr (Nat.le_succ _)) _).setCell (Or.inr (Nat.le_succ _)) _).setCell (Or.inr (Nat.le_succ _)) _).setCell (Or.inr (Nat.le_succ _)) _).setCell (Or.inr (Nat.le_succ _)) _)
   ·rw [negB,if_pos rfl];exact PdN.atom _ _ _ _ _
  ·rw [if_neg h0] at hf
   have hkd:kd=1∨kd=2∨kd=3:=by
    by_cases h1:kd=1∨kd=2
    ·omega
    ·rw [if_neg h1] at hf
     by_cases h3:kd=3
     ·omega
     ·rw [if_neg h3] at hf;cases hf
   have hcb:kd=3→1≤cc∧cc≤kn:=by
    intro h3;rw [if_neg (by omega),if_pos h3] at hf;simp only [Bool.and_eq_true,decide_eq_true_eq] at hf;omega
   have hfk:∀ q∈ks,formedB q=true:=by
    by_cases h1:kd=1∨kd=2
    ·rw [if_pos h1] at hf;simp only [Bool.and_eq_true] at hf;exact (formedL_iff ks).1 hf.2
    ·rw [if_neg h1,if_pos (by omega)] at hf;simp only [Bool.and_eq_true] at hf;exact (formedL_iff ks).1 hf.2
   have hkd0:(kd==0)=false:=by simpa using h0
   have q0:W.cell? ⟨w.heap.size,0,none⟩=some (.int .i64 kd):=hB1.cell 0;have q1:W.cell? ⟨w.heap.size,1,none⟩=some (.string ⟨l.toArray⟩):=hB1.cell 1;have q2:W.cell? ⟨w.heap.size,2,none⟩=some (.string ⟨r.toArray⟩):=hB1.cell 2;have q3:W.cell? ⟨w.heap.size,3,none⟩=some (.int .i64 cc):=hB1.cell 3;have q4:W.cell? ⟨w.heap.size,4,none⟩=some (.slice ka kn kc):=hB1.cell 4;obtain ⟨V,hV⟩:∃ V,W.alloc (.cells #[.int .i64 kd,.string ⟨#[]⟩,.string ⟨#[]⟩,.int .i64 0,.slice none 0 0] 46)=V:=⟨_,rfl⟩;have hkV:Kept [] W V:=hV▸(Kept.refl _ _).alloc _;obtain ⟨G,hG⟩:∃ G,w.heap.size+2=G:=⟨_,rfl⟩
   have bG:Blk V G 46 #[.int .i64 kd,.string ⟨#[]⟩,.string ⟨#[]⟩,.int .i64 0,.slice none 0 0]:=by
    rw [←hG,←hsW];exact hV▸Blk.new _ _ _
   have HKW:=Lib.hid (hkW.trans hkV);have HB1:=Lib.hid (hB1.kept hkV (by simp));have HB2:=Lib.hid (hB2.kept hkV (by simp));have HBG:=Lib.hid bG;have HROW:=Lib.hid hrow;have HV:=Lib.hid hV;have HW:=Lib.hid hW;have HFK:=Lib.hid hfk;have HSW:=Lib.hid hsW;have HVS:Hid (V.heap.size=G+1):=Lib.hid (by rw [←hV,←hG];simp [hsW]);clear hV hW hkW hkV hB1 hB2 bG hrow hp hf hfk hsW
   go_enter Tryz.func195,Tryz.ntmps195
   go_upto_region 1 with (fail);have hW':=HW.out;rw [hW'];clear hW' HW;go_upto_region 4 with (fail);have hV':=HV.out;rw [hV',HSW.out,hG];clear hV' HV;have q4:V.cell? ⟨w.heap.size,4,none⟩=some (.slice ka kn kc):=HB1.out.cell 4;go_wp2_with fail
   go_loopw [19] (fun v wr=>∃ (j:Nat) (kv:Value),j≤kn∧v=.int .i64 j∧Kept [] w wr∧Kept [G] V wr∧Blk wr G 46 #[.int .i64 kd,.string ⟨#[]⟩,.string ⟨#[]⟩,.int .i64 0,kv] ∧
    Grow PdR 5 46 (G+1) (List.range (G+1)++obl kv) wr kv (negL (ks.take j))∧G+1≤wr.heap.size) (fun v _=>kn - (intOf v).toNat)
   case atStart=>exact ⟨0,_,Nat.zero_le _,rfl,HKW.out,Kept.refl _ _,HBG.out,Grow.nil_ _ _ _ _ _ _,by have:=HBG.out.lt;omega⟩
   case round =>
    obtain ⟨j,kv,hj,rfl,hkw,hkr,hbg,hg,hsz⟩:=hrel
    have hlen:(negL (ks.take j)).length=j:=by rw [negL_length,List.length_take];omega
    obtain ⟨ka',kc',rfl⟩:=hg.form (by decide);obtain ⟨ns,hns⟩:∃ ns,negL (ks.take j)=ns:=⟨_,rfl⟩;rw [hns] at hg hbg hlen;have HNS:=Lib.hid hns;have HLEN:=Lib.hid hlen;clear hns hlen;have HKR:=Lib.hid hkw;have HKV:=Lib.hid hkr;have hB1r:=HB1.out.kept hkr (by simp;omega);have hB2r:=HB2.out.kept hkr (by simp;omega);have hge:=hg.ge;have HGE:=Lib.hid hge
    by_cases hlt:j < kn
    ·have hlt':(j:Int) < (kn:Int):=by omega
     have hrw:=HROW.out.kept (fun _ _ x=>PdR.kept hkw x) hkw;obtain ⟨b,off,rfl,hc⟩:=hrw.at_ (by omega);obtain ⟨cq,h1,h2,h3⟩:=hc j ks[j] (List.getElem?_eq_getElem (by omega));obtain ⟨q,hq⟩:∃ q,ks[j]=q:=⟨_,rfl⟩;rw [hq] at h2
     have hqs:sizeB q≤m:=by have:=sizeL_mem (hq▸List.getElem_mem (by omega):q∈ks);omega
     have hqf:formedB q=true:=HFK.out q (hq▸List.getElem_mem (by omega))
     have htk:negL (ks.take (j+1))=negL (ks.take j)++[negB q]:=by
      rw [List.take_succ_eq_append_getElem (by omega),hq,negL_map,negL_map,List.map_append]
      rfl
     rw [HNS.out] at htk;have HTK:=Lib.hid htk;have HG:=Lib.hid hg;have HBG2:=Lib.hid hbg;clear htk hq hc hrw hg hbg hge;obtain ⟨qk,ql,qr,qc,qks⟩:=q;obtain ⟨qa,qcc,rfl,_⟩:=h2.rows;have y0:wr.cell? ⟨b,off+j*5,none⟩=some (.int .i64 qk):=h3 0 _ (by decide) rfl;have y1:wr.cell? ⟨b,off+j*5+1,none⟩=some (.string ⟨ql.toArray⟩):=h3 1 _ (by decide) rfl;have y2:wr.cell? ⟨b,off+j*5+2,none⟩=some (.string ⟨qr.toArray⟩):=h3 2 _ (by decide) rfl;have y3:wr.cell? ⟨b,off+j*5+3,none⟩=some (.int .i64 qc):=h3 3 _ (by decide) rfl;have y4:wr.cell? ⟨b,off+j*5+4,none⟩=some (.slice qa qks.length qcc):=h3 4 _ (by decide) rfl;obtain ⟨g,hg⟩:∃ g,wr.heap.size=g:=⟨_,rfl⟩;obtain ⟨wA,hwA⟩:∃ x,wr.alloc (.cells #[.int .i64 qk,.string ⟨ql.toArray⟩,.string ⟨qr.toArray⟩,.int .i64 qc,.slice qa qks.length qcc] 46)=x:=⟨_,rfl⟩;have kA:Kept [] wr wA:=hwA▸(Kept.refl _ _).alloc _;have hBA:Blk wA g 46 #[.int .i64 qk,.string ⟨ql.toArray⟩,.string ⟨qr.toArray⟩,.int .i64 qc,.slice qa qks.length qcc]:=hg▸hwA▸Blk.new _ _ _
     have hgA:wA.heap.size=g+1:=by rw [←hwA,←hg];simp
     go_upto_region 7 with (fail);have IH:=Lib.hid (fun (w':World) (k:Kept [] wA w')=>ih (.node qk ql qr qc qks) _ w' hqs hqf (PdR.kept (kA.trans k) h2));have SS:∀ y∈obl (.slice ka' ns.length kc'),G+1≤y∧y < g:=fun y hy=>hg▸HGE.out y hy
     have nbG:∀ y,y≤G→y∉obl (.slice ka' ns.length kc'):=fun y hy hm=>by have:=(SS y hm).1;omega
     have nbg:∀ y,g≤y→y∉obl (.slice ka' ns.length kc'):=fun y hy hm=>by have:=(SS y hm).2;omega
     have s0:∀ w',Kept (obl (.slice ka' ns.length kc')) wA w'→w'.cell? ⟨G,4,none⟩=some (.slice ka' ns.length kc'):=fun w' k=>((HBG2.out.kept kA (by simp)).kept k (nbG _ (Nat.le_refl _))).cell 4;have s1:∀ w',Kept (obl (.slice ka' ns.length kc')) wA w'→w'.cell? ⟨g,0,none⟩=some (.int .i64 qk):=fun w' k=>(hBA.kept k (nbg _ (Nat.le_refl _))).cell 0;have s2:∀ w',Kept (obl (.slice ka' ns.length kc')) wA w'→w'.cell? ⟨g,1,none⟩=some (.string ⟨ql.toArray⟩):=fun w' k=>(hBA.kept k (nbg _ (Nat.le_refl _))).cell 1;have s3:∀ w',Kept (obl (.slice ka' ns.length kc')) wA w'→w'.cell? ⟨g,2,none⟩=some (.string ⟨qr.toArray⟩):=fun w' k=>(hBA.kept k (nbg _ (Nat.le_refl _))).cell 2;have s4:∀ w',Kept (obl (.slice ka' ns.length kc')) wA w'→w'.cell? ⟨g,3,none⟩=some (.int .i64 qc):=fun w' k=>(hBA.kept k (nbg _ (Nat.le_refl _))).cell 3;have s5:∀ w',Kept (obl (.slice ka' ns.length kc')) wA w'→w'.cell? ⟨g,4,none⟩=some (.slice qa qks.length qcc):=fun w' k=>(hBA.kept k (nbg _ (Nat.le_refl _))).cell 4;have HGA:=Lib.hid (HG.out.step (X':=List.range (G+1)++obl (.slice ka' ns.length kc')) kA (fun z _ hm=>by simp at hm) (fun z hz _=>by simp at hz) (fun z hz=>Or.inl hz));have HBGA:=Lib.hid (HBG2.out.kept kA (by simp));have HKA:=Lib.hid kA;have HGS:=Lib.hid hgA;have HWG:=Lib.hid hg;clear h1 h2 h3 y0 y1 y2 y3 y4 hwA kA hBA hg hgA;refine wp_region_T [7] (fun w'=>Kept (obl (.slice ka' ns.length kc')) wA w') (by kernel_rfl) (Kept.refl _ _).drew (fun hH=>?_);refine takeT [1,5,6,7] (i:=0) (v:=?tv0) rfl (by kernel_rfl) (by kernel_rfl) (by kernel_rfl) (by kernel_rfl) (fun _ _ _ h=>h) (Or.inl ⟨by rfl,?ty0⟩) hH ?tr0
     case ty0=>intro w' hSw;(try dsimp only at hSw);go_simp;first|done|with_reducible rfl
     simp only [Act.put,List.setIfInBounds_toArray,List.set_cons_zero,List.set_cons_succ];refine takeT [5,6,7] (i:=1) (v:=?tv1) rfl (by kernel_rfl) (by kernel_rfl) (by kernel_rfl) (by kernel_rfl) (fun _ _ _ h=>h) (Or.inl ⟨by rfl,?ty1⟩) hH ?tr1
     case ty1=>intro w' hSw;(try dsimp only at hSw);go_simp;first|done|with_reducible rfl
     simp only [Act.put,List.setIfInBounds_toArray,List.set_cons_zero,List.set_cons_succ];refine takeT [3,4,5,6,7] (i:=2) (v:=?tv2) rfl (by kernel_rfl) (by kernel_rfl) (by kernel_rfl) (by kernel_rfl) (fun _ _ _ h=>h) (Or.inl ⟨by rfl,?ty2⟩) hH ?tr2
     case ty2=>intro w' hSw;(try dsimp only at hSw);go_simp;first|done|with_reducible rfl
     simp only [Act.put,List.setIfInBounds_toArray,List.set_cons_zero,List.set_cons_succ];refine wpAnyT_ready (rs:=[3]) (by kernel_rfl) (by simp) ?_;refine AllReadyT.cons rfl (fun K hK=>?_) AllReadyT.nil;go_simp;refine (IH.out _ (Kept.refl _ _).drew).mono ?_;rintro e w6 ⟨v,rfl,k6,cs,rfl,hst⟩;obtain ⟨p,hp⟩:∃ p,negB (.node qk ql qr qc qks)=p:=⟨_,rfl⟩;rw [hp] at hst;have htk:=HTK.out;rw [hp] at htk;have HTK2:=Lib.hid htk;obtain ⟨pk,pl,pr,pc,pks⟩:=p;obtain ⟨pa,pcc,rfl,_⟩:=hst.get.rows;have K6:Kept [] wA w6:=(Kept.refl _ _).drew.trans k6;refine hK.out _ _ (K6.mono (by simp)) (fun hH=>?_);clear hK K k6 hp htk HTK
     (try simp only [Act.put,List.setIfInBounds_toArray,List.set_cons_zero,List.set_cons_succ])
     refine wpAnyT_ready (rs:=[4]) (by kernel_rfl) (by simp) ?_;refine AllReadyT.cons rfl (fun K hK=>?_) AllReadyT.nil;go_simp;refine hK.out _ _ (hH.alloc _) (fun hH=>?_);clear hK K
     (try simp only [Act.put,List.setIfInBounds_toArray,List.set_cons_zero,List.set_cons_succ])
     refine wpAnyT_ready (rs:=[5]) (by kernel_rfl) (by simp) ?_;refine AllReadyT.cons rfl (fun K hK=>?_) AllReadyT.nil;have k7:Kept [] wA (w6.alloc (.cells #[.int .i64 pk,.string ⟨pl.toArray⟩,.string ⟨pr.toArray⟩,.int .i64 pc,.slice pa pks.length pcc] 46)):=K6.alloc _
     have hg7:Grow PdR 5 46 (G+1) (List.range (G+1)++obl (.slice ka' ns.length kc')) (w6.alloc (.cells #[.int .i64 pk,.string ⟨pl.toArray⟩,.string ⟨pr.toArray⟩,.int .i64 pc,.slice pa pks.length pcc] 46)) (.slice ka' ns.length kc') ns :=
      HGA.out.step k7 (fun z _ hm=>by simp at hm) (fun z hz _=>by simp at hz) (fun z hz=>Or.inl hz)
     have hst7:Stable (List.range (G+1)++obl (.slice ka' ns.length kc')) (fun w=>PdR w [.int .i64 pk,.string ⟨pl.toArray⟩,.string ⟨pr.toArray⟩,.int .i64 pc,.slice pa pks.length pcc] (.node pk pl pr pc pks)) (w6.alloc (.cells #[.int .i64 pk,.string ⟨pl.toArray⟩,.string ⟨pr.toArray⟩,.int .i64 pc,.slice pa pks.length pcc] 46)) :=
      (hst.step ((Kept.refl [] w6).alloc _) (by simp) (fun z hz=>Or.inl hz)).less (fun z hz=>by
       rcases List.mem_append.1 hz with h|h
       ·exact Or.inl (List.mem_range.2 (by have:=List.mem_range.1 h;have:=HGS.out;have:=HWG.out;show z < wA.heap.size;omega))
       ·exact Or.inl (List.mem_range.2 (by have:=(SS z h).2;have:=HGS.out;show z < wA.heap.size;omega)))
     refine step_append_grow rfl _ _ 44 rfl i0 _ 72 Tryz.underlying44 hi hz0 hz1 hz2 rfl (by decide) (by decide) rfl hg7 _ [.int .i64 pk,.string ⟨pl.toArray⟩,.string ⟨pr.toArray⟩,.int .i64 pc,.slice pa pks.length pcc] (.node pk pl pr pc pks) rfl (row_of_blk (cs:=[.int .i64 pk,.string ⟨pl.toArray⟩,.string ⟨pr.toArray⟩,.int .i64 pc,.slice pa pks.length pcc]) (Blk.new _ _ _) rfl (by decide)) hst7 (by simp [Value.oneCell']) (by have:=HLEN.out;have:=HKN.out;omega) (by simp only [World.size_alloc];have:=K6.size;have:=HGS.out;have:=HWG.out;omega) (fun z hz=>List.mem_append_right _ hz) ?_;intro a' c' w8 hg8 k8 ho8;have hS8:Kept (obl (.slice ka' ns.length kc')) wA w8:=(k7.mono (by simp)).trans k8;refine hK.out _ _ hS8 (fun hH=>?_);clear hK K
     (try simp only [Act.put,List.setIfInBounds_toArray])
     refine takeT [7] (i:=6) (v:=?tv6) rfl (by kernel_rfl) (by kernel_rfl) (by kernel_rfl) (by kernel_rfl) (fun _ _ _ h=>h) (Or.inl ⟨by rfl,?ty6⟩) hH ?tr6
     case ty6=>intro w' hSw;(try dsimp only at hSw);go_simp;first|done|with_reducible rfl
     simp only [Act.put];have hb8:=HBGA.out.kept hS8 (nbG _ (Nat.le_refl _));have x4:w8.cell? ⟨G,4,none⟩=some (.slice ka' ns.length kc'):=hb8.cell 4;have x5:=hb8.frozen 4;have HB8:=Lib.hid hb8;have HG8:=Lib.hid hg8;have K8:=Lib.hid hS8;have HO8:=Lib.hid ho8;have HS7:=Lib.hid (World.size_alloc w6 (.cells #[.int .i64 pk,.string ⟨pl.toArray⟩,.string ⟨pr.toArray⟩,.int .i64 pc,.slice pa pks.length pcc] 46));have HK6:=Lib.hid K6.size;clear hb8 hg8 hS8 ho8 k8 hg7 hst7 hst k7 K6 s0 s1 s2 s3 s4 s5;refine wpAnyT_ready (rs:=[7]) (by kernel_rfl) (by simp) ?_;refine AllReadyT.last rfl (by kernel_rfl) (fun K hK=>?_);go_simp;refine hK.out _ _ ?_;clear hK K
     (try simp only [Act.put,List.setIfInBounds_toArray,List.set_cons_zero,List.set_cons_succ])
     refine wpAnyT_done (by kernel_rfl) ?_ _;obtain ⟨w9,hw9⟩:∃ x,w8.setCell ⟨G,4,none⟩ (.slice a' (ns.length+1) c')=x:=⟨_,rfl⟩;rw [hw9];have k89:Kept [G] w8 w9:=hw9▸(Kept.refl _ _).setCell (Or.inl (by simp)) _;have hb9:Blk w9 G 46 #[.int .i64 kd,.string ⟨#[]⟩,.string ⟨#[]⟩,.int .i64 0,.slice a' (ns.length+1) c']:=hw9▸HB8.out.set_ 4 _
     have hgn:∀ y∈obl (.slice a' (ns.length+1) c'),G+1≤y:=fun y hy=>by
      rcases HO8.out y hy with h|h
      ·exact (SS y h).1
      ·have:=HS7.out;have:=HK6.out;have:=HGS.out;have:=HWG.out;omega
     have hg9:=HG8.out.step (X':=List.range (G+1)++obl (.slice a' (ns.length+1) c')) k89 (fun y hy hm=>by rw [List.mem_singleton] at hm;have:=hgn y hy;omega) (fun y hy _=>by rw [List.mem_singleton] at hy;exact List.mem_append_left _ (List.mem_append_left _ (List.mem_range.2 (by omega)))) (fun y hy=>by
      rcases List.mem_append.1 hy with h|h
      ·exact Or.inl (List.mem_append_left _ (List.mem_append_left _ h))
      ·exact Or.inl (List.mem_append_right _ h))
     have hk9:Kept [] w w9:=((HKR.out.trans HKA.out).fresh K8.out (fun y hy=>by have:=(SS y hy).1;omega)).fresh k89 (fun y hy=>by rw [List.mem_singleton] at hy;omega);have hv9:Kept [G] V w9:=((HKV.out.trans (HKA.out.mono (by simp))).then_ K8.out (fun y hy hm=>by have:=(SS y hm).1;have:=HVS.out;omega)).trans k89
     have hsz9:G+1≤w9.heap.size:=by have:=K8.out.size;have:=k89.size;have:=HGS.out;have:=HWG.out;omega
     have HB9:=Lib.hid hb9;have HG9:=Lib.hid hg9;have HK9:=Lib.hid hk9;have HV9:=Lib.hid hv9;have HN9:Hid (negL (ks.take (j+1))=ns++[.node pk pl pr pc pks]):=Lib.hid HTK2.out;clear hw9 k89 hb9 hgn hg9 hk9 hv9 HB8 HG8 K8 HO8 x4 x5 hH SS nbG nbg HGA HBGA HG HBG2 IH;go_wp2_with fail
     go_roundw
     case rel =>
      refine ⟨j+1,.slice a' (ns.length+1) c',by omega,by go_num,HK9.out,HV9.out,HB9.out,?_,hsz9⟩;rw [HN9.out];exact HG9.out
     case measure=>simp [intOf];omega
    ·obtain rfl:j=kn:=by omega
     have hks:negL ks=ns:=by rw [←HNS.out,List.take_of_length_le (by omega)]
     have HKS:=Lib.hid hks;have HST:=Lib.hid (hg.done (X':=List.range (G+1)) (fun z hz=>Or.inl (List.mem_append_left _ hz)) (fun z hz hm=>by have:=(hge z hz).1;have:=List.mem_range.1 hm;omega) (by have:=HKN.out;have:=HLEN.out;omega));have HBG3:=Lib.hid hbg;have HB2R:=Lib.hid hB2r;have HB1R:=Lib.hid hB1r;clear hks hg hbg hge hB2r hB1r HROW HFK HGE HB1 HB2 HBG ih
     rcases hkd with rfl|rfl|rfl
     ·clear hcb;have u0:wr.cell? ⟨w.heap.size,0,none⟩=some (.int .i64 1):=HB1R.out.cell 0;have u3:wr.cell? ⟨w.heap.size,3,none⟩=some (.int .i64 cc):=HB1R.out.cell 3;have u4:wr.cell? ⟨w.heap.size,4,none⟩=some (.slice ka j kc):=HB1R.out.cell 4;have e0:wr.cell? ⟨G,0,none⟩=some (.int .i64 1):=HBG3.out.cell 0;have g0:=HBG3.out.frozen 0;go_upto_region 16 with (fail);obtain ⟨wB,hwB⟩:∃ x,wr.setCell ⟨G,0,none⟩ (.int .i64 2)=x:=⟨_,rfl⟩;rw [hwB];have bB:Blk wB G 46 #[.int .i64 2,.string ⟨#[]⟩,.string ⟨#[]⟩,.int .i64 0,.slice ka' ns.length kc']:=hwB▸HBG3.out.set_ 0 _;have kB:Kept [G] wr wB:=hwB▸(Kept.refl _ _).setCell (Or.inl (by simp)) _;have b2:=HB2R.out.kept kB (by simp;omega);have c0:wB.cell? ⟨G,0,none⟩=some (.int .i64 2):=bB.cell 0;have c1:wB.cell? ⟨G,1,none⟩=some (.string ⟨#[]⟩):=bB.cell 1;have c2:wB.cell? ⟨G,2,none⟩=some (.string ⟨#[]⟩):=bB.cell 2;have c3:wB.cell? ⟨G,3,none⟩=some (.int .i64 0):=bB.cell 3;have c4:wB.cell? ⟨G,4,none⟩=some (.slice ka' ns.length kc'):=bB.cell 4;have t0:wB.cell? ⟨w.heap.size+1,0,none⟩=some (.int .i64 0):=b2.cell 0;have t1:wB.cell? ⟨w.heap.size+1,1,none⟩=some (.string ⟨#[]⟩):=b2.cell 1;have t2:wB.cell? ⟨w.heap.size+1,2,none⟩=some (.string ⟨#[]⟩):=b2.cell 2;have t3:wB.cell? ⟨w.heap.size+1,3,none⟩=some (.int .i64 0):=b2.cell 3;have t4:wB.cell? ⟨w.heap.size+1,4,none⟩=some (.slice none 0 0):=b2.cell 4;have f0:=b2.frozen 0;have f1:=b2.frozen 1;have f2:=b2.frozen 2;have f3:=b2.frozen 3;have f4:=b2.frozen 4;have HSB:=Lib.hid (HST.out.step (X':=List.range (G+1)) kB (fun y hy _=>by rw [List.mem_singleton] at hy;exact List.mem_range.2 (by omega)) (fun y hy=>Or.inl hy))
      have HKB:=Lib.hid (HKR.out.fresh kB (fun y hy=>by rw [List.mem_singleton] at hy;omega));have B2:=Lib.hid b2;clear hwB bB kB b2 u0 u3 u4 e0 g0;go_wp2_with fail;refine negate_end (((((B2.out.set_ 0 _).set_ 1 _).set_ 2 _).set_ 3 _).set_ 4 _) rfl rfl ?_;have kF:=((((((Kept.refl [w.heap.size+1] wB).setCell (p:=⟨w.heap.size+1,0,none⟩) (Or.inl (by simp)) (.int .i64 2)).setCell (p:=⟨w.heap.size+1,1,none⟩) (Or.inl (by simp)) (.string ⟨#[]⟩)).setCell (p:=⟨w.heap.size+1,2,none⟩) (Or.inl (by simp)) (.string ⟨#[]⟩)).setCell (p:=⟨w.heap.size+1,3,none⟩) (Or.inl (by simp)) (.int .i64 0)).setCell (p:=⟨w.heap.size+1,4,none⟩) (Or.inl (by simp)) (.slice ka' ns.length kc'));refine ⟨_,rfl,HKB.out.fresh kF (fun y hy=>by rw [List.mem_singleton] at hy;omega),?_⟩;rw [negB,HKS.out];exact ⟨[.int .i64 2,.string ⟨#[]⟩,.string ⟨#[]⟩,.int .i64 0,.slice ka' ns.length kc'],rfl,(HSB.out.imp fun w' hr=>PdR.of_rows (l:=[]) (r:=[]) hr).step kF (fun y hy _=>by rw [List.mem_singleton] at hy;exact List.mem_range.2 (by omega)) (fun y hy=>Or.inl (List.mem_range.2 (by have:=List.mem_range.1 hy;omega)))⟩
     ·clear hcb;have u0:wr.cell? ⟨w.heap.size,0,none⟩=some (.int .i64 2):=HB1R.out.cell 0;have u3:wr.cell? ⟨w.heap.size,3,none⟩=some (.int .i64 cc):=HB1R.out.cell 3;have u4:wr.cell? ⟨w.heap.size,4,none⟩=some (.slice ka j kc):=HB1R.out.cell 4;have e0:wr.cell? ⟨G,0,none⟩=some (.int .i64 2):=HBG3.out.cell 0;have g0:=HBG3.out.frozen 0;go_upto_region 16 with (fail);obtain ⟨wB,hwB⟩:∃ x,wr.setCell ⟨G,0,none⟩ (.int .i64 1)=x:=⟨_,rfl⟩;rw [hwB];have bB:Blk wB G 46 #[.int .i64 1,.string ⟨#[]⟩,.string ⟨#[]⟩,.int .i64 0,.slice ka' ns.length kc']:=hwB▸HBG3.out.set_ 0 _;have kB:Kept [G] wr wB:=hwB▸(Kept.refl _ _).setCell (Or.inl (by simp)) _;have b2:=HB2R.out.kept kB (by simp;omega);have c0:wB.cell? ⟨G,0,none⟩=some (.int .i64 1):=bB.cell 0;have c1:wB.cell? ⟨G,1,none⟩=some (.string ⟨#[]⟩):=bB.cell 1;have c2:wB.cell? ⟨G,2,none⟩=some (.string ⟨#[]⟩):=bB.cell 2;have c3:wB.cell? ⟨G,3,none⟩=some (.int .i64 0):=bB.cell 3;have c4:wB.cell? ⟨G,4,none⟩=some (.slice ka' ns.length kc'):=bB.cell 4;have t0:wB.cell? ⟨w.heap.size+1,0,none⟩=some (.int .i64 0):=b2.cell 0;have t1:wB.cell? ⟨w.heap.size+1,1,none⟩=some (.string ⟨#[]⟩):=b2.cell 1;have t2:wB.cell? ⟨w.heap.size+1,2,none⟩=some (.string ⟨#[]⟩):=b2.cell 2;have t3:wB.cell? ⟨w.heap.size+1,3,none⟩=some (.int .i64 0):=b2.cell 3;have t4:wB.cell? ⟨w.heap.size+1,4,none⟩=some (.slice none 0 0):=b2.cell 4;have f0:=b2.frozen 0;have f1:=b2.frozen 1;have f2:=b2.frozen 2;have f3:=b2.frozen 3;have f4:=b2.frozen 4;have HSB:=Lib.hid (HST.out.step (X':=List.range (G+1)) kB (fun y hy _=>by rw [List.mem_singleton] at hy;exact List.mem_range.2 (by omega)) (fun y hy=>Or.inl hy))
      have HKB:=Lib.hid (HKR.out.fresh kB (fun y hy=>by rw [List.mem_singleton] at hy;omega));have B2:=Lib.hid b2;clear hwB bB kB b2 u0 u3 u4 e0 g0;go_wp2_with fail;refine negate_end (((((B2.out.set_ 0 _).set_ 1 _).set_ 2 _).set_ 3 _).set_ 4 _) rfl rfl ?_;have kF:=((((((Kept.refl [w.heap.size+1] wB).setCell (p:=⟨w.heap.size+1,0,none⟩) (Or.inl (by simp)) (.int .i64 1)).setCell (p:=⟨w.heap.size+1,1,none⟩) (Or.inl (by simp)) (.string ⟨#[]⟩)).setCell (p:=⟨w.heap.size+1,2,none⟩) (Or.inl (by simp)) (.string ⟨#[]⟩)).setCell (p:=⟨w.heap.size+1,3,none⟩) (Or.inl (by simp)) (.int .i64 0)).setCell (p:=⟨w.heap.size+1,4,none⟩) (Or.inl (by simp)) (.slice ka' ns.length kc'));refine ⟨_,rfl,HKB.out.fresh kF (fun y hy=>by rw [List.mem_singleton] at hy;omega),?_⟩;rw [negB,HKS.out];exact ⟨[.int .i64 1,.string ⟨#[]⟩,.string ⟨#[]⟩,.int .i64 0,.slice ka' ns.length kc'],rfl,(HSB.out.imp fun w' hr=>PdR.of_rows (l:=[]) (r:=[]) hr).step kF (fun y hy _=>by rw [List.mem_singleton] at hy;exact List.mem_range.2 (by omega)) (fun y hy=>Or.inl (List.mem_range.2 (by have:=List.mem_range.1 hy;omega)))⟩
     ·obtain ⟨hc1,hc2⟩:1≤cc∧cc≤j:=hcb rfl;have u0:wr.cell? ⟨w.heap.size,0,none⟩=some (.int .i64 3):=HB1R.out.cell 0;have u3:wr.cell? ⟨w.heap.size,3,none⟩=some (.int .i64 cc):=HB1R.out.cell 3;have u4:wr.cell? ⟨w.heap.size,4,none⟩=some (.slice ka j kc):=HB1R.out.cell 4;have e0:wr.cell? ⟨G,3,none⟩=some (.int .i64 0):=HBG3.out.cell 3;have g0:=HBG3.out.frozen 3;go_upto_region 16 with (fail);obtain ⟨wB,hwB⟩:∃ x,wr.setCell ⟨G,3,none⟩ (.int .i64 ((j:Int) - cc+1))=x:=⟨_,rfl⟩;rw [hwB];have bB:Blk wB G 46 #[.int .i64 3,.string ⟨#[]⟩,.string ⟨#[]⟩,.int .i64 ((j:Int) - cc+1),.slice ka' ns.length kc']:=hwB▸HBG3.out.set_ 3 _;have kB:Kept [G] wr wB:=hwB▸(Kept.refl _ _).setCell (Or.inl (by simp)) _;have b2:=HB2R.out.kept kB (by simp;omega);have c0:wB.cell? ⟨G,0,none⟩=some (.int .i64 3):=bB.cell 0;have c1:wB.cell? ⟨G,1,none⟩=some (.string ⟨#[]⟩):=bB.cell 1;have c2:wB.cell? ⟨G,2,none⟩=some (.string ⟨#[]⟩):=bB.cell 2;have c3:wB.cell? ⟨G,3,none⟩=some (.int .i64 ((j:Int) - cc+1)):=bB.cell 3;have c4:wB.cell? ⟨G,4,none⟩=some (.slice ka' ns.length kc'):=bB.cell 4;have t0:wB.cell? ⟨w.heap.size+1,0,none⟩=some (.int .i64 0):=b2.cell 0;have t1:wB.cell? ⟨w.heap.size+1,1,none⟩=some (.string ⟨#[]⟩):=b2.cell 1;have t2:wB.cell? ⟨w.heap.size+1,2,none⟩=some (.string ⟨#[]⟩):=b2.cell 2;have t3:wB.cell? ⟨w.heap.size+1,3,none⟩=some (.int .i64 0):=b2.cell 3;have t4:wB.cell? ⟨w.heap.size+1,4,none⟩=some (.slice none 0 0):=b2.cell 4;have f0:=b2.frozen 0;have f1:=b2.frozen 1;have f2:=b2.frozen 2;have f3:=b2.frozen 3;have f4:=b2.frozen 4
      have HSB:=Lib.hid (HST.out.step (X':=List.range (G+1)) kB (fun y hy _=>by rw [List.mem_singleton] at hy;exact List.mem_range.2 (by omega)) (fun y hy=>Or.inl hy));have HKB:=Lib.hid (HKR.out.fresh kB (fun y hy=>by rw [List.mem_singleton] at hy;omega));have B2:=Lib.hid b2;clear hwB bB kB b2 u0 u3 u4 e0 g0;go_wp2_with fail;refine negate_end (((((B2.out.set_ 0 _).set_ 1 _).set_ 2 _).set_ 3 _).set_ 4 _) rfl rfl ?_;have kF:=((((((Kept.refl [w.heap.size+1] wB).setCell (p:=⟨w.heap.size+1,0,none⟩) (Or.inl (by simp)) (.int .i64 3)).setCell (p:=⟨w.heap.size+1,1,none⟩) (Or.inl (by simp)) (.string ⟨#[]⟩)).setCell (p:=⟨w.heap.size+1,2,none⟩) (Or.inl (by simp)) (.string ⟨#[]⟩)).setCell (p:=⟨w.heap.size+1,3,none⟩) (Or.inl (by simp)) (.int .i64 ((j:Int) - cc+1))).setCell (p:=⟨w.heap.size+1,4,none⟩) (Or.inl (by simp)) (.slice ka' ns.length kc'));refine ⟨_,rfl,HKB.out.fresh kF (fun y hy=>by rw [List.mem_singleton] at hy;omega),?_⟩;rw [negB,HKS.out,hkn]
      show PdN w.heap.size _ _ (.node 3 [] [] ((j:Int) - cc+1) ns)
      exact ⟨[.int .i64 3,.string ⟨#[]⟩,.string ⟨#[]⟩,.int .i64 ((j:Int) - cc+1),.slice ka' ns.length kc'],rfl,(HSB.out.imp fun w' hr=>PdR.of_rows (l:=[]) (r:=[]) hr).step kF (fun y hy _=>by rw [List.mem_singleton] at hy;exact List.mem_range.2 (by omega)) (fun y hy=>Or.inl (List.mem_range.2 (by have:=List.mem_range.1 hy;omega)))⟩
end Go.Proofs.YtpcmamoomaddoaaGreatDoor
