/- The parser's list of elements. -/
import Derived.Test.YtpcmamoomaddoaaGreatDoorSgb
import Derived.Test.YtpcmamoomaddoaaGreatDoorOrd
namespace Go.Proofs.YtpcmamoomaddoaaGreatDoor
open Go.RowKit
/-- what a method that parses a predicate hands back -/
def stopped:Value→Bool
 | .bool false=>true
 | _=>false
def cellLen:Option Value→Nat
 | some (.slice _ n _)=>n
 | _=>0
def PdE (B:Nat) (W0:World) (rb:Nat) (ts:List Tok) (a:Option Addr) (c:Nat) (z:Int) (w:World) (r:Res Pd) (e:Ending) (w':World):Prop :=
 match r with
 | .error k=>Fails [rb] w k e w'
 | .ok (p,j)=>∃ v,e=.returned v∧Kept [rb] w w'∧Ps B W0 rb ts a c z w' j∧PdN w.heap.size w' v p
theorem Ps.far {B:Nat} {W0:World} {rb:Nat} {ts:List Tok} {a:Option Addr} {c:Nat} {z:Int} {w w':World} {i:Nat} {S:List Nat} (h:Ps B W0 rb ts a c z w i) (k:Kept S w w') (hS:∀ y∈S,rb < y):Ps B W0 rb ts a c z w' i :=
 ⟨h.env,h.kept.fresh k (fun y hy=>by have:=h.lo;have:=hS y hy;omega),h.lo,h.row,h.blk.kept k (fun hm=>by have:=hS rb hm;omega),h.small,h.ok,h.le⟩
theorem infoPred:(Tryz.prog.info? 46).map (fun i=>(i.zero,i.size,i.bytes))=some (some (.agg #[.int .i64 0,.string ⟨#[]⟩,.string ⟨#[]⟩,.int .i64 0,.slice none 0 0]),5,72):=by kernel_rfl
theorem list_end {w2:World} {tmps:Array Value} {v0 v1 v2 v3 v4 X:Value} {b:Nat} {R:Ending→World→Prop} (hb:Blk w2 b 46 #[v0,v1,v2,v3,v4]) (h2:tmps[8]?.getD undef=.pointer (some ⟨b,0,none⟩))
  (hX:.agg #[v0,v1,v2,v3,v4]=X) (hR:R (.returned X) w2) :
  bodyPost Tryz.prog Tryz.f117 R Exit.ret { tmps:=tmps,defers:=[] } w2:=by
 subst hX;have c0:w2.cell? ⟨b,0,none⟩=some v0:=hb.cell 0;have c1:w2.cell? ⟨b,1,none⟩=some v1:=hb.cell 1;have c2:w2.cell? ⟨b,2,none⟩=some v2:=hb.cell 2;have c3:w2.cell? ⟨b,3,none⟩=some v3:=hb.cell 3;have c4:w2.cell? ⟨b,4,none⟩=some v4:=hb.cell 4;refine bodyPost_ret (v:=.agg #[v0,v1,v2,v3,v4]) ?_ rfl hR;simp only [results,Tryz.results117]
 simp [go_sem,h2,c0,c1,c2,c3,c4]
set_option maxRecDepth 100000 in
set_option maxHeartbeats 8000000 in
theorem listU_any {B:Nat} {W0:World} {rb:Nat} {ts:List Tok} {a:Option Addr} {c:Nat} {z:Int} {w:World} {n0:Nat} (E:Nat→Res Pd) (kd:Int) (word:Bs) (h:Ps B W0 rb ts a c z w n0)
  (hE:∀ w i,n0≤i→Ps B W0 rb ts a c z w i→Calls Tryz.prog 153 #[.pointer (some ⟨rb,0,none⟩)] w (PdE B W0 rb ts a c z w (E i))) (hmono:∀ i p j,E i=.ok (p,j)→i≤j) (f0:Nat) (hf:ts.length < n0+f0) (hf9:f0≤100000) :
  Calls Tryz.prog 117 #[.pointer (some ⟨rb,0,none⟩),.int .i64 kd,.string ⟨word.toArray⟩,.func (.func 153) #[.pointer (some ⟨rb,0,none⟩)] #[]] w
   (PdE B W0 rb ts a c z w (bnd (sepP (skipP ts word) E f0 n0 []) fun l j=>.ok (one kd l,j))):=by
 obtain ⟨i0,hi,hz0,hz1,hz2⟩:=info_parts infoPred;obtain ⟨g,hg⟩:∃ g,w.heap.size=g:=⟨_,rfl⟩;obtain ⟨W,hW⟩:∃ W,(w.alloc (.cells #[.int .i64 0,.string ⟨#[]⟩,.string ⟨#[]⟩,.int .i64 0,.slice none 0 0] 46)).alloc (.cells #[.int .i64 kd,.string ⟨#[]⟩,.string ⟨#[]⟩,.int .i64 0,.slice none 0 0] 46)=W:=⟨_,rfl⟩;have hkW:Kept [] w W:=hW▸((Kept.refl _ _).alloc _).alloc _;have hB1:Blk W w.heap.size 46 #[.int .i64 0,.string ⟨#[]⟩,.string ⟨#[]⟩,.int .i64 0,.slice none 0 0]:=hW▸(Blk.new _ _ _).alloc _;have hB2:Blk W (w.heap.size+1) 46 #[.int .i64 kd,.string ⟨#[]⟩,.string ⟨#[]⟩,.int .i64 0,.slice none 0 0]:=hW▸Blk.new1 _ _ _ _;have hw:=h.step hkW;have hrb:rb < w.heap.size:=h.blk.lt;have HB1:=Lib.hid hB1;have HB2:=Lib.hid hB2;have HK:Hid (Kept [rb] w W):=Lib.hid (hkW.mono (by simp));have HW:=Lib.hid hW;have HE:=Lib.hid hE;have HP:=Lib.hid hw;obtain ⟨R,hR⟩:∃ R,sepP (skipP ts word) E f0 n0 []=R:=⟨_,rfl⟩;have HR:=Lib.hid hR;rw [hR];clear hW hkW hB1 hB2 h hw hE hR hg
 go_enter Tryz.func117,Tryz.ntmps117
 go_upto_region 2 with (fail);have hW':=HW.out;rw [hW'];clear hW';go_wp2_with fail
 go_loopw [10] (fun v wr=>∃ (b:Bool) (i f:Nat) (l:List Pd) (kv:Value),v=.bool b∧n0≤i∧Ps B W0 rb ts a c z wr i∧Kept [rb] w wr∧Blk wr (w.heap.size+1) 46 #[.int .i64 kd,.string ⟨#[]⟩,.string ⟨#[]⟩,.int .i64 0,kv] ∧
  Blk wr w.heap.size 46 #[.int .i64 0,.string ⟨#[]⟩,.string ⟨#[]⟩,.int .i64 0,.slice none 0 0] ∧
  Grow PdR 5 46 (w.heap.size+2) (List.range (w.heap.size+2)++obl kv) wr kv l∧l.length+f≤f0∧w.heap.size+2≤wr.heap.size∧(if b then ts.length < i+f∧sepP (skipP ts word) E f i l=R else R=.ok (l,i)))
  (fun v wr=>if stopped v then 0 else f0+1 - cellLen (wr.cell? ⟨w.heap.size+1,4,none⟩))
 case atStart=>exact ⟨true,n0,f0,[],_,rfl,Nat.le_refl _,HP.out,HK.out,HB2.out,HB1.out,Grow.nil_ _ _ _ _ _ _,by simp,by have:=HB2.out.lt;omega,by simp only [if_true];exact ⟨hf,HR.out⟩⟩
 case round =>
  obtain ⟨b,i,f,l,kv,rfl,hni,hps,hk,hb2,hb1,hg,hlf,hsz,hcase⟩:=hrel;obtain ⟨ka,kc,rfl⟩:=hg.form (by decide)
  cases b
  ·simp only [Bool.false_eq_true,if_false] at hcase;subst hcase;have t0:wr.cell? ⟨w.heap.size,0,none⟩=some (.int .i64 0):=hb1.cell 0;have t1:wr.cell? ⟨w.heap.size,1,none⟩=some (.string ⟨#[]⟩):=hb1.cell 1;have t2:wr.cell? ⟨w.heap.size,2,none⟩=some (.string ⟨#[]⟩):=hb1.cell 2;have t3:wr.cell? ⟨w.heap.size,3,none⟩=some (.int .i64 0):=hb1.cell 3;have t4:wr.cell? ⟨w.heap.size,4,none⟩=some (.slice none 0 0):=hb1.cell 4;have q0:wr.cell? ⟨w.heap.size+1,0,none⟩=some (.int .i64 kd):=hb2.cell 0;have q1:wr.cell? ⟨w.heap.size+1,1,none⟩=some (.string ⟨#[]⟩):=hb2.cell 1;have q2:wr.cell? ⟨w.heap.size+1,2,none⟩=some (.string ⟨#[]⟩):=hb2.cell 2;have q3:wr.cell? ⟨w.heap.size+1,3,none⟩=some (.int .i64 0):=hb2.cell 3;have q4:wr.cell? ⟨w.heap.size+1,4,none⟩=some (.slice ka l.length kc):=hb2.cell 4;have f0:=hb1.frozen 0;have f1:=hb1.frozen 1;have f2:=hb1.frozen 2;have f3:=hb1.frozen 3;have f4:=hb1.frozen 4;have HEND:=Lib.hid (fun v0 v1 v2 v3 v4=>((((hb1.set_ 0 v0).set_ 1 v1).set_ 2 v2).set_ 3 v3).set_ 4 v4);have KS:=Lib.hid (fun (v0 v1 v2 v3 v4:Value)=>(((((Kept.refl [w.heap.size] wr).setCell (p:=⟨w.heap.size,0,none⟩) (Or.inl (by simp)) v0).setCell (p:=⟨w.heap.size,1,none⟩) (Or.inl (by simp)) v1).setCell (p:=⟨w.heap.size,2,none⟩) (Or.inl (by simp)) v2).setCell (p:=⟨w.heap.size,3,none⟩) (Or.inl (by simp)) v3).setCell (p:=⟨w.heap.size,4,none⟩) (Or.inl (by simp)) v4);have HPS:=Lib.hid hps;have HKK:=Lib.hid hk;have hge:=hg.ge
   have hl9:l.length≤9223372036854775807:=by omega
   by_cases h1:l.length=1
   ·obtain ⟨q,rfl⟩:∃ q,l=[q]:=by
     match l,h1 with
     | [q],_=>exact ⟨q,rfl⟩
    have hone:one kd [q]=q:=rfl;obtain ⟨vs,hown,hel⟩:=hg
    obtain ⟨c1,rfl⟩:∃ c1,vs=[c1]:=by
     have:=hel.get.1
     match vs,this with
     | [c1],_=>exact ⟨c1,rfl⟩
    have hst:Stable (List.range (w.heap.size+2)) (fun w=>PdR w c1 q) wr:=(hel.less (fun z hz=>Or.inl (List.mem_append_left _ hz))).imp fun w' h=>by
     obtain ⟨cc,hc,hr⟩:=h.2.2 0 q rfl;simp at hc;exact hc▸hr
    have hcq:=hst.get;have hrow:=Row.of_own hown hl9;obtain ⟨b,off,rfl,hcell⟩:=hrow.at_ (by simp);obtain ⟨qk,ql,qr,qc,qks⟩:=q;obtain ⟨qa,qcc,rfl,_⟩:=hcq.rows;have u0:wr.cell? ⟨b,off,none⟩=some (.int .i64 qk):=hcell 0 _ rfl;have u1:wr.cell? ⟨b,off+1,none⟩=some (.string ⟨ql.toArray⟩):=hcell 1 _ rfl;have u2:wr.cell? ⟨b,off+2,none⟩=some (.string ⟨qr.toArray⟩):=hcell 2 _ rfl;have u3:wr.cell? ⟨b,off+3,none⟩=some (.int .i64 qc):=hcell 3 _ rfl;have u4:wr.cell? ⟨b,off+4,none⟩=some (.slice qa qks.length qcc):=hcell 4 _ rfl;have HST:=Lib.hid hst;clear hps hk hel hown hst hcq hrow hcell hb1 hb2 hge h1 hone HP HR HB1 HB2 HK HW HE;go_wp2_with fail;refine list_end (HEND.out _ _ _ _ _) rfl rfl ?_;have kF:=KS.out (.int .i64 qk) (.string ⟨ql.toArray⟩) (.string ⟨qr.toArray⟩) (.int .i64 qc) (.slice qa qks.length qcc);refine ⟨_,rfl,HKK.out.fresh kF (fun y hy=>by rw [List.mem_singleton] at hy;omega),HPS.out.far kF (fun y hy=>by rw [List.mem_singleton] at hy;omega),?_⟩;exact ⟨[.int .i64 qk,.string ⟨ql.toArray⟩,.string ⟨qr.toArray⟩,.int .i64 qc,.slice qa qks.length qcc],rfl,HST.out.step kF (fun y hy _=>by rw [List.mem_singleton] at hy;exact List.mem_range.2 (by omega)) (fun y hy=>Or.inl (List.mem_range.2 (by have:=List.mem_range.1 hy;omega)))⟩
   ·have hb:((l.length:Int)==1)=false:=by simp;omega
    have hst:=Lib.hid (hg.done (X':=List.range (w.heap.size+2)) (fun z hz=>Or.inl (List.mem_append_left _ hz)) (fun z hz hm=>by have:=(hge z hz).1;have:=List.mem_range.1 hm;omega) hl9)
    have hone:one kd l=.node kd [] [] 0 l:=by
     match l,h1 with
     | [],_=>rfl
     | [_],h=>exact absurd rfl h
     | _::_::_,_=>rfl
    have HO:=Lib.hid hone;clear hps hk hg hb1 hb2 hge h1 hone HP HR HB1 HB2 HK HW HE;go_wp2_with fail;refine list_end (HEND.out _ _ _ _ _) rfl rfl ?_;have kF:=KS.out (.int .i64 kd) (.string ⟨#[]⟩) (.string ⟨#[]⟩) (.int .i64 0) (.slice ka l.length kc)
    show PdE B W0 rb ts a c z w (.ok (one kd l,i)) _ _
    rw [HO.out];refine ⟨_,rfl,HKK.out.fresh kF (fun y hy=>by rw [List.mem_singleton] at hy;omega),HPS.out.far kF (fun y hy=>by rw [List.mem_singleton] at hy;omega),?_⟩;exact ⟨[.int .i64 kd,.string ⟨#[]⟩,.string ⟨#[]⟩,.int .i64 0,.slice ka l.length kc],rfl,(hst.out.imp fun w' hr=>PdR.of_rows (l:=[]) (r:=[]) hr).step kF (fun y hy _=>by rw [List.mem_singleton] at hy;exact List.mem_range.2 (by omega)) (fun y hy=>Or.inl (List.mem_range.2 (by have:=List.mem_range.1 hy;omega)))⟩
  ·simp only [if_true] at hcase;obtain ⟨hfi,hsep⟩:=hcase;obtain ⟨f,rfl⟩:∃ g,f=g+1:=⟨f - 1,by have:=hps.le;omega⟩;rw [sepP] at hsep;have hel:=Lib.hid (HE.out wr.drew i hni (hps.step (Kept.refl _ _).drew));have HSEP:=Lib.hid hsep;have HPS:=Lib.hid hps;have HK2:=Lib.hid hk;have HBB:=Lib.hid hb2;have HBA:=Lib.hid hb1;have HG:=Lib.hid hg;clear hsep hps hk hb2 hb1 hg HK HB1 HB2 HP HW HR;have hkv:∀ y∈obl (.slice ka l.length kc),w.heap.size+2≤y∧y < wr.heap.size:=HG.out.ge;have HKV:=Lib.hid hkv
   have s0:∀ w',Kept (rb::obl (.slice ka l.length kc)) wr w'→w'.cell? ⟨w.heap.size+1,4,none⟩=some (.slice ka l.length kc):=fun w' k=>(HBB.out.kept k (by
    intro hm
    rcases List.mem_cons.1 hm with hm|hm
    ·omega
    ·have:=HKV.out _ hm;omega)).cell 4
   clear hkv;go_upto_region 5 with (fail);refine wp_region_T [7] (fun w'=>Kept (rb::obl (.slice ka l.length kc)) wr w') (by kernel_rfl) (Kept.refl _ _).drew (fun hH=>?_);refine takeT [1,5,6,7] (i:=0) (v:=?tv1) rfl (by kernel_rfl) (by kernel_rfl) (by kernel_rfl) (by kernel_rfl) (fun _ _ _ h=>h) (Or.inl ⟨by rfl,?ty1⟩) hH ?tr1
   case ty1=>intro w' hSw;(try dsimp only at hSw);go_simp;first|done|with_reducible rfl
   simp only [Act.put,List.setIfInBounds_toArray,List.set_cons_zero,List.set_cons_succ];refine takeT [5,6,7] (i:=1) (v:=?tv2) rfl (by kernel_rfl) (by kernel_rfl) (by kernel_rfl) (by kernel_rfl) (fun _ _ _ h=>h) (Or.inl ⟨by rfl,?ty2⟩) hH ?tr2
   case ty2=>intro w' hSw;(try dsimp only at hSw);go_simp;first|done|with_reducible rfl
   simp only [Act.put,List.setIfInBounds_toArray,List.set_cons_zero,List.set_cons_succ];refine takeT [3,4,5,6,7] (i:=2) (v:=?tv3) rfl (by kernel_rfl) (by kernel_rfl) (by kernel_rfl) (by kernel_rfl) (fun _ _ _ h=>h) (Or.inl ⟨by rfl,?ty3⟩) hH ?tr3
   case ty3=>intro w' hSw;(try dsimp only at hSw);go_simp;first|done|with_reducible rfl
   simp only [Act.put,List.setIfInBounds_toArray,List.set_cons_zero,List.set_cons_succ];refine wpAnyT_ready (rs:=[3]) (by kernel_rfl) (by simp) ?_;refine AllReadyT.cons rfl (fun K hK=>?_) AllReadyT.nil;go_simp
   cases hr:E i with
   | error k =>
    have hR2:=HSEP.out;rw [hr] at hR2 hel;simp only [bnd] at hR2;subst hR2;refine hel.out.mono ?_
    unfold PdE
    rintro e w6 ⟨⟨p,rfl⟩,k6⟩;exact ⟨rfl,⟨p,rfl⟩,(HK2.out.drew).trans k6⟩
   | ok y =>
    obtain ⟨p,j⟩:=y;have hij:=hmono i p j hr;have hR2:=HSEP.out;rw [hr] at hR2 hel;simp only [bnd] at hR2;have HR3:=Lib.hid hR2;clear hR2;refine hel.out.mono ?_
    unfold PdE
    rintro e w6 ⟨v,rfl,k6,h6,cs,rfl,hst⟩;obtain ⟨pk,pl,pr,pc,pks⟩:=p;obtain ⟨pa,pcc,rfl,_⟩:=hst.get.rows;have k6':Kept [rb] wr w6:=(Kept.refl _ _).drew.trans k6;refine hK.out _ _ (k6'.mono (fun _ _ h=>by rw [List.mem_singleton] at h;exact h▸List.mem_cons_self)) (fun hH=>?_);clear hK K
    (try simp only [Act.put,List.setIfInBounds_toArray,List.set_cons_zero,List.set_cons_succ])
    refine wpAnyT_ready (rs:=[4]) (by kernel_rfl) (by simp) ?_;refine AllReadyT.cons rfl (fun K hK=>?_) AllReadyT.nil;go_simp;refine hK.out _ _ (hH.alloc _) (fun hH=>?_);clear hK K
    (try simp only [Act.put,List.setIfInBounds_toArray,List.set_cons_zero,List.set_cons_succ])
    refine wpAnyT_ready (rs:=[5]) (by kernel_rfl) (by simp) ?_;refine AllReadyT.cons rfl (fun K hK=>?_) AllReadyT.nil;have hgt:=HKV.out;have hwr:wr.heap.size≤w6.heap.size:=k6'.size;have k7:Kept [rb] wr (w6.alloc (.cells #[.int .i64 pk,.string ⟨pl.toArray⟩,.string ⟨pr.toArray⟩,.int .i64 pc,.slice pa pks.length pcc] 46)):=k6'.alloc _
    have hg7:Grow PdR 5 46 (w.heap.size+2) (List.range (w.heap.size+2)++obl (.slice ka l.length kc)) (w6.alloc (.cells #[.int .i64 pk,.string ⟨pl.toArray⟩,.string ⟨pr.toArray⟩,.int .i64 pc,.slice pa pks.length pcc] 46)) (.slice ka l.length kc) l :=
     HG.out.step k7 (fun z hz hm=>by rw [List.mem_singleton] at hm;have:=(hgt z hz).1;omega) (fun z hz _=>by rw [List.mem_singleton] at hz;exact List.mem_append_left _ (List.mem_range.2 (by omega))) (fun z hz=>Or.inl hz)
    have hst7:Stable (List.range (w.heap.size+2)++obl (.slice ka l.length kc)) (fun w=>PdR w [.int .i64 pk,.string ⟨pl.toArray⟩,.string ⟨pr.toArray⟩,.int .i64 pc,.slice pa pks.length pcc] (.node pk pl pr pc pks)) (w6.alloc (.cells #[.int .i64 pk,.string ⟨pl.toArray⟩,.string ⟨pr.toArray⟩,.int .i64 pc,.slice pa pks.length pcc] 46)) :=
     (hst.step ((Kept.refl [] w6).alloc _) (by simp) (fun z hz=>Or.inl hz)).less (fun z hz=>by
      rcases List.mem_append.1 hz with h|h
      ·exact Or.inl (List.mem_range.2 (by have:=List.mem_range.1 h;show z < wr.heap.size;omega))
      ·exact Or.inl (List.mem_range.2 (hgt z h).2))
    refine step_append_grow rfl _ _ 44 rfl i0 _ 72 Tryz.underlying44 hi hz0 hz1 hz2 rfl (by decide) (by decide) rfl hg7 _ [.int .i64 pk,.string ⟨pl.toArray⟩,.string ⟨pr.toArray⟩,.int .i64 pc,.slice pa pks.length pcc] (.node pk pl pr pc pks) rfl (row_of_blk (cs:=[.int .i64 pk,.string ⟨pl.toArray⟩,.string ⟨pr.toArray⟩,.int .i64 pc,.slice pa pks.length pcc]) (Blk.new _ _ _) rfl (by decide)) hst7 (by simp [Value.oneCell']) (by omega) (by simp only [World.size_alloc];omega) (fun z hz=>List.mem_append_right _ hz) ?_;intro a' c' w8 hg8 k8 ho8;have hS8:Kept (rb::obl (.slice ka l.length kc)) wr w8:=(k7.mono (fun _ _ h=>by rw [List.mem_singleton] at h;exact h▸List.mem_cons_self)).trans (k8.mono (fun _ _ h=>List.mem_cons_of_mem _ h));refine hK.out _ _ hS8 (fun hH=>?_);clear hK K
    (try simp only [Act.put,List.setIfInBounds_toArray])
    refine takeT [7] (i:=6) (v:=?tv4) rfl (by kernel_rfl) (by kernel_rfl) (by kernel_rfl) (by kernel_rfl) (fun _ _ _ h=>h) (Or.inl ⟨by rfl,?ty4⟩) hH ?tr4
    case ty4=>intro w' hSw;(try dsimp only at hSw);go_simp;first|done|with_reducible rfl
    simp only [Act.put]
    have nb2:w.heap.size+1∉rb::obl (.slice ka l.length kc):=by
     intro hm
     rcases List.mem_cons.1 hm with hm|hm
     ·omega
     ·have:=hgt _ hm;omega
    have nb1:w.heap.size∉rb::obl (.slice ka l.length kc):=by
     intro hm
     rcases List.mem_cons.1 hm with hm|hm
     ·omega
     ·have:=hgt _ hm;omega
    have hb8:=HBB.out.kept hS8 nb2;have ha8:=HBA.out.kept hS8 nb1;have x4:w8.cell? ⟨w.heap.size+1,4,none⟩=some (.slice ka l.length kc):=hb8.cell 4;have x5:=hb8.frozen 4;have HB8:=Lib.hid hb8;have HA8:=Lib.hid ha8;have HG8:=Lib.hid hg8;have K8:=Lib.hid hS8;have HO8:=Lib.hid ho8;have H6:=Lib.hid h6;have KK8:=Lib.hid k8;have HS7:=Lib.hid (World.size_alloc w6 (.cells #[.int .i64 pk,.string ⟨pl.toArray⟩,.string ⟨pr.toArray⟩,.int .i64 pc,.slice pa pks.length pcc] 46));clear hb8 ha8 hg8 hS8 ho8 h6 k8 hg7 hst7 hst k7 k6 k6' s0 nb1 nb2;refine wpAnyT_ready (rs:=[7]) (by kernel_rfl) (by simp) ?_;refine AllReadyT.last rfl (by kernel_rfl) (fun K hK=>?_);go_simp;refine hK.out _ _ ?_;clear hK K
    (try simp only [Act.put,List.setIfInBounds_toArray,List.set_cons_zero,List.set_cons_succ])
    refine wpAnyT_done (by kernel_rfl) ?_ _;obtain ⟨w9,hw9⟩:∃ x,w8.setCell ⟨w.heap.size+1,4,none⟩ (.slice a' (l.length+1) c')=x:=⟨_,rfl⟩;rw [hw9];have k89:Kept [w.heap.size+1] w8 w9:=hw9▸(Kept.refl _ _).setCell (Or.inl (by simp)) _;have hb9:Blk w9 (w.heap.size+1) 46 #[.int .i64 kd,.string ⟨#[]⟩,.string ⟨#[]⟩,.int .i64 0,.slice a' (l.length+1) c']:=hw9▸HB8.out.set_ 4 _;have ha9:=HA8.out.kept k89 (by simp);have h9:Ps B W0 rb ts a c z w9 j:=((H6.out.step ((Kept.refl [] w6).alloc _)).far KK8.out (fun y hy=>by have:=(hgt y hy).1;omega)).far k89 (fun y hy=>by rw [List.mem_singleton] at hy;omega)
    have hgn:∀ y∈obl (.slice a' (l.length+1) c'),w.heap.size+2≤y:=fun y hy=>by
     rcases HO8.out y hy with h|h
     ·exact (hgt y h).1
     ·have:=HS7.out;omega
    have hg9:=HG8.out.step (X':=List.range (w.heap.size+2)++obl (.slice a' (l.length+1) c')) k89 (fun y hy hm=>by rw [List.mem_singleton] at hm;have:=hgn y hy;omega) (fun y hy _=>by rw [List.mem_singleton] at hy;exact List.mem_append_left _ (List.mem_append_left _ (List.mem_range.2 (by omega)))) (fun y hy=>by
     rcases List.mem_append.1 hy with h|h
     ·exact Or.inl (List.mem_append_left _ (List.mem_append_left _ h))
     ·exact Or.inl (List.mem_append_right _ h))
    have hk9:Kept [rb] w w9:=(HK2.out.then_ K8.out (fun y hy hm=>by
     rcases List.mem_cons.1 hm with h|h
     ·exact h▸List.mem_singleton.2 rfl
     ·have:=(hgt y h).1;omega)).fresh k89 (fun y hy=>by rw [List.mem_singleton] at hy;omega)
    have hsz9:w.heap.size+2≤w9.heap.size:=by have:=K8.out.size;have:=k89.size;omega
    have hsk:=Lib.hid (skip_any h9 word);have HB9:=Lib.hid hb9;have HA9:=Lib.hid ha9;have HG9:=Lib.hid hg9;have HK9:=Lib.hid hk9;have HGN:=Lib.hid hgn;have HL9:=Lib.hid h9.le;clear hw9 k89 hb9 ha9 h9 hgn hg9 hk9 hgt HB8 HA8 HG8 K8 HO8 H6 KK8 x4 x5 hH
    cases hsw:skipP ts word j
    ·rw [hsw] at hsk;have hfin:=HR3.out;rw [hsw,if_neg (by simp)] at hfin;have HFIN:=Lib.hid hfin;clear hfin;go_wp2_with (go_at_call 115;refine hsk.out.mono ?_;rintro e w10 ⟨rfl,k10,h10⟩)
     go_roundw
     case rel =>
      refine ⟨false,j,f,l++[.node pk pl pr pc pks],.slice a' (l.length+1) c',rfl,by omega,h10,HK9.out.trans k10,HB9.out.kept k10 (by simp;omega),HA9.out.kept k10 (by simp;omega),?_,?_,by have:=k10.size;omega,?_⟩
      ·exact HG9.out.step k10 (fun y hy hm=>by rw [List.mem_singleton] at hm;have:=HGN.out y hy;omega) (fun y hy _=>by rw [List.mem_singleton] at hy;exact List.mem_append_left _ (List.mem_range.2 (by omega))) (fun y hy=>Or.inl hy)
      ·rw [List.length_append];simp;omega
      ·simp only [Bool.false_eq_true,if_false];exact HFIN.out.symm
     case measure =>
      rw [show wr.cell? ⟨w.heap.size+1,4,none⟩=some (.slice ka l.length kc) from HBB.out.cell 4];simp only [stopped,cellLen,if_true,Bool.false_eq_true,if_false];omega
    ·rw [hsw] at hsk;have hfin:=HR3.out;rw [hsw,if_pos rfl] at hfin;have HFIN:=Lib.hid hfin;clear hfin;go_wp2_with (go_at_call 115;refine hsk.out.mono ?_;rintro e w10 ⟨rfl,k10,h10⟩)
     go_roundw
     case rel =>
      refine ⟨true,j+1,f,l++[.node pk pl pr pc pks],.slice a' (l.length+1) c',rfl,by omega,h10,HK9.out.trans k10,HB9.out.kept k10 (by simp;omega),HA9.out.kept k10 (by simp;omega),?_,?_,by have:=k10.size;omega,?_⟩
      ·exact HG9.out.step k10 (fun y hy hm=>by rw [List.mem_singleton] at hm;have:=HGN.out y hy;omega) (fun y hy _=>by rw [List.mem_singleton] at hy;exact List.mem_append_left _ (List.mem_range.2 (by omega))) (fun y hy=>Or.inl hy)
      ·rw [List.length_append];simp;omega
      ·simp only [if_true];exact ⟨by omega,HFIN.out⟩
     case measure =>
      rw [show wr.cell? ⟨w.heap.size+1,4,none⟩=some (.slice ka l.length kc) from HBB.out.cell 4,show w10.cell? ⟨w.heap.size+1,4,none⟩=some (.slice a' (l.length+1) c') from (HB9.out.kept k10 (by simp;omega)).cell 4];simp only [stopped,cellLen,Bool.false_eq_true,if_false];omega
set_option maxRecDepth 100000 in
set_option maxHeartbeats 8000000 in
theorem listA_any {B:Nat} {W0:World} {rb:Nat} {ts:List Tok} {a:Option Addr} {c:Nat} {z:Int} {w:World} {n0:Nat} (E:Nat→Res Pd) (kd:Int) (word:Bs) (h:Ps B W0 rb ts a c z w n0)
  (hE:∀ w i,n0≤i→Ps B W0 rb ts a c z w i→Calls Tryz.prog 118 #[.pointer (some ⟨rb,0,none⟩)] w (PdE B W0 rb ts a c z w (E i))) (hmono:∀ i p j,E i=.ok (p,j)→i≤j) (f0:Nat) (hf:ts.length < n0+f0) (hf9:f0≤100000) :
  Calls Tryz.prog 117 #[.pointer (some ⟨rb,0,none⟩),.int .i64 kd,.string ⟨word.toArray⟩,.func (.func 118) #[.pointer (some ⟨rb,0,none⟩)] #[]] w
   (PdE B W0 rb ts a c z w (bnd (sepP (skipP ts word) E f0 n0 []) fun l j=>.ok (one kd l,j))):=by
 obtain ⟨i0,hi,hz0,hz1,hz2⟩:=info_parts infoPred;obtain ⟨g,hg⟩:∃ g,w.heap.size=g:=⟨_,rfl⟩;obtain ⟨W,hW⟩:∃ W,(w.alloc (.cells #[.int .i64 0,.string ⟨#[]⟩,.string ⟨#[]⟩,.int .i64 0,.slice none 0 0] 46)).alloc (.cells #[.int .i64 kd,.string ⟨#[]⟩,.string ⟨#[]⟩,.int .i64 0,.slice none 0 0] 46)=W:=⟨_,rfl⟩;have hkW:Kept [] w W:=hW▸((Kept.refl _ _).alloc _).alloc _;have hB1:Blk W w.heap.size 46 #[.int .i64 0,.string ⟨#[]⟩,.string ⟨#[]⟩,.int .i64 0,.slice none 0 0]:=hW▸(Blk.new _ _ _).alloc _;have hB2:Blk W (w.heap.size+1) 46 #[.int .i64 kd,.string ⟨#[]⟩,.string ⟨#[]⟩,.int .i64 0,.slice none 0 0]:=hW▸Blk.new1 _ _ _ _;have hw:=h.step hkW;have hrb:rb < w.heap.size:=h.blk.lt;have HB1:=Lib.hid hB1;have HB2:=Lib.hid hB2;have HK:Hid (Kept [rb] w W):=Lib.hid (hkW.mono (by simp));have HW:=Lib.hid hW;have HE:=Lib.hid hE;have HP:=Lib.hid hw;obtain ⟨R,hR⟩:∃ R,sepP (skipP ts word) E f0 n0 []=R:=⟨_,rfl⟩;have HR:=Lib.hid hR;rw [hR];clear hW hkW hB1 hB2 h hw hE hR hg
 go_enter Tryz.func117,Tryz.ntmps117
 go_upto_region 2 with (fail);have hW':=HW.out;rw [hW'];clear hW';go_wp2_with fail
 go_loopw [10] (fun v wr=>∃ (b:Bool) (i f:Nat) (l:List Pd) (kv:Value),v=.bool b∧n0≤i∧Ps B W0 rb ts a c z wr i∧Kept [rb] w wr∧Blk wr (w.heap.size+1) 46 #[.int .i64 kd,.string ⟨#[]⟩,.string ⟨#[]⟩,.int .i64 0,kv] ∧
  Blk wr w.heap.size 46 #[.int .i64 0,.string ⟨#[]⟩,.string ⟨#[]⟩,.int .i64 0,.slice none 0 0] ∧
  Grow PdR 5 46 (w.heap.size+2) (List.range (w.heap.size+2)++obl kv) wr kv l∧l.length+f≤f0∧w.heap.size+2≤wr.heap.size∧(if b then ts.length < i+f∧sepP (skipP ts word) E f i l=R else R=.ok (l,i)))
  (fun v wr=>if stopped v then 0 else f0+1 - cellLen (wr.cell? ⟨w.heap.size+1,4,none⟩))
 case atStart=>exact ⟨true,n0,f0,[],_,rfl,Nat.le_refl _,HP.out,HK.out,HB2.out,HB1.out,Grow.nil_ _ _ _ _ _ _,by simp,by have:=HB2.out.lt;omega,by simp only [if_true];exact ⟨hf,HR.out⟩⟩
 case round =>
  obtain ⟨b,i,f,l,kv,rfl,hni,hps,hk,hb2,hb1,hg,hlf,hsz,hcase⟩:=hrel;obtain ⟨ka,kc,rfl⟩:=hg.form (by decide)
  cases b
  ·simp only [Bool.false_eq_true,if_false] at hcase;subst hcase;have t0:wr.cell? ⟨w.heap.size,0,none⟩=some (.int .i64 0):=hb1.cell 0;have t1:wr.cell? ⟨w.heap.size,1,none⟩=some (.string ⟨#[]⟩):=hb1.cell 1;have t2:wr.cell? ⟨w.heap.size,2,none⟩=some (.string ⟨#[]⟩):=hb1.cell 2;have t3:wr.cell? ⟨w.heap.size,3,none⟩=some (.int .i64 0):=hb1.cell 3;have t4:wr.cell? ⟨w.heap.size,4,none⟩=some (.slice none 0 0):=hb1.cell 4;have q0:wr.cell? ⟨w.heap.size+1,0,none⟩=some (.int .i64 kd):=hb2.cell 0;have q1:wr.cell? ⟨w.heap.size+1,1,none⟩=some (.string ⟨#[]⟩):=hb2.cell 1;have q2:wr.cell? ⟨w.heap.size+1,2,none⟩=some (.string ⟨#[]⟩):=hb2.cell 2;have q3:wr.cell? ⟨w.heap.size+1,3,none⟩=some (.int .i64 0):=hb2.cell 3;have q4:wr.cell? ⟨w.heap.size+1,4,none⟩=some (.slice ka l.length kc):=hb2.cell 4;have f0:=hb1.frozen 0;have f1:=hb1.frozen 1;have f2:=hb1.frozen 2;have f3:=hb1.frozen 3;have f4:=hb1.frozen 4;have HEND:=Lib.hid (fun v0 v1 v2 v3 v4=>((((hb1.set_ 0 v0).set_ 1 v1).set_ 2 v2).set_ 3 v3).set_ 4 v4);have KS:=Lib.hid (fun (v0 v1 v2 v3 v4:Value)=>(((((Kept.refl [w.heap.size] wr).setCell (p:=⟨w.heap.size,0,none⟩) (Or.inl (by simp)) v0).setCell (p:=⟨w.heap.size,1,none⟩) (Or.inl (by simp)) v1).setCell (p:=⟨w.heap.size,2,none⟩) (Or.inl (by simp)) v2).setCell (p:=⟨w.heap.size,3,none⟩) (Or.inl (by simp)) v3).setCell (p:=⟨w.heap.size,4,none⟩) (Or.inl (by simp)) v4);have HPS:=Lib.hid hps;have HKK:=Lib.hid hk;have hge:=hg.ge
   have hl9:l.length≤9223372036854775807:=by omega
   by_cases h1:l.length=1
   ·obtain ⟨q,rfl⟩:∃ q,l=[q]:=by
     match l,h1 with
     | [q],_=>exact ⟨q,rfl⟩
    have hone:one kd [q]=q:=rfl;obtain ⟨vs,hown,hel⟩:=hg
    obtain ⟨c1,rfl⟩:∃ c1,vs=[c1]:=by
     have:=hel.get.1
     match vs,this with
     | [c1],_=>exact ⟨c1,rfl⟩
    have hst:Stable (List.range (w.heap.size+2)) (fun w=>PdR w c1 q) wr:=(hel.less (fun z hz=>Or.inl (List.mem_append_left _ hz))).imp fun w' h=>by
     obtain ⟨cc,hc,hr⟩:=h.2.2 0 q rfl;simp at hc;exact hc▸hr
    have hcq:=hst.get;have hrow:=Row.of_own hown hl9;obtain ⟨b,off,rfl,hcell⟩:=hrow.at_ (by simp);obtain ⟨qk,ql,qr,qc,qks⟩:=q;obtain ⟨qa,qcc,rfl,_⟩:=hcq.rows;have u0:wr.cell? ⟨b,off,none⟩=some (.int .i64 qk):=hcell 0 _ rfl;have u1:wr.cell? ⟨b,off+1,none⟩=some (.string ⟨ql.toArray⟩):=hcell 1 _ rfl;have u2:wr.cell? ⟨b,off+2,none⟩=some (.string ⟨qr.toArray⟩):=hcell 2 _ rfl;have u3:wr.cell? ⟨b,off+3,none⟩=some (.int .i64 qc):=hcell 3 _ rfl;have u4:wr.cell? ⟨b,off+4,none⟩=some (.slice qa qks.length qcc):=hcell 4 _ rfl;have HST:=Lib.hid hst;clear hps hk hel hown hst hcq hrow hcell hb1 hb2 hge h1 hone HP HR HB1 HB2 HK HW HE;go_wp2_with fail;refine list_end (HEND.out _ _ _ _ _) rfl rfl ?_;have kF:=KS.out (.int .i64 qk) (.string ⟨ql.toArray⟩) (.string ⟨qr.toArray⟩) (.int .i64 qc) (.slice qa qks.length qcc);refine ⟨_,rfl,HKK.out.fresh kF (fun y hy=>by rw [List.mem_singleton] at hy;omega),HPS.out.far kF (fun y hy=>by rw [List.mem_singleton] at hy;omega),?_⟩;exact ⟨[.int .i64 qk,.string ⟨ql.toArray⟩,.string ⟨qr.toArray⟩,.int .i64 qc,.slice qa qks.length qcc],rfl,HST.out.step kF (fun y hy _=>by rw [List.mem_singleton] at hy;exact List.mem_range.2 (by omega)) (fun y hy=>Or.inl (List.mem_range.2 (by have:=List.mem_range.1 hy;omega)))⟩
   ·have hb:((l.length:Int)==1)=false:=by simp;omega
    have hst:=Lib.hid (hg.done (X':=List.range (w.heap.size+2)) (fun z hz=>Or.inl (List.mem_append_left _ hz)) (fun z hz hm=>by have:=(hge z hz).1;have:=List.mem_range.1 hm;omega) hl9)
    have hone:one kd l=.node kd [] [] 0 l:=by
     match l,h1 with
     | [],_=>rfl
     | [_],h=>exact absurd rfl h
     | _::_::_,_=>rfl
    have HO:=Lib.hid hone;clear hps hk hg hb1 hb2 hge h1 hone HP HR HB1 HB2 HK HW HE;go_wp2_with fail;refine list_end (HEND.out _ _ _ _ _) rfl rfl ?_;have kF:=KS.out (.int .i64 kd) (.string ⟨#[]⟩) (.string ⟨#[]⟩) (.int .i64 0) (.slice ka l.length kc)
    show PdE B W0 rb ts a c z w (.ok (one kd l,i)) _ _
    rw [HO.out];refine ⟨_,rfl,HKK.out.fresh kF (fun y hy=>by rw [List.mem_singleton] at hy;omega),HPS.out.far kF (fun y hy=>by rw [List.mem_singleton] at hy;omega),?_⟩;exact ⟨[.int .i64 kd,.string ⟨#[]⟩,.string ⟨#[]⟩,.int .i64 0,.slice ka l.length kc],rfl,(hst.out.imp fun w' hr=>PdR.of_rows (l:=[]) (r:=[]) hr).step kF (fun y hy _=>by rw [List.mem_singleton] at hy;exact List.mem_range.2 (by omega)) (fun y hy=>Or.inl (List.mem_range.2 (by have:=List.mem_range.1 hy;omega)))⟩
  ·simp only [if_true] at hcase;obtain ⟨hfi,hsep⟩:=hcase;obtain ⟨f,rfl⟩:∃ g,f=g+1:=⟨f - 1,by have:=hps.le;omega⟩;rw [sepP] at hsep;have hel:=Lib.hid (HE.out wr.drew i hni (hps.step (Kept.refl _ _).drew));have HSEP:=Lib.hid hsep;have HPS:=Lib.hid hps;have HK2:=Lib.hid hk;have HBB:=Lib.hid hb2;have HBA:=Lib.hid hb1;have HG:=Lib.hid hg;clear hsep hps hk hb2 hb1 hg HK HB1 HB2 HP HW HR;have hkv:∀ y∈obl (.slice ka l.length kc),w.heap.size+2≤y∧y < wr.heap.size:=HG.out.ge;have HKV:=Lib.hid hkv
   have s0:∀ w',Kept (rb::obl (.slice ka l.length kc)) wr w'→w'.cell? ⟨w.heap.size+1,4,none⟩=some (.slice ka l.length kc):=fun w' k=>(HBB.out.kept k (by
    intro hm
    rcases List.mem_cons.1 hm with hm|hm
    ·omega
    ·have:=HKV.out _ hm;omega)).cell 4
   clear hkv;go_upto_region 5 with (fail);refine wp_region_T [7] (fun w'=>Kept (rb::obl (.slice ka l.length kc)) wr w') (by kernel_rfl) (Kept.refl _ _).drew (fun hH=>?_);refine takeT [1,5,6,7] (i:=0) (v:=?tv1) rfl (by kernel_rfl) (by kernel_rfl) (by kernel_rfl) (by kernel_rfl) (fun _ _ _ h=>h) (Or.inl ⟨by rfl,?ty1⟩) hH ?tr1
   case ty1=>intro w' hSw;(try dsimp only at hSw);go_simp;first|done|with_reducible rfl
   simp only [Act.put,List.setIfInBounds_toArray,List.set_cons_zero,List.set_cons_succ];refine takeT [5,6,7] (i:=1) (v:=?tv2) rfl (by kernel_rfl) (by kernel_rfl) (by kernel_rfl) (by kernel_rfl) (fun _ _ _ h=>h) (Or.inl ⟨by rfl,?ty2⟩) hH ?tr2
   case ty2=>intro w' hSw;(try dsimp only at hSw);go_simp;first|done|with_reducible rfl
   simp only [Act.put,List.setIfInBounds_toArray,List.set_cons_zero,List.set_cons_succ];refine takeT [3,4,5,6,7] (i:=2) (v:=?tv3) rfl (by kernel_rfl) (by kernel_rfl) (by kernel_rfl) (by kernel_rfl) (fun _ _ _ h=>h) (Or.inl ⟨by rfl,?ty3⟩) hH ?tr3
   case ty3=>intro w' hSw;(try dsimp only at hSw);go_simp;first|done|with_reducible rfl
   simp only [Act.put,List.setIfInBounds_toArray,List.set_cons_zero,List.set_cons_succ];refine wpAnyT_ready (rs:=[3]) (by kernel_rfl) (by simp) ?_;refine AllReadyT.cons rfl (fun K hK=>?_) AllReadyT.nil;go_simp
   cases hr:E i with
   | error k =>
    have hR2:=HSEP.out;rw [hr] at hR2 hel;simp only [bnd] at hR2;subst hR2;refine hel.out.mono ?_
    unfold PdE
    rintro e w6 ⟨⟨p,rfl⟩,k6⟩;exact ⟨rfl,⟨p,rfl⟩,(HK2.out.drew).trans k6⟩
   | ok y =>
    obtain ⟨p,j⟩:=y;have hij:=hmono i p j hr;have hR2:=HSEP.out;rw [hr] at hR2 hel;simp only [bnd] at hR2;have HR3:=Lib.hid hR2;clear hR2;refine hel.out.mono ?_
    unfold PdE
    rintro e w6 ⟨v,rfl,k6,h6,cs,rfl,hst⟩;obtain ⟨pk,pl,pr,pc,pks⟩:=p;obtain ⟨pa,pcc,rfl,_⟩:=hst.get.rows;have k6':Kept [rb] wr w6:=(Kept.refl _ _).drew.trans k6;refine hK.out _ _ (k6'.mono (fun _ _ h=>by rw [List.mem_singleton] at h;exact h▸List.mem_cons_self)) (fun hH=>?_);clear hK K
    (try simp only [Act.put,List.setIfInBounds_toArray,List.set_cons_zero,List.set_cons_succ])
    refine wpAnyT_ready (rs:=[4]) (by kernel_rfl) (by simp) ?_;refine AllReadyT.cons rfl (fun K hK=>?_) AllReadyT.nil;go_simp;refine hK.out _ _ (hH.alloc _) (fun hH=>?_);clear hK K
    (try simp only [Act.put,List.setIfInBounds_toArray,List.set_cons_zero,List.set_cons_succ])
    refine wpAnyT_ready (rs:=[5]) (by kernel_rfl) (by simp) ?_;refine AllReadyT.cons rfl (fun K hK=>?_) AllReadyT.nil;have hgt:=HKV.out;have hwr:wr.heap.size≤w6.heap.size:=k6'.size;have k7:Kept [rb] wr (w6.alloc (.cells #[.int .i64 pk,.string ⟨pl.toArray⟩,.string ⟨pr.toArray⟩,.int .i64 pc,.slice pa pks.length pcc] 46)):=k6'.alloc _
    have hg7:Grow PdR 5 46 (w.heap.size+2) (List.range (w.heap.size+2)++obl (.slice ka l.length kc)) (w6.alloc (.cells #[.int .i64 pk,.string ⟨pl.toArray⟩,.string ⟨pr.toArray⟩,.int .i64 pc,.slice pa pks.length pcc] 46)) (.slice ka l.length kc) l :=
     HG.out.step k7 (fun z hz hm=>by rw [List.mem_singleton] at hm;have:=(hgt z hz).1;omega) (fun z hz _=>by rw [List.mem_singleton] at hz;exact List.mem_append_left _ (List.mem_range.2 (by omega))) (fun z hz=>Or.inl hz)
    have hst7:Stable (List.range (w.heap.size+2)++obl (.slice ka l.length kc)) (fun w=>PdR w [.int .i64 pk,.string ⟨pl.toArray⟩,.string ⟨pr.toArray⟩,.int .i64 pc,.slice pa pks.length pcc] (.node pk pl pr pc pks)) (w6.alloc (.cells #[.int .i64 pk,.string ⟨pl.toArray⟩,.string ⟨pr.toArray⟩,.int .i64 pc,.slice pa pks.length pcc] 46)) :=
     (hst.step ((Kept.refl [] w6).alloc _) (by simp) (fun z hz=>Or.inl hz)).less (fun z hz=>by
      rcases List.mem_append.1 hz with h|h
      ·exact Or.inl (List.mem_range.2 (by have:=List.mem_range.1 h;show z < wr.heap.size;omega))
      ·exact Or.inl (List.mem_range.2 (hgt z h).2))
    refine step_append_grow rfl _ _ 44 rfl i0 _ 72 Tryz.underlying44 hi hz0 hz1 hz2 rfl (by decide) (by decide) rfl hg7 _ [.int .i64 pk,.string ⟨pl.toArray⟩,.string ⟨pr.toArray⟩,.int .i64 pc,.slice pa pks.length pcc] (.node pk pl pr pc pks) rfl (row_of_blk (cs:=[.int .i64 pk,.string ⟨pl.toArray⟩,.string ⟨pr.toArray⟩,.int .i64 pc,.slice pa pks.length pcc]) (Blk.new _ _ _) rfl (by decide)) hst7 (by simp [Value.oneCell']) (by omega) (by simp only [World.size_alloc];omega) (fun z hz=>List.mem_append_right _ hz) ?_;intro a' c' w8 hg8 k8 ho8;have hS8:Kept (rb::obl (.slice ka l.length kc)) wr w8:=(k7.mono (fun _ _ h=>by rw [List.mem_singleton] at h;exact h▸List.mem_cons_self)).trans (k8.mono (fun _ _ h=>List.mem_cons_of_mem _ h));refine hK.out _ _ hS8 (fun hH=>?_);clear hK K
    (try simp only [Act.put,List.setIfInBounds_toArray])
    refine takeT [7] (i:=6) (v:=?tv4) rfl (by kernel_rfl) (by kernel_rfl) (by kernel_rfl) (by kernel_rfl) (fun _ _ _ h=>h) (Or.inl ⟨by rfl,?ty4⟩) hH ?tr4
    case ty4=>intro w' hSw;(try dsimp only at hSw);go_simp;first|done|with_reducible rfl
    simp only [Act.put]
    have nb2:w.heap.size+1∉rb::obl (.slice ka l.length kc):=by
     intro hm
     rcases List.mem_cons.1 hm with hm|hm
     ·omega
     ·have:=hgt _ hm;omega
    have nb1:w.heap.size∉rb::obl (.slice ka l.length kc):=by
     intro hm
     rcases List.mem_cons.1 hm with hm|hm
     ·omega
     ·have:=hgt _ hm;omega
    have hb8:=HBB.out.kept hS8 nb2;have ha8:=HBA.out.kept hS8 nb1;have x4:w8.cell? ⟨w.heap.size+1,4,none⟩=some (.slice ka l.length kc):=hb8.cell 4;have x5:=hb8.frozen 4;have HB8:=Lib.hid hb8;have HA8:=Lib.hid ha8;have HG8:=Lib.hid hg8;have K8:=Lib.hid hS8;have HO8:=Lib.hid ho8;have H6:=Lib.hid h6;have KK8:=Lib.hid k8;have HS7:=Lib.hid (World.size_alloc w6 (.cells #[.int .i64 pk,.string ⟨pl.toArray⟩,.string ⟨pr.toArray⟩,.int .i64 pc,.slice pa pks.length pcc] 46));clear hb8 ha8 hg8 hS8 ho8 h6 k8 hg7 hst7 hst k7 k6 k6' s0 nb1 nb2;refine wpAnyT_ready (rs:=[7]) (by kernel_rfl) (by simp) ?_;refine AllReadyT.last rfl (by kernel_rfl) (fun K hK=>?_);go_simp;refine hK.out _ _ ?_;clear hK K
    (try simp only [Act.put,List.setIfInBounds_toArray,List.set_cons_zero,List.set_cons_succ])
    refine wpAnyT_done (by kernel_rfl) ?_ _;obtain ⟨w9,hw9⟩:∃ x,w8.setCell ⟨w.heap.size+1,4,none⟩ (.slice a' (l.length+1) c')=x:=⟨_,rfl⟩;rw [hw9];have k89:Kept [w.heap.size+1] w8 w9:=hw9▸(Kept.refl _ _).setCell (Or.inl (by simp)) _;have hb9:Blk w9 (w.heap.size+1) 46 #[.int .i64 kd,.string ⟨#[]⟩,.string ⟨#[]⟩,.int .i64 0,.slice a' (l.length+1) c']:=hw9▸HB8.out.set_ 4 _;have ha9:=HA8.out.kept k89 (by simp);have h9:Ps B W0 rb ts a c z w9 j:=((H6.out.step ((Kept.refl [] w6).alloc _)).far KK8.out (fun y hy=>by have:=(hgt y hy).1;omega)).far k89 (fun y hy=>by rw [List.mem_singleton] at hy;omega)
    have hgn:∀ y∈obl (.slice a' (l.length+1) c'),w.heap.size+2≤y:=fun y hy=>by
     rcases HO8.out y hy with h|h
     ·exact (hgt y h).1
     ·have:=HS7.out;omega
    have hg9:=HG8.out.step (X':=List.range (w.heap.size+2)++obl (.slice a' (l.length+1) c')) k89 (fun y hy hm=>by rw [List.mem_singleton] at hm;have:=hgn y hy;omega) (fun y hy _=>by rw [List.mem_singleton] at hy;exact List.mem_append_left _ (List.mem_append_left _ (List.mem_range.2 (by omega)))) (fun y hy=>by
     rcases List.mem_append.1 hy with h|h
     ·exact Or.inl (List.mem_append_left _ (List.mem_append_left _ h))
     ·exact Or.inl (List.mem_append_right _ h))
    have hk9:Kept [rb] w w9:=(HK2.out.then_ K8.out (fun y hy hm=>by
     rcases List.mem_cons.1 hm with h|h
     ·exact h▸List.mem_singleton.2 rfl
     ·have:=(hgt y h).1;omega)).fresh k89 (fun y hy=>by rw [List.mem_singleton] at hy;omega)
    have hsz9:w.heap.size+2≤w9.heap.size:=by have:=K8.out.size;have:=k89.size;omega
    have hsk:=Lib.hid (skip_any h9 word);have HB9:=Lib.hid hb9;have HA9:=Lib.hid ha9;have HG9:=Lib.hid hg9;have HK9:=Lib.hid hk9;have HGN:=Lib.hid hgn;have HL9:=Lib.hid h9.le;clear hw9 k89 hb9 ha9 h9 hgn hg9 hk9 hgt HB8 HA8 HG8 K8 HO8 H6 KK8 x4 x5 hH
    cases hsw:skipP ts word j
    ·rw [hsw] at hsk;have hfin:=HR3.out;rw [hsw,if_neg (by simp)] at hfin;have HFIN:=Lib.hid hfin;clear hfin;go_wp2_with (go_at_call 115;refine hsk.out.mono ?_;rintro e w10 ⟨rfl,k10,h10⟩)
     go_roundw
     case rel =>
      refine ⟨false,j,f,l++[.node pk pl pr pc pks],.slice a' (l.length+1) c',rfl,by omega,h10,HK9.out.trans k10,HB9.out.kept k10 (by simp;omega),HA9.out.kept k10 (by simp;omega),?_,?_,by have:=k10.size;omega,?_⟩
      ·exact HG9.out.step k10 (fun y hy hm=>by rw [List.mem_singleton] at hm;have:=HGN.out y hy;omega) (fun y hy _=>by rw [List.mem_singleton] at hy;exact List.mem_append_left _ (List.mem_range.2 (by omega))) (fun y hy=>Or.inl hy)
      ·rw [List.length_append];simp;omega
      ·simp only [Bool.false_eq_true,if_false];exact HFIN.out.symm
     case measure =>
      rw [show wr.cell? ⟨w.heap.size+1,4,none⟩=some (.slice ka l.length kc) from HBB.out.cell 4];simp only [stopped,cellLen,if_true,Bool.false_eq_true,if_false];omega
    ·rw [hsw] at hsk;have hfin:=HR3.out;rw [hsw,if_pos rfl] at hfin;have HFIN:=Lib.hid hfin;clear hfin;go_wp2_with (go_at_call 115;refine hsk.out.mono ?_;rintro e w10 ⟨rfl,k10,h10⟩)
     go_roundw
     case rel =>
      refine ⟨true,j+1,f,l++[.node pk pl pr pc pks],.slice a' (l.length+1) c',rfl,by omega,h10,HK9.out.trans k10,HB9.out.kept k10 (by simp;omega),HA9.out.kept k10 (by simp;omega),?_,?_,by have:=k10.size;omega,?_⟩
      ·exact HG9.out.step k10 (fun y hy hm=>by rw [List.mem_singleton] at hm;have:=HGN.out y hy;omega) (fun y hy _=>by rw [List.mem_singleton] at hy;exact List.mem_append_left _ (List.mem_range.2 (by omega))) (fun y hy=>Or.inl hy)
      ·rw [List.length_append];simp;omega
      ·simp only [if_true];exact ⟨by omega,HFIN.out⟩
     case measure =>
      rw [show wr.cell? ⟨w.heap.size+1,4,none⟩=some (.slice ka l.length kc) from HBB.out.cell 4,show w10.cell? ⟨w.heap.size+1,4,none⟩=some (.slice a' (l.length+1) c') from (HB9.out.kept k10 (by simp;omega)).cell 4];simp only [stopped,cellLen,Bool.false_eq_true,if_false];omega
end Go.Proofs.YtpcmamoomaddoaaGreatDoor
