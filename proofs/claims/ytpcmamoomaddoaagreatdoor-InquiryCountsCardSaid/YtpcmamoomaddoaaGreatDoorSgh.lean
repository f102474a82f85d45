/- inquiry's sight. -/
import Derived.Test.YtpcmamoomaddoaaGreatDoorCit
import Derived.Test.YtpcmamoomaddoaaGreatDoorFwa
import Derived.BigQuiet
namespace Go.Proofs.YtpcmamoomaddoaaGreatDoor
open Go.RowKit
theorem ints_take (l:List Int) (n:Nat):ints (l.take n)=(ints l).take n:=by simp [ints]
theorem equal_ints_d {w:World} {v1 v2:Value} {l1 l2:List Int} {n1 n2:Nat} (h1:Row w 1 v1 n1 (ints l1)) (h2:Row w 1 v2 n2 (ints l2)) :
  Calls Tryz.prog 91 #[v1,v2] w fun e w'=>e=.returned (.bool (decide (l1=l2)))∧∃ q,w'=w.drewN q:=by
 have e1:l1.length=n1:=by have:=h1.1;simpa [ints] using this
 have e2:l2.length=n2:=by have:=h2.1;simpa [ints] using this
 obtain ⟨a1,c1,rfl,m1,_⟩:=h1.form;obtain ⟨a2,c2,rfl,m2,_⟩:=h2.form
 by_cases hz:n1=0
 ·subst hz;have:=List.eq_nil_of_length_eq_zero e1;subst this;refine (Tryz.slices_Equal_int_empty a1 a2 c1 n2 c2 w m2).mono ?_;rintro e w' ⟨rfl,rfl⟩;exact ⟨by rw [←e2,dec_nil],0,rfl⟩
 ·by_cases hne:n1=n2
  ·obtain ⟨b1,o1,rfl,k1⟩:=h1.at_ (by omega);obtain ⟨b2,o2,rfl,k2⟩:=h2.at_ (by omega)
   have:=Tryz.slices_Equal_int b1 o1 n1 c1 b2 o2 n2 c2 l1 l2 w (by omega) (by omega) m1 m2
    (fun j hj=>by
     rw [k1 j _ (ints_get hj)]
     simp [List.getD_eq_getElem?_getD,hj])
    (fun j hj=>by
     rw [k2 j _ (ints_get hj)]
     simp [List.getD_eq_getElem?_getD,hj])
   refine this.mono ?_;rintro e w' ⟨rfl,q,rfl⟩;refine ⟨?_,q,rfl⟩
   congr 2
   rw [List.take_of_length_le (by omega),List.take_of_length_le (by omega),Bool.eq_iff_iff]
   simp
  ·refine (Tryz.slices_Equal_int_lens a1 a2 n1 c1 n2 c2 w hne).mono ?_;rintro e w' ⟨rfl,rfl⟩;exact ⟨by rw [dec_lens (by omega)],0,rfl⟩
theorem PredOf.err {q:Bs} {most c:Int} (h:PredOf q most (.error c)):c≠0:=by
 unfold PredOf at h
 split at h
 ·next h1=>injection h with h;rw [h];exact h1
 ·split at h
  ·injection h with h;rw [h];decide
  ·obtain ⟨ns,_,h⟩:=h
   unfold predN at h
   split at h
   ·cases h
   ·split at h
    ·cases h
    ·injection h with h;rw [h];decide
def SgtE (B5:Nat) (gc:Nat) (vm:Value) (e:Ending) (w':World):Except Int (List Pd × List Sn)→Prop
 | .error c=>e=.returned (.int .i64 c)∧c≠0
 | .ok (q',u')=>e=.returned (.int .i64 0)∧∃ vq' vu',CrG B5 w' gc vm q' u' vq' vu'
theorem pred_form {w:World} {q:Bs} {most:Int} {e:Ending} {w':World} (h:PrdE w q most e w') :
  ∃ (k:Int) (l r:Bs) (c:Int) (va:Option Addr) (vn vc:Nat) (code:Int),e=.returned (.tuple #[.agg #[.int .i64 k,.string ⟨l.toArray⟩,.string ⟨r.toArray⟩,.int .i64 c,.slice va vn vc],.int .i64 code])∧Kept [] w w' ∧
   ((code≠0∧predF q most=.error code)∨(code=0∧∃ p,predF q most=.ok p∧Stable (List.range w.heap.size) (fun w=>PdR w [.int .i64 k,.string ⟨l.toArray⟩,.string ⟨r.toArray⟩,.int .i64 c,.slice va vn vc] p) w')):=by
 obtain ⟨k,r,hpo,hr⟩:=h;have hf:=hpo.eq
 cases r with
 | error c =>
  exact ⟨0,[],[],0,none,0,0,c,hr,k,Or.inl ⟨hpo.err,hf⟩⟩
 | ok p =>
  obtain ⟨cs,rfl,hst⟩:=hr;have hg:=hst.get;obtain ⟨pk,pl,pr,pc,pks⟩:=p;obtain ⟨pa,pcc,rfl,_⟩:=hg.rows;exact ⟨pk,pl,pr,pc,_,_,_,0,rfl,k,Or.inr ⟨rfl,_,hf,hst⟩⟩
theorem infoSn:(Tryz.prog.info? 84).map (fun i=>(i.zero,i.size,i.bytes))=some (some (.agg #[.int .i64 0,.int .i64 0,.int .i64 0,.int .i64 0]),4,32):=by kernel_rfl
set_option maxRecDepth 100000 in
set_option maxHeartbeats 16000000 in
theorem sight_any {B B5:Nat} {w:World} {gc:Nat} {vm vk vl vn:Value} {ks:List Pss} {log nums:List Int} {qs:List Pd} {us:List Sn} {vq vu:Value} {cs:List Value} {x:Sgt}
  (hE:EnvB B w) (hC:CrG B5 w gc vm qs us vq vu) (hks:RowOf PssR 4 w vk ks) (hlog:Row w 1 vl log.length (ints log)) (hnums:Row w 1 vn nums.length (ints nums)) (hx:SgtR w cs x)
  (hlq:qs.length≤1000000) (hlu:us.length≤1000000) (hql:x.q.length≤100000000) :
  Calls Tryz.prog 42 #[.pointer (some ⟨gc,0,none⟩),vk,vl,vn,.agg cs.toArray] w fun e w'=>Kept (gc::(obl vq++obl vu)) w w'∧SgtE B5 gc vm e w' (sightB ks log nums (qs,us) x):=by
 obtain ⟨i0,hi,hz0,hz1,hz2⟩:=info_parts infoSn;obtain ⟨R,hR⟩:∃ R,sightB ks log nums (qs,us) x=R:=⟨_,rfl⟩;rw [hR]
 unfold sightB at hR
 obtain ⟨ver,vp,vr,da,qu,ju,k0,k1,vl2,k3,k4,k5,k6,k7,k8,rfl,hps,hrv,hln,_⟩:=hx;obtain ⟨pa,pc,rfl,hp63,_⟩:=hps.form;obtain ⟨ra,rc,rfl,hr63,_⟩:=hrv.form;obtain ⟨la,lc,rfl,hl63,_⟩:=RowOf.form hln;obtain ⟨kka,kkc,rfl,_,_⟩:=hks.form;obtain ⟨q,most,ps,rev,links,hold⟩:=x
 dsimp only at hps hrv hln hR hp63 hr63 hl63 hql ⊢
 obtain ⟨ga,gcap,rfl,hg63,hgc⟩:=hlog.form;obtain ⟨ua,uc,rfl⟩:=own_len hC.u (by decide);obtain ⟨un,hun⟩:∃ n,us.length=n:=⟨_,rfl⟩;obtain ⟨pn,hpn⟩:∃ n,ps.length=n:=⟨_,rfl⟩;obtain ⟨rn,hrn⟩:∃ n,rev.length=n:=⟨_,rfl⟩;obtain ⟨ln,hlnn⟩:∃ n,links.length=n:=⟨_,rfl⟩;obtain ⟨gn,hgn⟩:∃ n,log.length=n:=⟨_,rfl⟩;obtain ⟨kn,hkn⟩:∃ n,ks.length=n:=⟨_,rfl⟩;rw [hpn] at hps hp63 ⊢;rw [hrn] at hrv hr63 hR ⊢;rw [hlnn] at hln hl63 ⊢;rw [hgn] at hlog hg63 hgc ⊢;rw [hkn] at hks ⊢;rw [hun] at hC hlu hR ⊢;obtain ⟨W,hW⟩:∃ W,w.alloc (.cells #[.int .i64 ver,.string ⟨q.toArray⟩,.slice pa pn pc,.int .i64 most,.slice ra rn rc,.int .i64 da,.int .i64 qu,.int .i64 ju,k0,k1,.slice la ln lc,k3,k4,k5,k6,k7,k8,.int .i64 hold] 61)=W:=⟨_,rfl⟩;have kW:Kept [] w W:=hW▸(Kept.refl _ _).alloc _;have hB:Blk W w.heap.size 61 #[.int .i64 ver,.string ⟨q.toArray⟩,.slice pa pn pc,.int .i64 most,.slice ra rn rc,.int .i64 da,.int .i64 qu,.int .i64 ju,k0,k1,.slice la ln lc,k3,k4,k5,k6,k7,k8,.int .i64 hold]:=hW▸Blk.new _ _ _;have hcp:=predicate_any q most (.int .i64 ver) (.slice pa pn pc) (.slice ra rn rc) (.int .i64 da) (.int .i64 qu) (.int .i64 ju) hql (hE.kept0 kW);obtain ⟨bx,hbx⟩:∃ b,w.heap.size=b:=⟨_,rfl⟩;rw [hbx] at hB;have HBX:=Lib.hid hbx;have CP:=Lib.hid hcp;have HC:=Lib.hid (hC.kept kW);have HKS:=Lib.hid (hks.kept (fun _ _ h=>PssR.kept h kW) kW);have HLOG:=Lib.hid (hlog.kept kW);have HNUM:=Lib.hid (hnums.kept kW);have HPS:=Lib.hid (hps.kept (fun _ _ h=>PssR.kept h kW) kW);have HRV:=Lib.hid (hrv.kept kW);have HLN:=Lib.hid (RowOf.kept (w':=W) hln (fun _ _ h=>h) kW)
 have HW:=Lib.hid hW;have HK:=Lib.hid kW;have HB:=Lib.hid hB;have HR:=Lib.hid hR;have HPN:=Lib.hid hpn;have HRN:=Lib.hid hrn;have HLL:=Lib.hid hlnn;have HGN:=Lib.hid hgn;have HKN:=Lib.hid hkn;have HUN:=Lib.hid hun
 have HOB:Hid (∀ z∈gc::(obl vq++obl (.slice ua un uc)),z < bx):=Lib.hid (fun z hz=>by
  rw [←hbx]
  rcases List.mem_cons.1 hz with rfl|hz
  ·exact hC.blk.lt
  ·rcases List.mem_append.1 hz with h|h
   ·exact (hC.q.ge z h).2
   ·exact (own_ge hC.u z h).2)
 have y0:W.cell? ⟨bx,0,none⟩=some (.int .i64 ver):=hB.cell 0;have y1:W.cell? ⟨bx,1,none⟩=some (.string ⟨q.toArray⟩):=hB.cell 1;have y2:W.cell? ⟨bx,2,none⟩=some (.slice pa pn pc):=hB.cell 2;have y3:W.cell? ⟨bx,3,none⟩=some (.int .i64 most):=hB.cell 3;have y4:W.cell? ⟨bx,4,none⟩=some (.slice ra rn rc):=hB.cell 4;have y5:W.cell? ⟨bx,5,none⟩=some (.int .i64 da):=hB.cell 5;have y6:W.cell? ⟨bx,6,none⟩=some (.int .i64 qu):=hB.cell 6;have y7:W.cell? ⟨bx,7,none⟩=some (.int .i64 ju):=hB.cell 7;have y8:W.cell? ⟨bx,8,none⟩=some (k0):=hB.cell 8;have y9:W.cell? ⟨bx,9,none⟩=some (k1):=hB.cell 9;have y10:W.cell? ⟨bx,10,none⟩=some (.slice la ln lc):=hB.cell 10;have y11:W.cell? ⟨bx,11,none⟩=some (k3):=hB.cell 11;have y12:W.cell? ⟨bx,12,none⟩=some (k4):=hB.cell 12;have y13:W.cell? ⟨bx,13,none⟩=some (k5):=hB.cell 13;have y14:W.cell? ⟨bx,14,none⟩=some (k6):=hB.cell 14;have y15:W.cell? ⟨bx,15,none⟩=some (k7):=hB.cell 15;have y16:W.cell? ⟨bx,16,none⟩=some (k8):=hB.cell 16;have y17:W.cell? ⟨bx,17,none⟩=some (.int .i64 hold):=hB.cell 17;clear hcp hE hC hks hlog hnums hps hrv hln hW kW hB hR hpn hrn hlnn hgn hkn hun hbx hql
 show Calls _ _ #[_,_,_,_,.agg #[.int .i64 ver,.string ⟨q.toArray⟩,.slice pa pn pc,.int .i64 most,.slice ra rn rc,.int .i64 da,.int .i64 qu,.int .i64 ju,k0,k1,.slice la ln lc,k3,k4,k5,k6,k7,k8,.int .i64 hold]] _ _
 go_enter Tryz.func42,Tryz.ntmps42
 go_upto_region 1 with (fail);have hW':=HW.out;rw [hW',HBX.out];clear hW';go_upto_region 2 with (go_at_call 14;refine CP.out.mono ?_;intro e w5 hpe;obtain ⟨c0,c1,c2,c3,da0,dn,dc,code,rfl,k5,hcase⟩:=pred_form hpe;have HCS:=Lib.hid hcase;have HK5:=Lib.hid k5;clear hpe hcase k5);obtain ⟨W6,hW6⟩:∃ y,w5.alloc (.cells #[.int .i64 c0,.string ⟨c1.toArray⟩,.string ⟨c2.toArray⟩,.int .i64 c3,.slice da0 dn dc] 46)=y:=⟨_,rfl⟩;have k56:Kept [] w5 W6:=hW6▸(Kept.refl _ _).alloc _;have hb6:Blk W6 w5.heap.size 46 #[.int .i64 c0,.string ⟨c1.toArray⟩,.string ⟨c2.toArray⟩,.int .i64 c3,.slice da0 dn dc]:=hW6▸Blk.new _ _ _;obtain ⟨bq,hbq⟩:∃ b,w5.heap.size=b:=⟨_,rfl⟩;rw [hbq] at hb6;rw [hW6,hbq];have HK6:=Lib.hid (HK5.out.trans k56);have HK56:=Lib.hid k56;have HBQ:=Lib.hid hb6
 rcases HCS.out with ⟨hcd,hpf⟩|⟨rfl,p,hpf,hst⟩
 ·have hR:=HR.out;rw [hpf] at hR
  simp only at hR
  subst hR;clear HR k56 hb6 hW6 hbq;go_wp2_with fail;go_ret;exact ⟨((HK.out.trans HK6.out).mono (fun _ _ h=>by simp at h)),rfl,hcd⟩
 have hR:=HR.out;rw [hpf] at hR
 simp only at hR
 clear HR HCS k56 hW6;have HST:=Lib.hid hst;have HR:=Lib.hid hR;clear hst hR hpf;have s0:∀ w',Kept [] W6 w'→w'.cell? ⟨bx,0,none⟩=some (.int .i64 ver):=Kept.cellOf (Kept.cellOf y0 _ HK6.out);have s1:∀ w',Kept [] W6 w'→w'.cell? ⟨bx,1,none⟩=some (.string ⟨q.toArray⟩):=Kept.cellOf (Kept.cellOf y1 _ HK6.out);have s2:∀ w',Kept [] W6 w'→w'.cell? ⟨bx,2,none⟩=some (.slice pa pn pc):=Kept.cellOf (Kept.cellOf y2 _ HK6.out);have s3:∀ w',Kept [] W6 w'→w'.cell? ⟨bx,3,none⟩=some (.int .i64 most):=Kept.cellOf (Kept.cellOf y3 _ HK6.out);have s4:∀ w',Kept [] W6 w'→w'.cell? ⟨bx,4,none⟩=some (.slice ra rn rc):=Kept.cellOf (Kept.cellOf y4 _ HK6.out);have s5:∀ w',Kept [] W6 w'→w'.cell? ⟨bx,5,none⟩=some (.int .i64 da):=Kept.cellOf (Kept.cellOf y5 _ HK6.out);have s6:∀ w',Kept [] W6 w'→w'.cell? ⟨bx,6,none⟩=some (.int .i64 qu):=Kept.cellOf (Kept.cellOf y6 _ HK6.out);have s7:∀ w',Kept [] W6 w'→w'.cell? ⟨bx,7,none⟩=some (.int .i64 ju):=Kept.cellOf (Kept.cellOf y7 _ HK6.out);have s8:∀ w',Kept [] W6 w'→w'.cell? ⟨bx,8,none⟩=some (k0):=Kept.cellOf (Kept.cellOf y8 _ HK6.out);have s9:∀ w',Kept [] W6 w'→w'.cell? ⟨bx,9,none⟩=some (k1):=Kept.cellOf (Kept.cellOf y9 _ HK6.out);have s10:∀ w',Kept [] W6 w'→w'.cell? ⟨bx,10,none⟩=some (.slice la ln lc):=Kept.cellOf (Kept.cellOf y10 _ HK6.out);have s11:∀ w',Kept [] W6 w'→w'.cell? ⟨bx,11,none⟩=some (k3):=Kept.cellOf (Kept.cellOf y11 _ HK6.out);have s12:∀ w',Kept [] W6 w'→w'.cell? ⟨bx,12,none⟩=some (k4):=Kept.cellOf (Kept.cellOf y12 _ HK6.out);have s13:∀ w',Kept [] W6 w'→w'.cell? ⟨bx,13,none⟩=some (k5):=Kept.cellOf (Kept.cellOf y13 _ HK6.out)
 have s14:∀ w',Kept [] W6 w'→w'.cell? ⟨bx,14,none⟩=some (k6):=Kept.cellOf (Kept.cellOf y14 _ HK6.out);have s15:∀ w',Kept [] W6 w'→w'.cell? ⟨bx,15,none⟩=some (k7):=Kept.cellOf (Kept.cellOf y15 _ HK6.out);have s16:∀ w',Kept [] W6 w'→w'.cell? ⟨bx,16,none⟩=some (k8):=Kept.cellOf (Kept.cellOf y16 _ HK6.out);have s17:∀ w',Kept [] W6 w'→w'.cell? ⟨bx,17,none⟩=some (.int .i64 hold):=Kept.cellOf (Kept.cellOf y17 _ HK6.out);clear y0 y1 y2 y3 y4 y5 y6 y7 y8 y9 y10 y11 y12 y13 y14 y15 y16 y17;go_upto_region 4 with (fail);refine wp_region_T [] (fun w'=>Kept [] W6 w') (by kernel_rfl) (Kept.refl _ _).drew (fun hH=>?_);refine takeT [] (i:=0) (v:=?tv0e) rfl (by kernel_rfl) (by kernel_rfl) (by kernel_rfl) (by kernel_rfl) (fun _ _ _ h=>h) (Or.inl ⟨by rfl,?ty0e⟩) hH ?tr0e
 case ty0e=>intro w' hSw;(try dsimp only at hSw);go_simp;first|done|with_reducible rfl
 (try simp only [Act.put,List.setIfInBounds_toArray,List.set_cons_zero,List.set_cons_succ])
 refine takeT [] (i:=1) (v:=?tv1e) rfl (by kernel_rfl) (by kernel_rfl) (by kernel_rfl) (by kernel_rfl) (fun _ _ _ h=>h) (Or.inl ⟨by rfl,?ty1e⟩) hH ?tr1e
 case ty1e=>intro w' hSw;(try dsimp only at hSw);go_simp;first|done|with_reducible rfl
 (try simp only [Act.put,List.setIfInBounds_toArray,List.set_cons_zero,List.set_cons_succ])
 refine takeT [] (i:=2) (v:=?tv2e) rfl (by kernel_rfl) (by kernel_rfl) (by kernel_rfl) (by kernel_rfl) (fun _ _ _ h=>h) (Or.inl ⟨by rfl,?ty2e⟩) hH ?tr2e
 case ty2e=>intro w' hSw;(try dsimp only at hSw);go_simp;first|done|with_reducible rfl
 (try simp only [Act.put,List.setIfInBounds_toArray,List.set_cons_zero,List.set_cons_succ])
 refine takeT [] (i:=3) (v:=?tv3e) rfl (by kernel_rfl) (by kernel_rfl) (by kernel_rfl) (by kernel_rfl) (fun _ _ _ h=>h) (Or.inl ⟨by rfl,?ty3e⟩) hH ?tr3e
 case ty3e=>intro w' hSw;(try dsimp only at hSw);go_simp;first|done|with_reducible rfl
 (try simp only [Act.put,List.setIfInBounds_toArray,List.set_cons_zero,List.set_cons_succ])
 refine takeT [] (i:=4) (v:=?tv4e) rfl (by kernel_rfl) (by kernel_rfl) (by kernel_rfl) (by kernel_rfl) (fun _ _ _ h=>h) (Or.inl ⟨by rfl,?ty4e⟩) hH ?tr4e
 case ty4e=>intro w' hSw;(try dsimp only at hSw);go_simp;first|done|with_reducible rfl
 (try simp only [Act.put,List.setIfInBounds_toArray,List.set_cons_zero,List.set_cons_succ])
 refine wpAnyT_ready (rs:=[5]) (by kernel_rfl) (by simp) ?_;refine AllReadyT.cons rfl (fun K hK=>?_) AllReadyT.nil;go_simp;refine hK.out _ _ (hH.alloc _) (fun hH=>?_);clear hK K
 (try simp only [Act.put,List.setIfInBounds_toArray,List.set_cons_zero,List.set_cons_succ])
 refine wpAnyT_ready (rs:=[6]) (by kernel_rfl) (by simp) ?_;refine AllReadyT.cons rfl (fun K hK=>?_) AllReadyT.nil;go_simp;refine hK.out _ _ (((Kept.refl _ _).alloc _).drew) (fun hH=>?_);clear hK K
 (try simp only [Act.put,List.setIfInBounds_toArray,List.set_cons_zero,List.set_cons_succ])
 refine takeT [] (i:=7) (v:=?tv7e) rfl (by kernel_rfl) (by kernel_rfl) (by kernel_rfl) (by kernel_rfl) (fun _ _ _ h=>h) (Or.inl ⟨by rfl,?ty7e⟩) hH ?tr7e
 case ty7e=>intro w' hSw;(try dsimp only at hSw);go_simp;first|done|with_reducible rfl
 (try simp only [Act.put,List.setIfInBounds_toArray,List.set_cons_zero,List.set_cons_succ])
 refine wpAnyT_done (by kernel_rfl) ?_ _;obtain ⟨W7,hW7⟩:∃ y,(W6.alloc (.cells #[.int .i64 ver,.string ⟨q.toArray⟩,.slice pa pn pc,.int .i64 most,.slice ra rn rc,.int .i64 da,.int .i64 qu,.int .i64 ju] 50)).drew=y:=⟨_,rfl⟩;have hb7:Blk W7 W6.heap.size 50 #[.int .i64 ver,.string ⟨q.toArray⟩,.slice pa pn pc,.int .i64 most,.slice ra rn rc,.int .i64 da,.int .i64 qu,.int .i64 ju]:=hW7▸(Blk.new _ _ _).drew;obtain ⟨bt,hbt⟩:∃ b,W6.heap.size=b:=⟨_,rfl⟩;rw [hbt] at hb7;rw [hW7] at hH ⊢;rw [hbt]
 have hbtx:bx≤bt:=by rw [←hbt,←HBX.out];exact Nat.le_trans HK.out.size HK6.out.size
 have HK7:=Lib.hid (HK6.out.trans hH);have HB7:=Lib.hid hb7;have HQ7:=Lib.hid (HBQ.out.kept hH (by simp));have HST7:=Lib.hid (HST.out.step (HK56.out.trans hH) (fun z hz=>by simp at hz) (fun z hz=>Or.inl hz));have z17:W7.cell? ⟨bx,17,none⟩=some (.int .i64 hold):=s17 _ hH;have t0:W7.cell? ⟨bt,0,none⟩=some (.int .i64 ver):=hb7.cell 0;have t1:W7.cell? ⟨bt,1,none⟩=some (.string ⟨q.toArray⟩):=hb7.cell 1;have t2:W7.cell? ⟨bt,2,none⟩=some (.slice pa pn pc):=hb7.cell 2;have t3:W7.cell? ⟨bt,3,none⟩=some (.int .i64 most):=hb7.cell 3;have t4:W7.cell? ⟨bt,4,none⟩=some (.slice ra rn rc):=hb7.cell 4;have t5:W7.cell? ⟨bt,5,none⟩=some (.int .i64 da):=hb7.cell 5;have t6:W7.cell? ⟨bt,6,none⟩=some (.int .i64 qu):=hb7.cell 6;have t7:W7.cell? ⟨bt,7,none⟩=some (.int .i64 ju):=hb7.cell 7;clear hb7 hH hW7 hbt s0 s1 s2 s3 s4 s5 s6 s7 s8 s9 s10 s11 s12 s13 s14 s15 s16 s17 HBQ HST HK56 HK5 hb6 hbq
 by_cases hp1:pn=1
 case neg =>
  have hp1':(pn:Int)≠1:=by omega
  have hR:=HR.out
  have:R=.error 2:=by
   rw [←hR]
   cases ps with
   | nil=>rfl
   | cons t rest =>
    cases rest with
    | nil=>exact absurd HPN.out.symm hp1
    | cons _ _=>simp
  subst this;go_wp2_with fail;go_ret;exact ⟨((HK.out.trans HK7.out).mono (fun _ _ h=>by simp at h)),rfl,by decide⟩
 case pos =>
 subst hp1;obtain ⟨t,rfl⟩:=List.length_eq_one_iff.1 HPN.out;have hR:=HR.out;simp only [ne_eq,not_true_eq_false,false_or] at hR;have HR:=Lib.hid hR;clear hR;go_upto_region 5 with (fail)
 go_cut [53] (fun v wx=>v=.bool (linksBad links)∧wx=W7)
 case first =>
  cases links with
  | nil =>
   have hl0:ln=0:=HLL.out.symm;subst hl0;go_wp2_with fail
   go_meet
   exact ⟨rfl,rfl⟩
  | cons a l =>
   cases l with
   | nil =>
    have hl1:ln=1:=HLL.out.symm;subst hl1;obtain ⟨lb,lo,rfl,hlc⟩:=HLN.out.at_ (by simp);obtain ⟨cl,hcl1,⟨xa,xc,rfl,hxa⟩,hcl⟩:=hlc 0 a rfl;have l0:=Kept.cellOf (hcl 0 _ (by decide) rfl) _ HK7.out;simp only [Nat.zero_mul,Nat.add_zero] at l0;go_wp2_with fail
    go_meet
    refine ⟨?_,rfl⟩;simp only [linksBad]
   | cons b l =>
    have hl2:(1:Int) < (ln:Int):=by have:=HLL.out;simp at this;omega
    go_wp2_with fail
    go_meet
    exact ⟨rfl,rfl⟩
 case rest =>
 obtain ⟨hv,hw⟩:=hcut;subst hv;have hw:=hw.symm;subst hw
 cases hlb:linksBad links with
 | true =>
  have hR:=HR.out;rw [hlb,if_pos rfl] at hR;subst hR;go_wp2_with fail;go_ret;exact ⟨((HK.out.trans HK7.out).mono (fun _ _ h=>by simp at h)),rfl,by decide⟩
 | false =>
 have hR:=HR.out;rw [hlb,if_neg (by simp)] at hR;have HR:=Lib.hid hR;clear hR hlb HLN HLL;obtain ⟨pb,po,rfl,hpc⟩:=HPS.out.at_ (by simp);obtain ⟨cp,hcp1,hcp2,hcp⟩:=hpc 0 t rfl;have hkx:=keyIndex_any (w:=W7) ((HKS.out).kept (fun _ _ h=>PssR.kept h HK7.out) HK7.out) (PssR.kept hcp2 HK7.out);obtain ⟨ta,tg,rfl,hta,htg⟩:=hcp2;obtain ⟨ta',tc',rfl,_,_⟩:=hta.form;obtain ⟨tg',tgc,rfl,_,_⟩:=htg.form;obtain ⟨tan,htan⟩:∃ n,t.attrs.length=n:=⟨_,rfl⟩;obtain ⟨tgn,htgn⟩:∃ n,t.guests.length=n:=⟨_,rfl⟩;rw [htan,htgn] at hkx;rw [htan,htgn] at hcp;have l0:=Kept.cellOf (hcp 0 _ (by decide) rfl) _ HK7.out;have l1:=Kept.cellOf (hcp 1 _ (by decide) rfl) _ HK7.out;have l2:=Kept.cellOf (hcp 2 _ (by decide) rfl) _ HK7.out;have l3:=Kept.cellOf (hcp 3 _ (by decide) rfl) _ HK7.out;simp only [Nat.zero_mul,Nat.add_zero,Nat.zero_add] at l0 l1 l2 l3;have HKX:=Lib.hid hkx;clear hkx hcp hpc hta htg;have HREV:=Lib.hid ((HRV.out.kept HK7.out))
 cases hfk:ks.findIdx? (keyIs t) with
 | none =>
  have hR:=HR.out;rw [hfk] at hR HKX
  simp only at hR
  subst hR;simp only [idxV] at HKX;clear HR;go_upto_region 8 with (go_at_call 90;refine HKX.out.mono ?_;rintro e w8 ⟨rfl,kx8⟩;have z17':=Kept.cellOf z17 _ kx8);go_wp2_with (go_at_call 86;refine (index_ints (HNUM.out.kept (HK7.out.trans kx8)) hold).mono ?_;rintro e w9 ⟨rfl,rfl⟩);go_ret;exact ⟨((HK.out.trans (HK7.out.trans kx8)).mono (fun _ _ h=>by simp at h)),rfl,by decide⟩
 | some key =>
 have hR:=HR.out;rw [hfk] at hR HKX
 simp only at hR
 have HR:=Lib.hid hR;simp only [idxV] at HKX;clear hR hfk
 have hkey:(0:Int)≤(key:Int):=by omega
 go_upto_region 8 with (go_at_call 90;refine HKX.out.mono ?_;rintro e w8 ⟨rfl,kx8⟩;have z17':=Kept.cellOf z17 _ kx8);obtain ⟨ix,hix⟩:∃ x,Lib.idxOf nums hold=x:=⟨_,rfl⟩;have hIX:=index_ints (HNUM.out.kept (HK7.out.trans kx8)) hold;rw [hix] at hIX;have HIX:=Lib.hid hIX;have hR:=HR.out;rw [hix] at hR;have HR:=Lib.hid hR;have HK8:=Lib.hid (HK7.out.trans kx8);have t4':=Kept.cellOf t4 _ kx8;have HQ8:=Lib.hid (HQ7.out.kept kx8 (by simp));have HST8:=Lib.hid (HST7.out.step kx8 (fun z hz=>by simp at hz) (fun z hz=>Or.inl hz));have HREV8:=Lib.hid (HREV.out.kept kx8);have HLOG8:=Lib.hid (HLOG.out.kept HK8.out);have HB8:=Lib.hid (HB7.out.kept kx8 (by simp));clear hR hIX hix kx8 t0 t1 t2 t3 t4 t5 t6 t7 z17 HQ7 HST7 HREV HB7 l0 l1 l2 l3;go_upto_region 9 with (go_at_call 86;refine HIX.out.mono ?_;rintro e w9 ⟨rfl,h9⟩;have h9:=h9.symm;subst h9);go_upto_region 11 with (fail)
 go_cut [67] (fun v wx=>v=.bool (stale log rev)∧Kept [] w8 wx)
 case first =>
  by_cases hgt:gn < rn
  ·have hgt':(gn:Int) < (rn:Int):=by omega
   have hs:stale log rev=true:=by unfold stale;rw [HGN.out,HRN.out,decide_eq_true hgt];rfl
   go_quiet (fail)
   go_wp2_with fail
   go_meet
   exact ⟨by rw [hs],(Kept.refl _ _).drewN _⟩
  ·have hgt':decide ((gn:Int) < (rn:Int))=false:=by simp;omega
   have hs:stale log rev=!decide (rev=log.take rn):=by unfold stale;rw [HGN.out,HRN.out,decide_eq_false hgt];rfl
   have hrg:rn≤gcap:=by omega
   have heq:∀ n,Calls Tryz.prog 91 #[.slice ra rn rc,.slice ga rn gcap] (w8.drewN n) fun e w'=>e=.returned (.bool (decide (rev=log.take rn)))∧∃ q,w'=(w8.drewN n).drewN q:=fun n=>by
    have h2:=Row.front (HLOG8.out.kept ((Kept.refl [] w8).drewN n)) (show rn≤gn by omega);exact equal_ints_d (HREV8.out.kept ((Kept.refl [] w8).drewN n)) (by rw [ints_take];exact h2)
   have HEQ:=Lib.hid heq;clear heq
   go_quiet (first|(go_at_call 91;refine Calls.quiet_of (HEQ.out _)))
   go_wp2_with fail
   go_meet
   exact ⟨by rw [hs],(Kept.refl _ _).drewN _⟩
 case rest =>
 obtain ⟨hv,kx⟩:=hcut;subst hv;have z17:=Kept.cellOf z17' _ kx;have HK10:=Lib.hid (HK8.out.trans kx);have HQ10:=Lib.hid (HQ8.out.kept kx (by simp));have HST10:=Lib.hid (HST8.out.step kx (fun z hz=>by simp at hz) (fun z hz=>Or.inl hz));have HB10:=Lib.hid (HB8.out.kept kx (by simp));clear kx HQ8 HST8 HB8 t4' z17' HREV8 HLOG8
 cases hst:stale log rev with
 | true =>
  have hR:=HR.out;rw [hst,if_pos rfl] at hR;subst hR;go_wp2_with fail;go_ret;exact ⟨((HK.out.trans HK10.out).mono (fun _ _ h=>by simp at h)),rfl,by decide⟩
 | false =>
 have hR:=HR.out;rw [hst,if_neg (by simp)] at hR;clear HR;have HR:=Lib.hid hR;clear hR hst;go_upto_region 13 with (fail)
 go_cut [85] (fun v wx=>v=.bool (decide (¬ hold=0∧ix < 0))∧wx=wc)
 case first =>
  by_cases h0:hold=0
  ·have hd:decide (hold=0)=true:=by simpa using h0
   go_wp2_with fail
   go_meet
   exact ⟨by simp [h0],rfl⟩
  ·by_cases h1:ix < 0
   ·go_wp2_with fail
    go_meet
    exact ⟨by simp [h0,h1],rfl⟩
   ·go_wp2_with fail
    go_meet
    exact ⟨by simp [h1],rfl⟩
 case rest =>
 obtain ⟨hv,hw⟩:=hcut;subst hv;have hw:=hw.symm;subst hw
 by_cases hbad:¬ hold=0∧ix < 0
 ·have hR:=HR.out;rw [if_pos hbad] at hR;subst hR;have hd:=decide_eq_true hbad;rw [hd];go_wp2_with fail;go_ret;exact ⟨((HK.out.trans HK10.out).mono (fun _ _ h=>by simp at h)),rfl,by decide⟩
 have hR:=HR.out;rw [if_neg hbad] at hR;clear HR;have HR:=Lib.hid hR;have hd:=decide_eq_false hbad;rw [hd];clear hR hbad hd;have HC10:=Lib.hid (HC.out.kept HK10.out);have g2:wc.cell? ⟨gc,2,none⟩=some (.slice ua un uc):=HC10.out.blk.cell 2
 by_cases hfull:4096≤un
 ·have hR:=HR.out;rw [if_pos hfull] at hR;subst hR
  have hfull':(4096:Int)≤(un:Int):=by omega
  go_wp2_with fail;go_ret;exact ⟨((HK.out.trans HK10.out).mono (fun _ _ h=>by simp at h)),rfl,by decide⟩
 have hfull':¬ (4096:Int)≤(un:Int):=by omega
 have hR:=HR.out;rw [if_neg hfull] at hR;clear HR;have hstp:Stable (gc::(obl vq++obl (.slice ua un uc))) (fun w=>PdR w [.int .i64 c0,.string ⟨c1.toArray⟩,.string ⟨c2.toArray⟩,.int .i64 c3,.slice da0 dn dc] p) wc:=HST10.out.less (fun z hz=>Or.inl (List.mem_range.2 (by have:=HOB.out z hz;have:=HK.out.size;have:=HBX.out;omega)));have hqu:=question_any HC10.out hstp hlq
 have hcase:(R=.error 6∧∀ e w',QstR B5 gc vm qs us vq (.slice ua un uc) p e w'→e=.returned (.tuple #[.int .i64 0,.bool false])) ∨
   (∃ (qi:Nat) (qs':List Pd),R=.ok (qs',us++[⟨qi,key,rn,ix⟩])∧∀ e w',QstR B5 gc vm qs us vq (.slice ua un uc) p e w'→e=.returned (.tuple #[.int .i64 (qi:Int),.bool true])∧∃ vq',CrG B5 w' gc vm qs' us vq' (.slice ua un uc)):=by
  unfold QstR
  cases hfq:qs.findIdx? (sameB p) with
  | some i =>
   rw [hfq] at hR;exact Or.inr ⟨i,qs,hR.symm,fun e w' h=>⟨h.1,vq,h.2⟩⟩
  | none =>
   rw [hfq] at hR
   simp only at hR
   by_cases h128:128≤qs.length
   ·rw [if_pos h128] at hR;exact Or.inl ⟨hR.symm,fun e w' h=>by simp only [if_pos h128] at h;exact h⟩
   ·rw [if_neg h128] at hR;exact Or.inr ⟨qs.length,_,hR.symm,fun e w' h=>by simp only [if_neg h128] at h;exact h⟩
 have HQU:=Lib.hid hqu;clear hR hqu hstp;obtain ⟨Q,hQ⟩:∃ Q,QstR B5 gc vm qs us vq (.slice ua un uc) p=Q:=⟨_,rfl⟩;rw [hQ] at hcase
 have HQU2:Hid (Calls Tryz.prog 92 #[.pointer (some ⟨gc,0,none⟩),.agg #[.int .i64 c0,.string ⟨c1.toArray⟩,.string ⟨c2.toArray⟩,.int .i64 c3,.slice da0 dn dc]] wc fun e w'=>Kept (gc::obl vq) wc w'∧Q e w'):=by rw [←hQ];exact HQU
 have q0:wc.cell? ⟨bq,0,none⟩=some (.int .i64 c0):=HQ10.out.cell 0;have q1:wc.cell? ⟨bq,1,none⟩=some (.string ⟨c1.toArray⟩):=HQ10.out.cell 1;have q2:wc.cell? ⟨bq,2,none⟩=some (.string ⟨c2.toArray⟩):=HQ10.out.cell 2;have q3:wc.cell? ⟨bq,3,none⟩=some (.int .i64 c3):=HQ10.out.cell 3;have q4:wc.cell? ⟨bq,4,none⟩=some (.slice da0 dn dc):=HQ10.out.cell 4;clear hQ HQU
 rcases hcase with ⟨rfl,hcase⟩|⟨qi,qs',rfl,hcase⟩
 ·have HCASE:=Lib.hid hcase;clear hcase;go_wp2_with (go_at_call 92;refine HQU2.out.mono ?_;rintro e w11 ⟨kq,hQe⟩;have he:=HCASE.out _ _ hQe;subst he);go_ret
  exact ⟨((HK.out.trans HK10.out).mono (fun _ _ h=>by simp at h)).trans (kq.mono (fun z _ h=>by
   rcases List.mem_cons.1 h with h|h
   ·exact List.mem_cons.2 (Or.inl h)
   ·exact List.mem_cons_of_mem _ (List.mem_append_left _ h))),rfl,by decide⟩
 have HCASE:=Lib.hid hcase;clear hcase;go_upto_region 20 with (go_at_call 92;refine HQU2.out.mono ?_;rintro e w11 ⟨kq,hQe⟩;obtain ⟨rfl,vq',hC11⟩:=HCASE.out _ _ hQe)
 have nbt:bt∉gc::obl vq:=fun hm=>by
  have:bt < bx:=HOB.out bt (by
   rcases List.mem_cons.1 hm with h|h
   ·exact List.mem_cons.2 (Or.inl h)
   ·exact List.mem_cons_of_mem _ (List.mem_append_left _ h))
  omega
 have hb11:=HB10.out.kept kq nbt
 have nbu:bt∉obl (.slice ua un uc):=fun hm=>by
  have:=HOB.out bt (List.mem_cons_of_mem _ (List.mem_append_right _ hm));omega
 have ngu:gc∉obl (.slice ua un uc):=fun hm=>by have:=(own_ge hC11.u gc hm).1;have:=hC11.low.1;omega
 have s4:∀ w',Kept (obl (.slice ua un uc)) w11 w'→w'.cell? ⟨bt,4,none⟩=some (.slice ra rn rc):=fun w' k=>(hb11.kept k nbu).cell 4;have s2:∀ w',Kept (obl (.slice ua un uc)) w11 w'→w'.cell? ⟨gc,2,none⟩=some (.slice ua un uc):=fun w' k=>(hC11.blk.kept k ngu).cell 2;have hown:=hC11.u;rw [HUN.out] at hown;have HC11:=Lib.hid hC11;have HOWN:=Lib.hid hown;have HK11:=Lib.hid kq;have hbase:B5≤w11.heap.size:=hC11.low.2;clear hC11 hown kq hb11 g2 q0 q1 q2 q3 q4 z17 HCASE HQU2;refine wp_region_T [16] (fun w'=>Kept (obl (.slice ua un uc)) w11 w') (by kernel_rfl) (Kept.refl _ _).drew (fun hH=>?_);obtain ⟨w8',hw8⟩:∃ y,w11.drew=y:=⟨_,rfl⟩;have ho8:w8'.ownsRow B5 84 4 (.slice ua un uc) un (snsC us):=hw8▸own_keep HOWN.out (S:=[]) (Kept.refl [] w11).drew (by simp);have hb8:Blk w8' gc 67 #[vq',vm,.slice ua un uc]:=hw8▸HC11.out.blk.drew;have hs8:B5≤w8'.heap.size:=hw8▸hbase;have hz8:w11.heap.size≤w8'.heap.size:=hw8▸Nat.le_refl _;rw [hw8] at hH ⊢;clear hw8;refine takeT [16] (i:=0) (v:=?tv0z) rfl (by kernel_rfl) (by kernel_rfl) (by kernel_rfl) (by kernel_rfl) (fun _ _ _ h=>h) (Or.inl ⟨by rfl,?ty0z⟩) hH ?tr0z
 case ty0z=>intro w' hSw;(try dsimp only at hSw);go_simp;first|done|with_reducible rfl
 (try simp only [Act.put,List.setIfInBounds_toArray,List.set_cons_zero,List.set_cons_succ])
 refine takeT [16] (i:=1) (v:=?tv1z) rfl (by kernel_rfl) (by kernel_rfl) (by kernel_rfl) (by kernel_rfl) (fun _ _ _ h=>h) (Or.inl ⟨by rfl,?ty1z⟩) hH ?tr1z
 case ty1z=>intro w' hSw;(try dsimp only at hSw);go_simp;first|done|with_reducible rfl
 (try simp only [Act.put,List.setIfInBounds_toArray,List.set_cons_zero,List.set_cons_succ])
 refine takeT [16] (i:=2) (v:=?tv2z) rfl (by kernel_rfl) (by kernel_rfl) (by kernel_rfl) (by kernel_rfl) (fun _ _ _ h=>h) (Or.inl ⟨by rfl,?ty2z⟩) hH ?tr2z
 case ty2z=>intro w' hSw;(try dsimp only at hSw);go_simp;first|done|with_reducible rfl
 (try simp only [Act.put,List.setIfInBounds_toArray,List.set_cons_zero,List.set_cons_succ])
 refine takeT [16] (i:=3) (v:=?tv3z) rfl (by kernel_rfl) (by kernel_rfl) (by kernel_rfl) (by kernel_rfl) (fun _ _ _ h=>h) (Or.inl ⟨by rfl,?ty3z⟩) hH ?tr3z
 case ty3z=>intro w' hSw;(try dsimp only at hSw);go_simp;first|done|with_reducible rfl
 (try simp only [Act.put,List.setIfInBounds_toArray,List.set_cons_zero,List.set_cons_succ])
 refine takeT [16] (i:=4) (v:=?tv4z) rfl (by kernel_rfl) (by kernel_rfl) (by kernel_rfl) (by kernel_rfl) (fun _ _ _ h=>h) (Or.inl ⟨by rfl,?ty4z⟩) hH ?tr4z
 case ty4z=>intro w' hSw;(try dsimp only at hSw);go_simp;first|done|with_reducible rfl
 (try simp only [Act.put,List.setIfInBounds_toArray,List.set_cons_zero,List.set_cons_succ])
 refine takeT [16] (i:=5) (v:=?tv5z) rfl (by kernel_rfl) (by kernel_rfl) (by kernel_rfl) (by kernel_rfl) (fun _ _ _ h=>h) (Or.inl ⟨by rfl,?ty5z⟩) hH ?tr5z
 case ty5z=>intro w' hSw;(try dsimp only at hSw);go_simp;first|done|with_reducible rfl
 (try simp only [Act.put,List.setIfInBounds_toArray,List.set_cons_zero,List.set_cons_succ])
 refine takeT [16] (i:=6) (v:=?tv6z) rfl (by kernel_rfl) (by kernel_rfl) (by kernel_rfl) (by kernel_rfl) (fun _ _ _ h=>h) (Or.inl ⟨by rfl,?ty6z⟩) hH ?tr6z
 case ty6z=>intro w' hSw;(try dsimp only at hSw);go_simp;first|done|with_reducible rfl
 (try simp only [Act.put,List.setIfInBounds_toArray,List.set_cons_zero,List.set_cons_succ])
 refine takeT [16] (i:=7) (v:=?tv7z) rfl (by kernel_rfl) (by kernel_rfl) (by kernel_rfl) (by kernel_rfl) (fun _ _ _ h=>h) (Or.inl ⟨by rfl,?ty7z⟩) hH ?tr7z
 case ty7z=>intro w' hSw;(try dsimp only at hSw);go_simp;first|done|with_reducible rfl
 (try simp only [Act.put,List.setIfInBounds_toArray,List.set_cons_zero,List.set_cons_succ])
 refine takeT [16] (i:=8) (v:=?tv8z) rfl (by kernel_rfl) (by kernel_rfl) (by kernel_rfl) (by kernel_rfl) (fun _ _ _ h=>h) (Or.inl ⟨by rfl,?ty8z⟩) hH ?tr8z
 case ty8z=>intro w' hSw;(try dsimp only at hSw);go_simp;first|done|with_reducible rfl
 (try simp only [Act.put,List.setIfInBounds_toArray,List.set_cons_zero,List.set_cons_succ])
 refine takeT [16] (i:=9) (v:=?tv9z) rfl (by kernel_rfl) (by kernel_rfl) (by kernel_rfl) (by kernel_rfl) (fun _ _ _ h=>h) (Or.inl ⟨by rfl,?ty9z⟩) hH ?tr9z
 case ty9z=>intro w' hSw;(try dsimp only at hSw);go_simp;first|done|with_reducible rfl
 (try simp only [Act.put,List.setIfInBounds_toArray,List.set_cons_zero,List.set_cons_succ])
 refine takeT [16] (i:=10) (v:=?tv10z) rfl (by kernel_rfl) (by kernel_rfl) (by kernel_rfl) (by kernel_rfl) (fun _ _ _ h=>h) (Or.inl ⟨by rfl,?ty10z⟩) hH ?tr10z
 case ty10z=>intro w' hSw;(try dsimp only at hSw);go_simp;first|done|with_reducible rfl
 (try simp only [Act.put,List.setIfInBounds_toArray,List.set_cons_zero,List.set_cons_succ])
 refine takeT [16] (i:=11) (v:=?tv11z) rfl (by kernel_rfl) (by kernel_rfl) (by kernel_rfl) (by kernel_rfl) (fun _ _ _ h=>h) (Or.inl ⟨by rfl,?ty11z⟩) hH ?tr11z
 case ty11z=>intro w' hSw;(try dsimp only at hSw);go_simp;first|done|with_reducible rfl
 (try simp only [Act.put,List.setIfInBounds_toArray,List.set_cons_zero,List.set_cons_succ])
 refine wpAnyT_ready (rs:=[12]) (by kernel_rfl) (by simp) ?_;refine AllReadyT.cons rfl (fun K hK=>?_) AllReadyT.nil;go_simp;refine hK.out _ _ (hH.alloc _) (fun hH=>?_);clear hK K
 (try simp only [Act.put,List.setIfInBounds_toArray,List.set_cons_zero,List.set_cons_succ])
 refine wpAnyT_ready (rs:=[13]) (by kernel_rfl) (by simp) ?_;refine AllReadyT.cons rfl (fun K hK=>?_) AllReadyT.nil;refine step_append_row rfl 121 rfl _ _ 65 rfl B5 84 i0 _ 4 32 Tryz.underlying65 hi hz0 hz1 hz2 rfl (by decide) (.slice ua un uc) un (snsC us) rfl (own_keep ho8 (S:=[]) ((Kept.refl [] w8').alloc _) (by simp)) _ 1 [.int .i64 (qi:Int),.int .i64 (key:Int),.int .i64 (rn:Int),.int .i64 ix] rfl (row_of_blk (cs:=[.int .i64 (qi:Int),.int .i64 (key:Int),.int .i64 (rn:Int),.int .i64 ix]) (Blk.new _ _ _) rfl (by decide)) (by simp [Value.oneCell']) (by unfold maxLen;omega) (by omega) (by rw [World.size_alloc];omega) ?_;intro a' c' w6 hown6 hk6 hl6;have hb6:=(hb8.alloc (.cells #[.int .i64 (qi:Int),.int .i64 (key:Int),.int .i64 (rn:Int),.int .i64 ix] 84)).kept hk6 ngu;have m6:w6.cell? ⟨gc,2,none⟩=some (.slice ua un uc):=hb6.cell 2;have f6:=hb6.frozen 2;have hS6:Kept (obl (.slice ua un uc)) w11 w6:=hH.trans hk6;refine hK.out _ _ hS6 (fun hH=>?_);clear hK K
 (try simp only [Act.put,List.setIfInBounds_toArray,List.set_cons_zero,List.set_cons_succ])
 refine takeT [15,16] (i:=14) (v:=?tv14y) rfl (by kernel_rfl) (by kernel_rfl) (by kernel_rfl) (by kernel_rfl) (fun _ _ _ h=>h) (Or.inl ⟨by rfl,?ty14y⟩) hH ?tr14y
 case ty14y=>intro w' hSw;(try dsimp only at hSw);go_simp;first|done|with_reducible rfl
 (try simp only [Act.put,List.setIfInBounds_toArray,List.set_cons_zero,List.set_cons_succ])
 refine takeT [16] (i:=15) (v:=?tv15y) rfl (by kernel_rfl) (by kernel_rfl) (by kernel_rfl) (by kernel_rfl) (fun _ _ _ h=>h) (Or.inl ⟨by rfl,?ty15y⟩) hH ?tr15y
 case ty15y=>intro w' hSw;(try dsimp only at hSw);go_simp;first|done|with_reducible rfl
 (try simp only [Act.put,List.setIfInBounds_toArray,List.set_cons_zero,List.set_cons_succ])
 refine wpAnyT_ready (rs:=[16]) (by kernel_rfl) (by simp) ?_;refine AllReadyT.last rfl (by kernel_rfl) (fun K hK=>?_);go_simp;refine hK.out _ _ ?_;clear hK K
 (try simp only [Act.put,List.setIfInBounds_toArray,List.set_cons_zero,List.set_cons_succ])
 refine wpAnyT_done (by kernel_rfl) ?_ _;go_wp2_with fail;obtain ⟨w9,hw9⟩:∃ y,w6.setCell ⟨gc,2,none⟩ (.slice a' (un+1) c')=y:=⟨_,rfl⟩;rw [hw9];have k69:Kept [gc] w6 w9:=hw9▸(Kept.refl _ _).setCell (Or.inl (by simp)) _;have kf:Kept (gc::obl (.slice ua un uc)) w11 w9:=(hS6.mono (fun _ _ h=>List.mem_cons_of_mem _ h)).trans (k69.mono (fun _ _ h=>by rw [List.mem_singleton] at h;rw [h];exact List.mem_cons_self))
 have hlu':∀ k∈obl (.slice a' (un+1) c'),k∈obl (.slice ua un uc)∨w11.heap.size≤k:=fun k hk=>by
  rcases hl6 k hk with h|h
  ·exact Or.inl h
  ·rw [World.size_alloc] at h;exact Or.inr (by omega)
 have ho9:=own_keep hown6 k69 (fun z hz hm=>by rw [List.mem_singleton] at hm;have:=(own_ge hown6 z hz).1;have:=HC11.out.low.1;omega);have hb9:Blk w9 gc 67 #[vq',vm,.slice a' (un+1) c']:=hw9▸hb6.set_ 2 _
 have hCF:CrG B5 w9 gc vm qs' (us++[⟨qi,key,rn,ix⟩]) vq' (.slice a' (un+1) c'):=by
  have hgq:∀ z∈obl vq',z∉gc::obl (.slice ua un uc):=fun z hz hm=>by
   rcases List.mem_cons.1 hm with rfl|hm
   ·have:=(HC11.out.q.ge z hz).1;have:=HC11.out.low.1;omega
   ·exact HC11.out.dis z hz hm
  refine ⟨hb9,HC11.out.q.step kf hgq (fun z hz _=>?_) (fun z hz=>?_),?_,fun z hz hm=>?_,HC11.out.low.1,Nat.le_trans HC11.out.low.2 kf.size⟩
  ·rcases List.mem_cons.1 hz with rfl|hz
   ·exact List.mem_cons_self
   ·exact List.mem_cons_of_mem _ (List.mem_append_right _ hz)
  ·rcases List.mem_cons.1 hz with rfl|hz
   ·exact Or.inl List.mem_cons_self
   ·rcases List.mem_append.1 hz with hz|hz
    ·exact Or.inl (List.mem_cons_of_mem _ (List.mem_append_left _ hz))
    ·rcases hlu' z hz with h|h
     ·exact Or.inl (List.mem_cons_of_mem _ (List.mem_append_right _ h))
     ·exact Or.inr h
  ·rw [List.length_append,HUN.out,List.length_singleton];rw [show snsC (us++[(⟨qi,key,rn,ix⟩:Sn)])=snsC us++[.int .i64 (qi:Int),.int .i64 (key:Int),.int .i64 (rn:Int),.int .i64 ix] by simp [snsC]];exact ho9
  ·rcases hlu' z hm with h|h
   ·exact HC11.out.dis z hz h
   ·have:=(HC11.out.q.ge z hz).2;omega
 have HCF:=Lib.hid hCF;have HKF:=Lib.hid kf;clear hCF kf k69 hw9 ho9 hb9 hb6 m6 f6;go_ret;refine ⟨?_,rfl,_,_,HCF.out⟩;refine (((HK.out.trans HK10.out).mono (fun _ _ h=>by simp at h)).trans (HK11.out.mono (fun z _ h=>?_))).trans (HKF.out.mono (fun z _ h=>?_))
 ·rcases List.mem_cons.1 h with h|h
  ·exact List.mem_cons.2 (Or.inl h)
  ·exact List.mem_cons_of_mem _ (List.mem_append_left _ h)
 ·rcases List.mem_cons.1 h with h|h
  ·exact List.mem_cons.2 (Or.inl h)
  ·exact List.mem_cons_of_mem _ (List.mem_append_right _ h)
end Go.Proofs.YtpcmamoomaddoaaGreatDoor
