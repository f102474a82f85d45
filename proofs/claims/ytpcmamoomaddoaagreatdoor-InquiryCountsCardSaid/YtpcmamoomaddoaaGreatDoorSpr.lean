/- The equality of predicates: samePred, slices.EqualFunc with it. -/
import Derived.Test.YtpcmamoomaddoaaGreatDoorAcc
namespace Go.Proofs.YtpcmamoomaddoaaGreatDoor
open Go.RowKit
set_option maxRecDepth 100000 in
set_option maxHeartbeats 2000000 in
theorem eqfn_any {w:World} {v1 v2:Value} {l1 l2:List Pd} (h1:RowOf PdR 5 w v1 l1) (h2:RowOf PdR 5 w v2 l2)
  (hq:∀ p∈l1,∀ q∈l2,∀ cs ds w',Kept [] w w'→PdR w' cs p→PdR w' ds q→Calls Tryz.prog 141 #[.agg cs.toArray,.agg ds.toArray] w' fun e w2=>e=.returned (.bool (sameB p q))∧Kept [] w' w2) :
  Calls Tryz.prog 185 #[v1,v2,.func (.func 141) #[] #[]] w fun e w'=>e=.returned (.bool (sameL l1 l2))∧Kept [] w w':=by
 obtain ⟨a1,c1,rfl,h63,_⟩:=h1.form;obtain ⟨a2,c2,rfl,_,_⟩:=h2.form;obtain ⟨R,hR⟩:∃ R,sameL l1 l2=R:=⟨_,rfl⟩;obtain ⟨n,hn⟩:∃ n,l1.length=n:=⟨_,rfl⟩;obtain ⟨m,hm⟩:∃ n,l2.length=n:=⟨_,rfl⟩
 have G1:l1≠l2→R=false:=fun h=>by
  rw [←hR]
  cases hs:sameL l1 l2 with
  | false=>rfl
  | true=>exact absurd ((sameL_iff l1 l2).1 hs) h
 have G2:l1=l2→R=true:=fun h=>by rw [←hR];exact (sameL_iff l1 l2).2 h
 rw [hR,hn,hm];rw [hn] at h63;rw [hn] at h1;rw [hm] at h2;have H1:=Lib.hid h1;have H2:=Lib.hid h2;have HN:=Lib.hid hn;have HM:=Lib.hid hm;have HQ:=Lib.hid hq;have G1:=Lib.hid G1;have G2:=Lib.hid G2;clear hR hn hm h1 h2 hq
 by_cases hnm:n=m
 ·subst hnm
  have hne:((n:Int) != (n:Int))=false:=by simp
  go_enter Tryz.func185,Tryz.ntmps185
  go_wp2_with fail
  go_loopw [17] (fun v wr=>∃ j:Nat,j≤n∧v=.int .i64 j∧Kept [] w wr∧l1.take j=l2.take j) (fun v _=>n - (intOf v).toNat)
  case atStart=>exact ⟨0,Nat.zero_le _,rfl,Kept.refl _ _,by simp⟩
  case round =>
   obtain ⟨j,hj,rfl,hkr,htk⟩:=hrel;have HKR:=Lib.hid hkr;have HTK:=Lib.hid htk;clear htk
   by_cases hlt:j < n
   ·have hlt':(j:Int) < (n:Int):=by omega
    obtain ⟨b1,o1,rfl,k1⟩:=(H1.out.kept (fun c a hR=>PdR.kept hkr hR) hkr).at_ (by have:=HN.out;omega);obtain ⟨b2,o2,rfl,k2⟩:=(H2.out.kept (fun c a hR=>PdR.kept hkr hR) hkr).at_ (by have:=HM.out;omega);obtain ⟨p,hp⟩:∃ a,l1[j]?=some a:=⟨_,List.getElem?_eq_getElem (by have:=HN.out;omega)⟩;obtain ⟨q,hq⟩:∃ a,l2[j]?=some a:=⟨_,List.getElem?_eq_getElem (by have:=HM.out;omega)⟩;obtain ⟨cs,p1,p2,p3⟩:=k1 j p hp;obtain ⟨ds,q1,q2,q3⟩:=k2 j q hq
    have htp:l1.take (j+1)=l1.take j++[p]:=by rw [List.take_succ_eq_append_getElem (by have:=HN.out;omega),(List.getElem?_eq_some_iff.1 hp).2]
    have htq:l2.take (j+1)=l2.take j++[q]:=by rw [List.take_succ_eq_append_getElem (by have:=HM.out;omega),(List.getElem?_eq_some_iff.1 hq).2]
    have HC:=Lib.hid (fun w' (k:Kept [] wr w')=>HQ.out p (List.mem_of_getElem? hp) q (List.mem_of_getElem? hq) cs ds w' (hkr.trans k) (PdR.kept k p2) (PdR.kept k q2));obtain ⟨r,hr⟩:∃ r,sameB p q=r:=⟨_,rfl⟩;rw [hr] at HC
    have HNX:Hid (r=true→l1.take (j+1)=l2.take (j+1)):=Lib.hid fun h=>by
     subst h;rw [htp,htq,HTK.out,(same_iff p q).1 hr]
    have HBD:Hid (r=false→l1≠l2):=Lib.hid fun h e=>by
     subst h;rw [e,hq] at hp;injection hp with hp;rw [(same_iff p q).2 hp.symm] at hr
     cases hr
    clear k1 k2 hp hq htp htq hr p1 q1;obtain ⟨pk,pl,pr,pc,pks⟩:=p;obtain ⟨pa,pcc,rfl,_⟩:=p2.rows;obtain ⟨qk,ql,qr,qc,qks⟩:=q;obtain ⟨qa,qcc,rfl,_⟩:=q2.rows;have y0:wr.cell? ⟨b1,o1+j*5,none⟩=some (.int .i64 pk):=p3 0 _ (by decide) rfl;have y1:wr.cell? ⟨b1,o1+j*5+1,none⟩=some (.string ⟨pl.toArray⟩):=p3 1 _ (by decide) rfl;have y2:wr.cell? ⟨b1,o1+j*5+2,none⟩=some (.string ⟨pr.toArray⟩):=p3 2 _ (by decide) rfl;have y3:wr.cell? ⟨b1,o1+j*5+3,none⟩=some (.int .i64 pc):=p3 3 _ (by decide) rfl;have y4:wr.cell? ⟨b1,o1+j*5+4,none⟩=some (.slice pa pks.length pcc):=p3 4 _ (by decide) rfl;obtain ⟨wA,hwA⟩:∃ x,wr.alloc (.cells #[.int .i64 pk,.string ⟨pl.toArray⟩,.string ⟨pr.toArray⟩,.int .i64 pc,.slice pa pks.length pcc] 46)=x:=⟨_,rfl⟩;have kA:Kept [] wr wA:=hwA▸(Kept.refl _ _).alloc _;have hBA:Blk wA wr.heap.size 46 #[.int .i64 pk,.string ⟨pl.toArray⟩,.string ⟨pr.toArray⟩,.int .i64 pc,.slice pa pks.length pcc]:=hwA▸Blk.new _ _ _;have z0:wA.cell? ⟨b2,o2+j*5,none⟩=some (.int .i64 qk):=Kept.cellOf (q3 0 _ (by decide) rfl) _ kA;have z1:wA.cell? ⟨b2,o2+j*5+1,none⟩=some (.string ⟨ql.toArray⟩):=Kept.cellOf (q3 1 _ (by decide) rfl) _ kA;have z2:wA.cell? ⟨b2,o2+j*5+2,none⟩=some (.string ⟨qr.toArray⟩):=Kept.cellOf (q3 2 _ (by decide) rfl) _ kA;have z3:wA.cell? ⟨b2,o2+j*5+3,none⟩=some (.int .i64 qc):=Kept.cellOf (q3 3 _ (by decide) rfl) _ kA;have z4:wA.cell? ⟨b2,o2+j*5+4,none⟩=some (.slice qa qks.length qcc):=Kept.cellOf (q3 4 _ (by decide) rfl) _ kA;obtain ⟨g,hg⟩:∃ g,wA.heap.size=g:=⟨_,rfl⟩;obtain ⟨wB,hwB⟩:∃ x,wA.alloc (.cells #[.int .i64 qk,.string ⟨ql.toArray⟩,.string ⟨qr.toArray⟩,.int .i64 qc,.slice qa qks.length qcc] 46)=x:=⟨_,rfl⟩
    have kB:Kept [] wA wB:=hwB▸(Kept.refl _ _).alloc _;have hBB:Blk wB g 46 #[.int .i64 qk,.string ⟨ql.toArray⟩,.string ⟨qr.toArray⟩,.int .i64 qc,.slice qa qks.length qcc]:=hg▸hwB▸Blk.new _ _ _;have hBA2:=hBA.kept kB (by simp);have x0:wB.cell? ⟨wr.heap.size,0,none⟩=some (.int .i64 pk):=hBA2.cell 0;have x1:wB.cell? ⟨wr.heap.size,1,none⟩=some (.string ⟨pl.toArray⟩):=hBA2.cell 1;have x2:wB.cell? ⟨wr.heap.size,2,none⟩=some (.string ⟨pr.toArray⟩):=hBA2.cell 2;have x3:wB.cell? ⟨wr.heap.size,3,none⟩=some (.int .i64 pc):=hBA2.cell 3;have x4:wB.cell? ⟨wr.heap.size,4,none⟩=some (.slice pa pks.length pcc):=hBA2.cell 4;have u0:wB.cell? ⟨g,0,none⟩=some (.int .i64 qk):=hBB.cell 0;have u1:wB.cell? ⟨g,1,none⟩=some (.string ⟨ql.toArray⟩):=hBB.cell 1;have u2:wB.cell? ⟨g,2,none⟩=some (.string ⟨qr.toArray⟩):=hBB.cell 2;have u3:wB.cell? ⟨g,3,none⟩=some (.int .i64 qc):=hBB.cell 3;have u4:wB.cell? ⟨g,4,none⟩=some (.slice qa qks.length qcc):=hBB.cell 4;have HC2:=Lib.hid (HC.out wB (kA.trans kB));have HWA:=Lib.hid hwA;have HWB:=Lib.hid hwB;have HG:=Lib.hid hg;have HKB:=Lib.hid (kA.trans kB);clear p2 q2 p3 q3 hwA hwB kA kB hBA hBB hBA2 hg HC hkr;go_upto_region 6 with (fail);have hwA':=HWA.out;rw [hwA'];clear hwA' y0 y1 y2 y3 y4;go_upto_region 7 with (fail);rw [HG.out];have hwB':=HWB.out;rw [hwB'];clear hwB' z0 z1 z2 z3 z4
    cases r
    ·go_wp2_with (go_at_call 141;refine HC2.out.mono ?_;rintro e w5 ⟨rfl,k5⟩);go_ret;exact ⟨by rw [G1.out (HBD.out (by first|rfl|trivial))];rfl,(HKR.out.trans HKB.out).trans k5⟩
    ·go_wp2_with (go_at_call 141;refine HC2.out.mono ?_;rintro e w5 ⟨rfl,k5⟩)
     go_roundw
     case rel=>exact ⟨j+1,by omega,by go_num,(HKR.out.trans HKB.out).trans k5,HNX.out (by first|rfl|trivial)⟩
     case measure=>simp [intOf];omega
   ·obtain rfl:j=n:=by omega
    go_wp2_with fail;go_ret;have h1:=HTK.out;rw [List.take_of_length_le (by have:=HN.out;omega),List.take_of_length_le (by have:=HM.out;omega)] at h1;exact ⟨by rw [G2.out h1];rfl,HKR.out⟩
 ·have hne:((n:Int) != (m:Int))=true:=by simp;omega
  have hdf:l1≠l2:=fun e=>hnm (by rw [←HN.out,←HM.out,e]);have HDF:=Lib.hid hdf;clear hnm hdf
  go_enter Tryz.func185,Tryz.ntmps185
  go_wp2_with fail;go_ret;exact ⟨by rw [G1.out HDF.out];rfl,Kept.refl _ _⟩
set_option maxRecDepth 100000 in
set_option maxHeartbeats 4000000 in
theorem samePred_any:∀ (m:Nat) (p q:Pd) (cs ds:List Value) (w:World),sizeB p≤m→PdR w cs p→PdR w ds q →
  Calls Tryz.prog 141 #[.agg cs.toArray,.agg ds.toArray] w fun e w'=>e=.returned (.bool (sameB p q))∧Kept [] w w':=by
 intro m
 induction m with
 | zero=>intro p q cs ds w hm;cases p;rw [sizeB] at hm;omega
 | succ m ih =>
  rintro ⟨pk,pl,pr,pc,pks⟩ ⟨qk,ql,qr,qc,qks⟩ cs ds w hm hp hq;obtain ⟨pa,pcc,rfl,hpr⟩:=hp.rows;obtain ⟨qa,qcc,rfl,hqr⟩:=hq.rows;rw [sizeB] at hm;rw [sameB];obtain ⟨wA,hwA⟩:∃ x,w.alloc (.cells #[.int .i64 pk,.string ⟨pl.toArray⟩,.string ⟨pr.toArray⟩,.int .i64 pc,.slice pa pks.length pcc] 46)=x:=⟨_,rfl⟩;have kA:Kept [] w wA:=hwA▸(Kept.refl _ _).alloc _;have hBA:Blk wA w.heap.size 46 #[.int .i64 pk,.string ⟨pl.toArray⟩,.string ⟨pr.toArray⟩,.int .i64 pc,.slice pa pks.length pcc]:=hwA▸Blk.new _ _ _
  have hg:wA.heap.size=w.heap.size+1:=by rw [←hwA];simp
  obtain ⟨wB,hwB⟩:∃ x,wA.alloc (.cells #[.int .i64 qk,.string ⟨ql.toArray⟩,.string ⟨qr.toArray⟩,.int .i64 qc,.slice qa qks.length qcc] 46)=x:=⟨_,rfl⟩;have kB:Kept [] wA wB:=hwB▸(Kept.refl _ _).alloc _;have hBB:Blk wB (w.heap.size+1) 46 #[.int .i64 qk,.string ⟨ql.toArray⟩,.string ⟨qr.toArray⟩,.int .i64 qc,.slice qa qks.length qcc]:=hg▸hwB▸Blk.new _ _ _;have hBA2:=hBA.kept kB (by simp);have x0:wB.cell? ⟨w.heap.size,0,none⟩=some (.int .i64 pk):=hBA2.cell 0;have x1:wB.cell? ⟨w.heap.size,1,none⟩=some (.string ⟨pl.toArray⟩):=hBA2.cell 1;have x2:wB.cell? ⟨w.heap.size,2,none⟩=some (.string ⟨pr.toArray⟩):=hBA2.cell 2;have x3:wB.cell? ⟨w.heap.size,3,none⟩=some (.int .i64 pc):=hBA2.cell 3;have x4:wB.cell? ⟨w.heap.size,4,none⟩=some (.slice pa pks.length pcc):=hBA2.cell 4;have u0:wB.cell? ⟨w.heap.size+1,0,none⟩=some (.int .i64 qk):=hBB.cell 0;have u1:wB.cell? ⟨w.heap.size+1,1,none⟩=some (.string ⟨ql.toArray⟩):=hBB.cell 1;have u2:wB.cell? ⟨w.heap.size+1,2,none⟩=some (.string ⟨qr.toArray⟩):=hBB.cell 2;have u3:wB.cell? ⟨w.heap.size+1,3,none⟩=some (.int .i64 qc):=hBB.cell 3;have u4:wB.cell? ⟨w.heap.size+1,4,none⟩=some (.slice qa qks.length qcc):=hBB.cell 4;have kAB:=kA.trans kB;have heq:=eqfn_any (hpr.kept (fun c a hR=>PdR.kept kAB hR) kAB) (hqr.kept (fun c a hR=>PdR.kept kAB hR) kAB) (fun p hp q _ cs ds w' _ h1 h2=>ih p q cs ds w' (by have:=sizeL_mem hp;omega) h1 h2);obtain ⟨r,hr⟩:∃ r,sameL pks qks=r:=⟨_,rfl⟩;rw [hr] at heq ⊢;obtain ⟨pn,hpn⟩:∃ n,pks.length=n:=⟨_,rfl⟩;obtain ⟨qn,hqn⟩:∃ n,qks.length=n:=⟨_,rfl⟩
  rw [hpn] at heq x4 hwA ⊢;rw [hqn] at heq u4 hwB ⊢;have HEQ:=Lib.hid heq;have HWA:=Lib.hid hwA;have HWB:=Lib.hid hwB;have HK:=Lib.hid kAB;clear heq hwA hwB kA kB kAB hBA hBB hBA2 hg hr hpn hqn hpr hqr hp hq ih hm
  show Calls _ _ #[.agg #[.int .i64 pk,.string ⟨pl.toArray⟩,.string ⟨pr.toArray⟩,.int .i64 pc,.slice pa pn pcc],.agg #[.int .i64 qk,.string ⟨ql.toArray⟩,.string ⟨qr.toArray⟩,.int .i64 qc,.slice qa qn qcc]] _ _
  by_cases n1:pk=qk
  ·subst n1
   by_cases n2:pl=ql
   ·subst n2
    by_cases n3:pr=qr
    ·subst n3
     by_cases n4:pc=qc
     ·subst n4
      go_enter Tryz.func141,Tryz.ntmps141
      go_upto_region 1 with (fail);have hwA':=HWA.out;rw [hwA'];have hwB':=HWB.out;rw [hwB'];clear hwA' hwB';go_wp2_with (go_at_call 185;refine HEQ.out.mono ?_;rintro e w5 ⟨rfl,k5⟩);go_ret;exact ⟨by simp,HK.out.trans k5⟩
     ·skip
      go_enter Tryz.func141,Tryz.ntmps141
      go_upto_region 1 with (fail);have hwA':=HWA.out;rw [hwA'];have hwB':=HWB.out;rw [hwB'];clear hwA' hwB';go_wp2_with fail;go_ret;exact ⟨by simp [n4],HK.out⟩
    ·skip
     go_enter Tryz.func141,Tryz.ntmps141
     go_upto_region 1 with (fail);have hwA':=HWA.out;rw [hwA'];have hwB':=HWB.out;rw [hwB'];clear hwA' hwB';go_wp2_with fail;go_ret;exact ⟨by simp [n3],HK.out⟩
   ·skip
    go_enter Tryz.func141,Tryz.ntmps141
    go_upto_region 1 with (fail);have hwA':=HWA.out;rw [hwA'];have hwB':=HWB.out;rw [hwB'];clear hwA' hwB';go_wp2_with fail;go_ret;exact ⟨by simp [n2],HK.out⟩
  ·skip
   go_enter Tryz.func141,Tryz.ntmps141
   go_upto_region 1 with (fail);have hwA':=HWA.out;rw [hwA'];have hwB':=HWB.out;rw [hwB'];clear hwA' hwB';go_wp2_with fail;go_ret;exact ⟨by simp [n1],HK.out⟩
end Go.Proofs.YtpcmamoomaddoaaGreatDoor
