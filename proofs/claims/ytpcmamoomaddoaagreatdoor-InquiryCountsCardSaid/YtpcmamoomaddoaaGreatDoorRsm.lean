/- The reference's Same and SameBinds. -/
import Derived.Test.YtpcmamoomaddoaaGreatDoorAcn
import Derived.Test.YtpcmamoomaddoaaGreatDoorSnk
import Derived.Test.YtpcmamoomaddoaaGreatDoorSpr
/- JOINED: Lwp Rsm -/
/- InquiryCounts: plain facts. -/
namespace Go.Proofs.YtpcmamoomaddoaaGreatDoor
open Go.RowKit
theorem dedup_ex:∀ l:List Bs,∃ m:List Bs,m.Nodup∧∀ s,s∈m↔s∈l
 | []=>⟨[],by simp,by simp⟩
 | x::l=>by
  obtain ⟨m,h1,h2⟩:=dedup_ex l
  by_cases hx:x∈m
  ·refine ⟨m,h1,fun s=>?_⟩;rw [List.mem_cons,←h2];exact ⟨Or.inr,fun h=>h.elim (fun e=>e▸hx) id⟩
  ·refine ⟨x::m,by rw [List.nodup_cons];exact ⟨hx,h1⟩,fun s=>?_⟩;rw [List.mem_cons,List.mem_cons,h2]
theorem names_ex (A:List K3):∃ ns,NamesOf A ns:=by
 obtain ⟨m,h1,h2⟩:=dedup_ex (namesK A);refine ⟨(m.filter fun s=>decide (s≠[])).mergeSort leB,((List.mergeSort_perm _ _).nodup_iff).2 (h1.filter _),?_,fun s=>?_⟩
 ·have:=List.pairwise_mergeSort (le:=leB) (fun a b c h1 h2=>by simp only [leB,decide_eq_true_eq] at *;exact List.le_trans h1 h2) (fun a b=>by simp only [leB,Bool.or_eq_true,decide_eq_true_eq];exact List.le_total a b) (m.filter fun s=>decide (s≠[]))
  exact this.imp fun h=>by simpa [leB] using h
 ·rw [(List.mergeSort_perm _ _).mem_iff,List.mem_filter,h2,decide_eq_true_eq];exact And.comm
theorem pred_ex (q:Bs) (most:Int):∃ r,PredOf q most r:=by
 unfold PredOf
 by_cases h1:(parsedQ q).2≠0
 ·exact ⟨.error (parsedQ q).2,by rw [if_pos h1]⟩
 ·by_cases h2:most < 0∨65535 < most
  ·exact ⟨.error 3,by rw [if_neg h1,if_pos h2]⟩
  ·obtain ⟨ns,hns⟩:=names_ex (atomsB (parsedQ q).1);exact ⟨_,by rw [if_neg h1,if_neg h2];exact ⟨ns,hns,rfl⟩⟩
theorem sightB_err {ks:List Pss} {log nums:List Int} {c:List Pd × List Sn} {x:Sgt} {e:Int} (h:sightB ks log nums c x=.error e):e≠0:=by
 unfold sightB at h
 split at h
 ·next e' hp =>
  injection h with h;subst h;obtain ⟨r,hr⟩:=pred_ex x.q x.most;rw [hr.eq] at hp;subst hp;exact hr.err
 ·split at h
  ·injection h with h;omega
  ·split at h
   ·injection h with h;omega
   ·split at h
    ·injection h with h;omega
    ·split at h
     ·injection h with h;omega
     ·split at h
      ·injection h with h;omega
      ·split at h
       ·injection h with h;omega
       ·split at h
        ·cases h
        ·split at h
         ·injection h with h;omega
         ·cases h
theorem account_err {ks:List Pss} {log:List Int} {is:List Iss} {ss:List Sgt} {c:Int} (h:accountB ks log is ss=.error c):c≠0:=by
 unfold accountB at h
 split at h
 ·injection h with h;omega
 ·split at h
  ·next hf=>injection h with h;rw [←h];exact foldE_err (p:=fun c=>c≠0) (fun _ _ _ h=>addB_err h) _ _ _ hf
  ·split at h
   ·next hf=>injection h with h;rw [←h];exact foldE_err (p:=fun c=>c≠0) (fun _ _ _ h=>sightB_err h) _ _ _ hf
   ·cases h
theorem put1_len {acc acc':List Bnd} {b:Bnd} (h:put1 acc b=.ok acc'):acc'.length≤acc.length+1:=by
 unfold put1 at h
 split at h
 ·split at h
  ·injection h with h;subst h;omega
  ·cases h
 ·injection h with h;subst h;simp
theorem puts_len:∀ (l acc vs:List Bnd),foldE put1 acc l=.ok vs→vs.length≤acc.length+l.length
 | [],acc,vs,h=>by
  rw [foldE] at h;injection h with h;subst h
  simp
 | b::l,acc,vs,h=>by
  rw [foldE] at h
  cases hb:put1 acc b with
  | error e=>rw [hb] at h;cases h
  | ok t =>
   rw [hb] at h;have h1:=put1_len hb;have h2:=puts_len l t vs h;rw [List.length_cons];omega
theorem addB_few {ks:List Pss} {P P':List Cz} {x:Iss} {m:Nat} (hP:∀ c∈P,c.vals.length≤m) (h:addB ks P x=.ok P'):∀ c∈P',c.vals.length≤m+6:=by
 unfold addB at h
 split at h
 ·cases h
 ·next p _ =>
  split at h
  ·cases h
  ·next l hv =>
   have hl:l.length < 6:=by
    unfold valsB at hv
    split at hv
    ·cases hv
    ·next hn =>
     rw [not_or] at hn
     split at hv
     ·cases hv
     ·injection hv with hv;rw [←hv,valsTo_len];exact passB_lt (by have:=hn.1;simpa using this)
   unfold addN at h
   split at h
   ·cases h
   ·split at h
    ·cases h
    ·next vs hf =>
     split at h
     ·cases h
     ·injection h with h;subst h;have h1:=puts_len _ _ _ hf
      have h2:(czOf ks.length P (x.attrs.headD 0)).vals.length≤m:=by
       unfold czOf
       cases hc:findC P (x.attrs.headD 0) with
       | none=>exact Nat.zero_le _
       | some c=>exact hP c (findC_some hc).1
      intro c hc
      rcases mem_setC.1 hc with ⟨h3,_⟩|rfl
      ·have:=hP c h3;omega
      ·show vs.length≤m+6
       omega
theorem people_few {ks:List Pss} {is:List Iss} {P:List Cz} (h:foldE (addB ks) [] is=.ok P):∀ c∈P,c.vals.length≤6*is.length :=
 foldE_law (P:=fun j P=>∀ c∈P,c.vals.length≤6*j) (fun j t x u ht _ hf=>by have:=addB_few ht hf;rwa [Nat.mul_succ]) (by simp) h
theorem account_few {ks:List Pss} {log:List Int} {is:List Iss} {ss:List Sgt} {c:Crw} {ns:List Int} (h:accountB ks log is ss=.ok (c,ns)):∀ m∈c.ms,(∀ b∈m.binds,validNameB b.1=true)∧m.binds.length≤6*is.length:=by
 unfold accountB at h
 split at h
 ·cases h
 ·split at h
  ·cases h
  ·next P hP =>
   split at h
   ·cases h
   ·injection h with h;injection h with h1 h2;subst h1;intro m hm;obtain ⟨n,_,rfl⟩:=List.mem_map.1 hm;have hI:=people_inv hP;have hF:=people_few hP
    have hv:valsOk (czOf 0 P n).vals∧(czOf 0 P n).vals.length≤6*is.length:=by
     unfold czOf
     cases hc:findC P n with
     | none=>exact ⟨⟨by simp,by simp⟩,Nat.zero_le _⟩
     | some c=>exact ⟨hI.vals c (findC_some hc).1,hF c (findC_some hc).1⟩
    refine ⟨fun b hb=>(hv.1.2 b ((bindsS_perm _).mem_iff.1 hb)).1,?_⟩
    show (bindsS (czOf 0 P n).vals).length≤_
    rw [(bindsS_perm _).length_eq];exact hv.2
end Go.Proofs.YtpcmamoomaddoaaGreatDoor
namespace Go.Proofs.YtpcmamoomaddoaaGreatDoor
open Go.RowKit
set_option maxRecDepth 100000 in
set_option maxHeartbeats 4000000 in
theorem sameRef_any:∀ (m:Nat) (p q:Pd) (cs ds:List Value) (w:World),sizeB p≤m→PdR w cs p→PdR w ds q →
  Calls Tryz.prog 17 #[.agg cs.toArray,.agg ds.toArray] w fun e w'=>e=.returned (.bool (sameB p q))∧Kept [] w w':=by
 intro m
 induction m with
 | zero=>intro p q cs ds w hm;cases p;rw [sizeB] at hm;omega
 | succ m ih =>
  rintro ⟨pk,pl,pr,pc,pks⟩ ⟨qk,ql,qr,qc,qks⟩ cs ds w hm hp hq;obtain ⟨pa,pcc,rfl,hpr⟩:=hp.rows;obtain ⟨qa,qcc,rfl,hqr⟩:=hq.rows;rw [sizeB] at hm;rw [sameB];obtain ⟨_,_,_,h63,_⟩:=hpr.form;obtain ⟨pn,hpn⟩:∃ n,pks.length=n:=⟨_,rfl⟩;obtain ⟨qn,hqn⟩:∃ n,qks.length=n:=⟨_,rfl⟩;rw [hpn] at h63 hpr ⊢;rw [hqn] at hqr ⊢;obtain ⟨wA,hwA⟩:∃ x,w.alloc (.cells #[.int .i64 pk,.string ⟨pl.toArray⟩,.string ⟨pr.toArray⟩,.int .i64 pc,.slice pa pn pcc] 46)=x:=⟨_,rfl⟩;have kA:Kept [] w wA:=hwA▸(Kept.refl _ _).alloc _;have hBA:Blk wA w.heap.size 46 #[.int .i64 pk,.string ⟨pl.toArray⟩,.string ⟨pr.toArray⟩,.int .i64 pc,.slice pa pn pcc]:=hwA▸Blk.new _ _ _
  have hg:wA.heap.size=w.heap.size+1:=by rw [←hwA];simp
  obtain ⟨wB,hwB⟩:∃ x,wA.alloc (.cells #[.int .i64 qk,.string ⟨ql.toArray⟩,.string ⟨qr.toArray⟩,.int .i64 qc,.slice qa qn qcc] 46)=x:=⟨_,rfl⟩;have kB:Kept [] wA wB:=hwB▸(Kept.refl _ _).alloc _;have hBB:Blk wB (w.heap.size+1) 46 #[.int .i64 qk,.string ⟨ql.toArray⟩,.string ⟨qr.toArray⟩,.int .i64 qc,.slice qa qn qcc]:=hg▸hwB▸Blk.new _ _ _;have hBA2:=hBA.kept kB (by simp);have x0:wB.cell? ⟨w.heap.size,0,none⟩=some (.int .i64 pk):=hBA2.cell 0;have x1:wB.cell? ⟨w.heap.size,1,none⟩=some (.string ⟨pl.toArray⟩):=hBA2.cell 1;have x2:wB.cell? ⟨w.heap.size,2,none⟩=some (.string ⟨pr.toArray⟩):=hBA2.cell 2;have x3:wB.cell? ⟨w.heap.size,3,none⟩=some (.int .i64 pc):=hBA2.cell 3;have x4:wB.cell? ⟨w.heap.size,4,none⟩=some (.slice pa pn pcc):=hBA2.cell 4;have u0:wB.cell? ⟨w.heap.size+1,0,none⟩=some (.int .i64 qk):=hBB.cell 0;have u1:wB.cell? ⟨w.heap.size+1,1,none⟩=some (.string ⟨ql.toArray⟩):=hBB.cell 1;have u2:wB.cell? ⟨w.heap.size+1,2,none⟩=some (.string ⟨qr.toArray⟩):=hBB.cell 2;have u3:wB.cell? ⟨w.heap.size+1,3,none⟩=some (.int .i64 qc):=hBB.cell 3;have u4:wB.cell? ⟨w.heap.size+1,4,none⟩=some (.slice qa qn qcc):=hBB.cell 4;have kAB:=kA.trans kB;have h1:=hpr.kept (fun c a hR=>PdR.kept kAB hR) kAB;have h2:=hqr.kept (fun c a hR=>PdR.kept kAB hR) kAB
  have HIH:Hid (∀ p∈pks,∀ (q:Pd) (cs ds:List Value) (w:World),PdR w cs p→PdR w ds q→Calls Tryz.prog 17 #[.agg cs.toArray,.agg ds.toArray] w fun e w'=>e=.returned (.bool (sameB p q))∧Kept [] w w') :=
   Lib.hid fun p hp q cs ds w' h1 h2=>ih p q cs ds w' (by have:=sizeL_mem hp;omega) h1 h2
  obtain ⟨r,hr⟩:∃ r,sameL pks qks=r:=⟨_,rfl⟩
  have G1:pks≠qks→r=false:=fun h=>by
   rw [←hr]
   cases hs:sameL pks qks with
   | false=>rfl
   | true=>exact absurd ((sameL_iff pks qks).1 hs) h
  have G2:pks=qks→r=true:=fun h=>by rw [←hr];exact (sameL_iff pks qks).2 h
  rw [hr];have H1:=Lib.hid h1;have H2:=Lib.hid h2;have HN:=Lib.hid hpn;have HM:=Lib.hid hqn;have G1:=Lib.hid G1;have G2:=Lib.hid G2;have HBA:=Lib.hid hBA2;have HBB:=Lib.hid hBB;have HWA:=Lib.hid hwA;have HWB:=Lib.hid hwB;have HK:=Lib.hid kAB;clear hwA hwB kA kB kAB hBA hBB hBA2 hg hr hpn hqn hpr hqr hp hq ih hm h1 h2
  show Calls _ _ #[.agg #[.int .i64 pk,.string ⟨pl.toArray⟩,.string ⟨pr.toArray⟩,.int .i64 pc,.slice pa pn pcc],.agg #[.int .i64 qk,.string ⟨ql.toArray⟩,.string ⟨qr.toArray⟩,.int .i64 qc,.slice qa qn qcc]] _ _
  by_cases n1:pk=qk
  ·subst n1
   by_cases n2:pl=ql
   ·subst n2
    by_cases n3:pr=qr
    ·subst n3
     by_cases n4:pc=qc
     ·subst n4
      by_cases n5:pn=qn
      ·subst n5
       have hne:((pn:Int) != (pn:Int))=false:=by simp
       go_enter Tryz.func17,Tryz.ntmps17
       go_upto_region 1 with (fail);have hwA':=HWA.out;rw [hwA'];have hwB':=HWB.out;rw [hwB'];clear hwA' hwB';go_wp2_with fail;clear x0 x1 x2 x3 x4 u0 u1 u2 u3 u4
       go_loopw [5] (fun v wr=>∃ j:Nat,j≤pn∧v=.int .i64 j∧Kept [] wB wr∧pks.take j=qks.take j) (fun v _=>pn - (intOf v).toNat)
       case atStart=>exact ⟨0,Nat.zero_le _,rfl,Kept.refl _ _,by simp⟩
       case round =>
        obtain ⟨j,hj,rfl,hkr,htk⟩:=hrel;have HKR:=Lib.hid hkr;have HTK:=Lib.hid htk;clear htk;have hba:=HBA.out.kept hkr (by simp);have hbb:=HBB.out.kept hkr (by simp)
        by_cases hlt:j < pn
        ·have hlt':(j:Int) < (pn:Int):=by omega
         obtain ⟨b1,o1,rfl,k1⟩:=(H1.out.kept (fun c a hR=>PdR.kept hkr hR) hkr).at_ (by have:=HN.out;omega);obtain ⟨b2,o2,rfl,k2⟩:=(H2.out.kept (fun c a hR=>PdR.kept hkr hR) hkr).at_ (by have:=HM.out;omega);obtain ⟨p,hp⟩:∃ a,pks[j]?=some a:=⟨_,List.getElem?_eq_getElem (by have:=HN.out;omega)⟩;obtain ⟨q,hq⟩:∃ a,qks[j]?=some a:=⟨_,List.getElem?_eq_getElem (by have:=HM.out;omega)⟩;obtain ⟨cs,p1,p2,p3⟩:=k1 j p hp;obtain ⟨ds,q1,q2,q3⟩:=k2 j q hq
         have htp:pks.take (j+1)=pks.take j++[p]:=by rw [List.take_succ_eq_append_getElem (by have:=HN.out;omega),(List.getElem?_eq_some_iff.1 hp).2]
         have htq:qks.take (j+1)=qks.take j++[q]:=by rw [List.take_succ_eq_append_getElem (by have:=HM.out;omega),(List.getElem?_eq_some_iff.1 hq).2]
         have CL:=Lib.hid (fun (x:KW wr)=>HIH.out p (List.mem_of_getElem? hp) q cs ds x.val (PdR.kept x.property p2) (PdR.kept x.property q2));obtain ⟨r,hr⟩:∃ r,sameB p q=r:=⟨_,rfl⟩;rw [hr] at CL
         have HNX:Hid (r=true→pks.take (j+1)=qks.take (j+1)):=Lib.hid fun h=>by
          subst h;rw [htp,htq,HTK.out,(same_iff p q).1 hr]
         have HBD:Hid (r=false→pks≠qks):=Lib.hid fun h e=>by
          subst h;rw [e,hq] at hp;injection hp with hp;rw [(same_iff p q).2 hp.symm] at hr
          cases hr
         clear k1 k2 hp hq htp htq hr p1 q1;obtain ⟨sk,sl,sr,sc,sks⟩:=p;obtain ⟨sa,scc,rfl,_⟩:=p2.rows;obtain ⟨tk,tl,tr,tc,tks⟩:=q;obtain ⟨ta,tcc,rfl,_⟩:=q2.rows;have x4:wr.cell? ⟨w.heap.size,4,none⟩=some (.slice (some ⟨b1,o1,none⟩) pn pcc):=hba.cell 4;have X4:∀ x:KW wr,x.val.cell? ⟨w.heap.size,4,none⟩=some (.slice (some ⟨b1,o1,none⟩) pn pcc):=fun x=>x.cell (hba.cell 4);have U4:∀ x:KW wr,x.val.cell? ⟨w.heap.size+1,4,none⟩=some (.slice (some ⟨b2,o2,none⟩) pn qcc):=fun x=>x.cell (hbb.cell 4);have y0:∀ x:KW wr,x.val.cell? ⟨b1,o1+j*5,none⟩=some (.int .i64 sk):=fun x=>x.cell (p3 0 _ (by decide) rfl);have y1:∀ x:KW wr,x.val.cell? ⟨b1,o1+j*5+1,none⟩=some (.string ⟨sl.toArray⟩):=fun x=>x.cell (p3 1 _ (by decide) rfl);have y2:∀ x:KW wr,x.val.cell? ⟨b1,o1+j*5+2,none⟩=some (.string ⟨sr.toArray⟩):=fun x=>x.cell (p3 2 _ (by decide) rfl);have y3:∀ x:KW wr,x.val.cell? ⟨b1,o1+j*5+3,none⟩=some (.int .i64 sc):=fun x=>x.cell (p3 3 _ (by decide) rfl);have y4:∀ x:KW wr,x.val.cell? ⟨b1,o1+j*5+4,none⟩=some (.slice sa sks.length scc):=fun x=>x.cell (p3 4 _ (by decide) rfl);have z0:∀ x:KW wr,x.val.cell? ⟨b2,o2+j*5,none⟩=some (.int .i64 tk):=fun x=>x.cell (q3 0 _ (by decide) rfl);have z1:∀ x:KW wr,x.val.cell? ⟨b2,o2+j*5+1,none⟩=some (.string ⟨tl.toArray⟩):=fun x=>x.cell (q3 1 _ (by decide) rfl);have z2:∀ x:KW wr,x.val.cell? ⟨b2,o2+j*5+2,none⟩=some (.string ⟨tr.toArray⟩):=fun x=>x.cell (q3 2 _ (by decide) rfl);have z3:∀ x:KW wr,x.val.cell? ⟨b2,o2+j*5+3,none⟩=some (.int .i64 tc):=fun x=>x.cell (q3 3 _ (by decide) rfl)
         have z4:∀ x:KW wr,x.val.cell? ⟨b2,o2+j*5+4,none⟩=some (.slice ta tks.length tcc):=fun x=>x.cell (q3 4 _ (by decide) rfl);clear p2 q2 p3 q3 hkr hba hbb;go_upto_region 6 with (fail);refine wp_region_kept wr (Kept.refl _ _) (by kernel_rfl) (by kernel_rfl) ?_
         repeat (go_big_quiet_step (first|(go_at_call 17;exact quiet_kept (CL.out _))))
         refine wpQuiet_nil ?_;rintro w5 ⟨⟨_,hk5⟩,rfl⟩
         cases r
         ·go_wp2_with fail;go_ret;exact ⟨by rw [G1.out (HBD.out (by first|rfl|trivial))];simp,(HK.out.trans HKR.out).trans hk5⟩
         ·go_wp2_with fail
          go_roundw
          case rel=>exact ⟨j+1,by omega,by go_num,HKR.out.trans hk5,HNX.out (by first|rfl|trivial)⟩
          case measure=>simp [intOf];omega
        ·obtain rfl:j=pn:=by omega
         have x4:wr.cell? ⟨w.heap.size,4,none⟩=some (.slice pa j pcc):=hba.cell 4;go_wp2_with fail;go_ret;have h1:=HTK.out;rw [List.take_of_length_le (by have:=HN.out;omega),List.take_of_length_le (by have:=HM.out;omega)] at h1;exact ⟨by rw [G2.out h1];simp,HK.out.trans HKR.out⟩
      ·have hne:((pn:Int) != (qn:Int))=true:=by simp;omega
       have hdf:pks≠qks:=fun e=>n5 (by rw [←HN.out,←HM.out,e]);have hrf:=Lib.hid (G1.out hdf);clear hdf
       go_enter Tryz.func17,Tryz.ntmps17
       go_upto_region 1 with (fail);have hwA':=HWA.out;rw [hwA'];have hwB':=HWB.out;rw [hwB'];clear hwA' hwB';go_wp2_with fail;go_ret;exact ⟨by rw [hrf.out];simp,HK.out⟩
     ·go_enter Tryz.func17,Tryz.ntmps17
      go_upto_region 1 with (fail);have hwA':=HWA.out;rw [hwA'];have hwB':=HWB.out;rw [hwB'];clear hwA' hwB';go_wp2_with fail;go_ret;exact ⟨by simp [n4],HK.out⟩
    ·go_enter Tryz.func17,Tryz.ntmps17
     go_upto_region 1 with (fail);have hwA':=HWA.out;rw [hwA'];have hwB':=HWB.out;rw [hwB'];clear hwA' hwB';go_wp2_with fail;go_ret;exact ⟨by simp [n3],HK.out⟩
   ·go_enter Tryz.func17,Tryz.ntmps17
    go_upto_region 1 with (fail);have hwA':=HWA.out;rw [hwA'];have hwB':=HWB.out;rw [hwB'];clear hwA' hwB';go_wp2_with fail;go_ret;exact ⟨by simp [n2],HK.out⟩
  ·go_enter Tryz.func17,Tryz.ntmps17
   go_upto_region 1 with (fail);have hwA':=HWA.out;rw [hwA'];have hwB':=HWB.out;rw [hwB'];clear hwA' hwB';go_wp2_with fail;go_ret;exact ⟨by simp [n1],HK.out⟩
set_option maxHeartbeats 2000000 in
theorem sameBinds_any {w:World} {v1 v2:Value} {l1 l2:List Bnd} (h1:RowOf BindR 2 w v1 l1) (h2:RowOf BindR 2 w v2 l2) :
  Calls Tryz.prog 13 #[v1,v2] w fun e w'=>e=.returned (.bool (decide (l1=l2)))∧Kept [] w w':=by
 obtain ⟨a1,c1,rfl,h63,_⟩:=RowOf.form h1;obtain ⟨a2,c2,rfl,_,_⟩:=RowOf.form h2;obtain ⟨n,hn⟩:∃ n,l1.length=n:=⟨_,rfl⟩;obtain ⟨m,hm⟩:∃ n,l2.length=n:=⟨_,rfl⟩;obtain ⟨R,hR⟩:∃ R,decide (l1=l2)=R:=⟨_,rfl⟩
 have G1:l1≠l2→R=false:=fun h=>by rw [←hR,decide_eq_false h]
 have G2:l1=l2→R=true:=fun h=>by rw [←hR,decide_eq_true h]
 rw [hR,hn,hm];rw [hn] at h63 h1;rw [hm] at h2;have H1:=Lib.hid h1;have H2:=Lib.hid h2;have HN:=Lib.hid hn;have HM:=Lib.hid hm;have G1:=Lib.hid G1;have G2:=Lib.hid G2;clear hR hn hm h1 h2
 by_cases hnm:n=m
 ·subst hnm
  have hne:((n:Int) != (n:Int))=false:=by simp
  go_enter Tryz.func13,Tryz.ntmps13
  go_wp2_with fail
  go_loopw [5] (fun v wr=>∃ j:Nat,j≤n∧v=.int .i64 j∧Kept [] w wr∧l1.take j=l2.take j) (fun v _=>n - (intOf v).toNat)
  case atStart=>exact ⟨0,Nat.zero_le _,rfl,Kept.refl _ _,by simp⟩
  case round =>
   obtain ⟨j,hj,rfl,hkr,htk⟩:=hrel;have HKR:=Lib.hid hkr;have HTK:=Lib.hid htk;clear htk
   by_cases hlt:j < n
   ·have hlt':(j:Int) < (n:Int):=by omega
    obtain ⟨b1,o1,rfl,k1⟩:=(RowOf.kept (w':=wr) H1.out (fun _ _ h=>h) hkr).at_ (by have:=HN.out;omega);obtain ⟨b2,o2,rfl,k2⟩:=(RowOf.kept (w':=wr) H2.out (fun _ _ h=>h) hkr).at_ (by have:=HM.out;omega);obtain ⟨p,hp⟩:∃ a,l1[j]?=some a:=⟨_,List.getElem?_eq_getElem (by have:=HN.out;omega)⟩;obtain ⟨q,hq⟩:∃ a,l2[j]?=some a:=⟨_,List.getElem?_eq_getElem (by have:=HM.out;omega)⟩;obtain ⟨cs,p1,p2,p3⟩:=k1 j p hp;obtain ⟨ds,q1,q2,q3⟩:=k2 j q hq
    have htp:l1.take (j+1)=l1.take j++[p]:=by rw [List.take_succ_eq_append_getElem (by have:=HN.out;omega),(List.getElem?_eq_some_iff.1 hp).2]
    have htq:l2.take (j+1)=l2.take j++[q]:=by rw [List.take_succ_eq_append_getElem (by have:=HM.out;omega),(List.getElem?_eq_some_iff.1 hq).2]
    have HNX:Hid (p=q→l1.take (j+1)=l2.take (j+1)):=Lib.hid fun h=>by rw [htp,htq,HTK.out,h]
    have HBD:Hid (p≠q→l1≠l2):=Lib.hid fun h e=>by
     rw [e,hq] at hp;injection hp with hp;exact h hp.symm
    unfold BindR at p2 q2
    subst p2 q2;obtain ⟨ps,pv⟩:=p;obtain ⟨qs,qv⟩:=q;have y0:∀ x:KW wr,x.val.cell? ⟨b1,o1+j*2,none⟩=some (.string ⟨ps.toArray⟩):=fun x=>x.cell (p3 0 _ (by decide) rfl);have y1:∀ x:KW wr,x.val.cell? ⟨b1,o1+j*2+1,none⟩=some (.int .i64 pv):=fun x=>x.cell (p3 1 _ (by decide) rfl);have z0:∀ x:KW wr,x.val.cell? ⟨b2,o2+j*2,none⟩=some (.string ⟨qs.toArray⟩):=fun x=>x.cell (q3 0 _ (by decide) rfl);have z1:∀ x:KW wr,x.val.cell? ⟨b2,o2+j*2+1,none⟩=some (.int .i64 qv):=fun x=>x.cell (q3 1 _ (by decide) rfl);clear k1 k2 hp hq htp htq p1 q1 p3 q3 hkr
    by_cases e1:ps=qs
    ·by_cases e2:pv=qv
     ·subst e1 e2;have HNX2:=Lib.hid (HNX.out rfl);clear HNX HBD;go_upto_region 6 with (fail);refine wp_region_kept wr (Kept.refl _ _) (by kernel_rfl) (by kernel_rfl) ?_
      repeat (go_big_quiet_step (fail))
      refine wpQuiet_nil ?_;rintro w5 ⟨⟨_,hk5⟩,rfl⟩;go_wp2_with fail
      go_roundw
      case rel=>exact ⟨j+1,by omega,by go_num,HKR.out.trans hk5,HNX2.out⟩
      case measure=>simp [intOf];omega
     ·have HB2:=Lib.hid (HBD.out (fun h=>e2 (congrArg Prod.snd h)));go_upto_region 6 with (fail);refine wp_region_kept wr (Kept.refl _ _) (by kernel_rfl) (by kernel_rfl) ?_
      repeat (go_big_quiet_step (fail))
      refine wpQuiet_nil ?_;rintro w5 ⟨⟨_,hk5⟩,rfl⟩;go_wp2_with fail;go_ret;exact ⟨by rw [G1.out HB2.out];rfl,HKR.out.trans hk5⟩
    ·have HB2:=Lib.hid (HBD.out (fun h=>e1 (congrArg Prod.fst h)));go_upto_region 6 with (fail);refine wp_region_kept wr (Kept.refl _ _) (by kernel_rfl) (by kernel_rfl) ?_
     repeat (go_big_quiet_step (fail))
     refine wpQuiet_nil ?_;rintro w5 ⟨⟨_,hk5⟩,rfl⟩;go_wp2_with fail;go_ret;exact ⟨by rw [G1.out HB2.out];rfl,HKR.out.trans hk5⟩
   ·obtain rfl:j=n:=by omega
    go_wp2_with fail;go_ret;have h1:=HTK.out;rw [List.take_of_length_le (by have:=HN.out;omega),List.take_of_length_le (by have:=HM.out;omega)] at h1;exact ⟨by rw [G2.out h1];rfl,HKR.out⟩
 ·have hne:((n:Int) != (m:Int))=true:=by simp;omega
  have hdf:l1≠l2:=fun e=>hnm (by rw [←HN.out,←HM.out,e]);have HDF:=Lib.hid hdf;clear hnm hdf
  go_enter Tryz.func13,Tryz.ntmps13
  go_wp2_with fail;go_ret;exact ⟨by rw [G1.out HDF.out];rfl,Kept.refl _ _⟩
end Go.Proofs.YtpcmamoomaddoaaGreatDoor
