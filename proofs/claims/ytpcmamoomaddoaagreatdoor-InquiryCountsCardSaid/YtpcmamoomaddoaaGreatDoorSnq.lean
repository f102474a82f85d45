/- saneAccount's plain facts. -/
import Derived.Test.YtpcmamoomaddoaaGreatDoorRsm
import Derived.BigQuiet
import Derived.Deep.DeepCutAuto
import Derived.Test.YtpcmamoomaddoaaGreatDoorAcn
/- JOINED: Lwk Snq -/
/- the law InquiryCounts. -/
namespace Go.Proofs.YtpcmamoomaddoaaGreatDoor
open Go.RowKit
theorem few_key {l:List Pss} (h:fewKeysB l=true):∀ p∈l,p.name.length≤10000000∧(∀ a∈p.attrs,a.length≤10000000)∧p.attrs.length≤100000:=fun p hp=>by
 unfold fewKeysB at h
 simp only [Bool.and_eq_true,decide_eq_true_eq] at h;have h2:=List.all_eq_true.1 h.2 p hp
 unfold fewPassB at h2
 simp only [Bool.and_eq_true,decide_eq_true_eq] at h2;exact ⟨by omega,fun a ha=>by have:=List.all_eq_true.1 h2.2 a ha;simp only [decide_eq_true_eq] at this;omega,by omega⟩
theorem few_iss {l:List Iss} {m:Nat} (h:fewIssuesB l m=true):l.length≤m∧∀ x∈l,x.attrs.length≤9:=by
 unfold fewIssuesB at h
 simp only [Bool.and_eq_true,decide_eq_true_eq] at h;exact ⟨h.1,fun x hx=>by have:=List.all_eq_true.1 h.2 x hx;simpa using this⟩
theorem few_sgt {l:List Sgt} {m:Nat} (h:fewSightsB l m=true):l.length≤m∧∀ x∈l,x.q.length≤300:=by
 unfold fewSightsB at h
 simp only [Bool.and_eq_true,decide_eq_true_eq] at h;refine ⟨h.1,fun x hx=>?_⟩;have:=List.all_eq_true.1 h.2 x hx
 unfold fewSightB at this
 simp only [Bool.and_eq_true,decide_eq_true_eq] at this;exact this.1.1.1.1
theorem sum_bound {M:Int}:∀ {l:List Int},(∀ t∈l,0≤t∧t≤M)→0≤l.sum∧l.sum≤M*l.length
 | [],_=>by simp
 | a::l,h=>by
  have h1:=h a List.mem_cons_self;have h2:=sum_bound (l:=l) fun t ht=>h t (List.mem_cons_of_mem _ ht);rw [List.sum_cons,List.length_cons];refine ⟨by omega,?_⟩
  have:M*((l.length+1:Nat):Int)=M*l.length+M:=by rw [Int.natCast_add,Int.mul_add];simp
  omega
theorem mem_tickets {m:Mb} (h:memB m=true):(∀ t∈m.tickets,0≤t∧t≤4096)∧m.tickets.length≤16:=by
 unfold memB at h
 simp only [Bool.and_eq_true,decide_eq_true_eq,Bool.not_eq_true'] at h;refine ⟨fun t ht=>?_,h.1.1.2⟩;have h1:=List.any_eq_false.1 h.1.2 t ht
 unfold oddB withinB at h1
 simp at h1;omega
theorem crowd_mems {c:Crw} (h:crowdB c=true):c.ms.length≤64∧∀ m∈c.ms,memB m=true:=by
 unfold crowdB at h
 simp only [Bool.and_eq_true,decide_eq_true_eq,Bool.not_eq_true'] at h;refine ⟨h.1.1.1.1.2,fun m hm=>?_⟩;have:=List.any_eq_false.1 h.1.2 m hm
 simpa using this
theorem mem_sum {m:Mb} (h:memB m=true) (k:Nat):0≤(m.tickets.take k).sum∧(m.tickets.take k).sum≤65536:=by
 obtain ⟨h1,h2⟩:=mem_tickets h;have h3:=sum_bound (M:=4096) (l:=m.tickets.take k) fun t ht=>h1 t (List.mem_of_mem_take ht)
 have h4:(m.tickets.take k).length≤16:=by rw [List.length_take];omega
 exact ⟨h3.1,by omega⟩
theorem mems_sum {c:Crw} (h:crowdB c=true) (i:Nat):0≤((c.ms.take i).map fun m=>m.tickets.sum).sum∧((c.ms.take i).map fun m=>m.tickets.sum).sum≤4194304:=by
 obtain ⟨h1,h2⟩:=crowd_mems h
 have h3:=sum_bound (M:=65536) (l:=(c.ms.take i).map fun m=>m.tickets.sum) fun t ht=>by
  obtain ⟨m,hm,rfl⟩:=List.mem_map.1 ht;have:=mem_sum (h2 m (List.mem_of_mem_take hm)) m.tickets.length
  rwa [List.take_length] at this
 have h4:((c.ms.take i).map fun m=>m.tickets.sum).length≤64:=by rw [List.length_map,List.length_take];omega
 exact ⟨h3.1,by omega⟩
theorem crowd_qs {c:Crw} (h:crowdB c=true):∀ p∈c.qs,formedB p=true:=by
 unfold crowdB at h
 simp only [Bool.and_eq_true,decide_eq_true_eq,Bool.not_eq_true'] at h;intro p hp;have h1:=List.any_eq_false.1 h.1.1.2 p hp
 have h2:validB p=true:=by simpa using h1
 unfold validB at h2
 rw [Bool.and_eq_true] at h2;exact h2.2
theorem crowd_lens {c:Crw} (h:crowdB c=true):c.qs.length≤128∧c.ms.length≤64∧c.us.length≤4096:=by
 unfold crowdB at h
 simp only [Bool.and_eq_true,decide_eq_true_eq] at h;exact ⟨h.1.1.1.1.1,h.1.1.1.1.2,h.1.1.1.2⟩
theorem any_take {α:Type} {f:α→Bool} {l:List α} {k:Nat} {x:α} (h:l[k]?=some x):(l.take (k+1)).any f=((l.take k).any f || f x):=by
 obtain ⟨h1,h2⟩:=List.getElem?_eq_some_iff.1 h;rw [List.take_succ_eq_append_getElem h1,h2,List.any_append]
 simp
set_option maxRecDepth 100000 in
set_option maxHeartbeats 16000000 in
theorem counts_walk {B:Nat} {w:World} {vk vl vi vs:Value} {ks:List Pss} {log:List Int} {is:List Iss} {ss:List Sgt}
  (hE:EnvB B w) (hks:RowOf PssR 4 w vk ks) (hlog:Row w 1 vl log.length (ints log)) (his:RowOf IssR 7 w vi is) (hwf:∀ x∈is,∀ a∈x.attrs,(Lit.int .i64 a).wf=true) (hss:RowOf SgtR 18 w vs ss)
  (hsane:Calls Tryz.prog 7 #[] w fun e w'=>e=.returned (.bool true)∧Kept [] w w') :
  Calls Tryz.prog 4 #[vk,vl,vi,vs] w fun e w'=>e=.returned (.bool true)∧Kept [] w w':=by
 have hfk:=fun (w':World) (k:Kept [] w w')=>fewKeys_any (RowOf.kept (w':=w') hks (fun _ _ h=>PssR.kept h k) k);have hfi:=fun (w':World) (k:Kept [] w w')=>fewIssues_any 12 (by decide) (RowOf.kept (w':=w') his (fun _ _ h=>IssR.kept h k) k);have hfs:=fun (w':World) (k:Kept [] w w')=>fewSights_any 6 (by decide) (RowOf.kept (w':=w') hss (fun _ _ h=>SgtR.kept h k) k);have hks0:=hks;have his0:=his;have hss0:=hss;have hlog0:=hlog;obtain ⟨kka,kkc,rfl,hk63,_⟩:=RowOf.form hks;obtain ⟨ga,gcap,rfl,hl63,_⟩:=hlog.form;obtain ⟨ia,ic,rfl,hi63,hic⟩:=RowOf.form his;obtain ⟨sa,sc,rfl,hs63,hsc⟩:=RowOf.form hss;obtain ⟨b1,hb1⟩:∃ b,fewKeysB ks=b:=⟨_,rfl⟩;obtain ⟨b2,hb2⟩:∃ b,fewIssuesB is 12=b:=⟨_,rfl⟩;obtain ⟨b3,hb3⟩:∃ b,fewSightsB ss 6=b:=⟨_,rfl⟩;rw [hb1] at hfk;rw [hb2] at hfi;rw [hb3] at hfs;obtain ⟨kn,hkn⟩:∃ n,ks.length=n:=⟨_,rfl⟩;obtain ⟨gn,hgn⟩:∃ n,log.length=n:=⟨_,rfl⟩;obtain ⟨iN,hin⟩:∃ n,is.length=n:=⟨_,rfl⟩;obtain ⟨sn,hsn⟩:∃ n,ss.length=n:=⟨_,rfl⟩;rw [hkn] at hfk hks hk63 ⊢;rw [hgn] at hlog hl63 ⊢;rw [hin] at hfi his hi63 hic ⊢;rw [hsn] at hfs hss hs63 hsc ⊢;rw [hkn] at hks0;rw [hin] at his0;rw [hsn] at hss0;have FK:=Lib.hid hfk;have FI:=Lib.hid hfi;have FZ:=Lib.hid hfs;have HKS:=Lib.hid hks;have HIS:=Lib.hid his;have HSS:=Lib.hid hss;have HLOG:=Lib.hid hlog;have HSANE:=Lib.hid hsane;have HE:=Lib.hid hE;have HWF:=Lib.hid hwf;have HB1:=Lib.hid hb1;have HB2:=Lib.hid hb2;have HB3:=Lib.hid hb3;have HKN:=Lib.hid hkn;have HGN:=Lib.hid hgn;have HIN:=Lib.hid hin;have HSN:=Lib.hid hsn;clear hfk hfi hfs hks his hss hlog hsane hE hwf hb1 hb2 hb3 hkn hgn hin hsn hks0 his0 hss0 hlog0
 go_enter Tryz.func4,Tryz.ntmps4
 go_upto_region 2 with (go_at_call 7;refine HSANE.out.mono ?_;rintro e w5 ⟨rfl,k5⟩);have HK5:=Lib.hid k5;clear HSANE k5
 cases b1 with
 | false =>
  go_wp2_with (go_at_call 8;refine (FK.out _ HK5.out).mono ?_;rintro e w6 ⟨rfl,k6⟩);go_ret;exact ⟨rfl,HK5.out.trans k6⟩
 | true =>
 by_cases hg18:18 < gn
 ·have hg18':(18:Int) < (gn:Int):=by omega
  go_wp2_with (go_at_call 8;refine (FK.out _ HK5.out).mono ?_;rintro e w6 ⟨rfl,k6⟩);go_ret;exact ⟨rfl,HK5.out.trans k6⟩
 have hg18':¬ (18:Int) < (gn:Int):=by omega
 cases b2 with
 | false =>
  go_wp2_with (first
   | (go_at_call 8;refine (FK.out _ HK5.out).mono ?_;rintro e w6 ⟨rfl,k6⟩;have k56:=HK5.out.trans k6)
   | (go_at_call 9;refine (FI.out _ k56).mono ?_;rintro e w7 ⟨rfl,k7⟩))
  go_ret;exact ⟨rfl,k56.trans k7⟩
 | true =>
 cases b3 with
 | false =>
  go_wp2_with (first
   | (go_at_call 8;refine (FK.out _ HK5.out).mono ?_;rintro e w6 ⟨rfl,k6⟩;have k56:=HK5.out.trans k6)
   | (go_at_call 9;refine (FI.out _ k56).mono ?_;rintro e w7 ⟨rfl,k7⟩;have k57:=k56.trans k7)
   | (go_at_call 10;refine (FZ.out _ k57).mono ?_;rintro e w8 ⟨rfl,k8⟩))
  go_ret;exact ⟨rfl,k57.trans k8⟩
 | true =>
 go_upto_region 4 with (first
  | (go_at_call 8;refine (FK.out _ HK5.out).mono ?_;rintro e w6 ⟨rfl,k6⟩;have k56:=HK5.out.trans k6)
  | (go_at_call 9;refine (FI.out _ k56).mono ?_;rintro e w7 ⟨rfl,k7⟩;have k57:=k56.trans k7)
  | (go_at_call 10;refine (FZ.out _ k57).mono ?_;rintro e w8 ⟨rfl,k8⟩;have k58:=k57.trans k8))
 have hfk:=few_key HB1.out;have hfi:=few_iss HB2.out;have hfs:=few_sgt HB3.out;have hacc:=account_any (HE.out.kept0 k58) (RowOf.kept (w':=w8) HKS.out (fun _ _ h=>PssR.kept h k58) k58) hfk (by rw [HGN.out];exact HLOG.out.kept k58) (RowOf.kept (w':=w8) HIS.out (fun _ _ h=>IssR.kept h k58) k58) (fun x hx=>⟨HWF.out x hx,by have:=hfi.2 x hx;omega⟩) (RowOf.kept (w':=w8) HSS.out (fun _ _ h=>SgtR.kept h k58) k58) (fun x hx=>by have:=hfs.2 x hx;omega) (by have:=HGN.out;omega) (by have:=hfi.1;omega) (by have:=hfs.1;omega);have HK8:=Lib.hid k58;have HFI:=Lib.hid hfi;clear k56 k57 k58 k6 k7 k8 hfk hfi hfs HB1 HB2 HB3 FK FI FZ HK5
 cases hR:accountB ks log is ss with
 | error c =>
  have hc:=account_err hR;rw [hR] at hacc;have HACC:=Lib.hid hacc;clear hacc hR;go_upto_region 6 with (go_at_call 18;refine HACC.out.mono ?_;rintro e w9 ⟨k9,he⟩;have he:e=.returned (.tuple #[.agg #[.slice none 0 0,.slice none 0 0,.slice none 0 0],.slice none 0 0,.int .i64 c]):=he;subst he);go_wp2_with fail;go_ret;exact ⟨rfl,(HK8.out.trans k9).alloc _⟩
 | ok r =>
  obtain ⟨c,ns⟩:=r;have hct:=counts_law (fun x _=>pred_ex x.q x.most) hR;have hfw:=account_few hR;rw [hR] at hacc;have HACC:=Lib.hid hacc;clear hacc hR;obtain ⟨qs,ms,us⟩:=c;obtain ⟨hc1,hc2,hc3,hc4,hc5,hc6,hc7,hc8⟩:=hct
  (try dsimp only at hc1 hc2 hc4 hc6 hc7 hfw)
  have C1:=Lib.hid hc1;have C2:=Lib.hid hc2;have C3:=Lib.hid hc3;have C4:=Lib.hid hc4;have C5:=Lib.hid hc5;have C6:=Lib.hid hc6;have C7:=Lib.hid hc7;have C8:=Lib.hid hc8;have FW:=Lib.hid hfw;clear hc1 hc2 hc3 hc4 hc5 hc6 hc7 hc8 hfw;go_upto_region 5 with (go_at_call 18;refine HACC.out.mono ?_;rintro e w9 ⟨k9,cs,vn,rfl,⟨vq,vm,vu,rfl,hq,hm,hu⟩,hn⟩;obtain ⟨qa,qc,rfl,hq63,_⟩:=RowOf.form hq;obtain ⟨ma,mc,rfl,_,hmc⟩:=RowOf.form hm;obtain ⟨ua,uc,rfl,_,_⟩:=RowOf.form hu;obtain ⟨na,nc,rfl,hn63,hnc⟩:=hn.form);obtain ⟨nq,hnq⟩:∃ n,qs.length=n:=⟨_,rfl⟩;obtain ⟨nm,hnm⟩:∃ n,ms.length=n:=⟨_,rfl⟩;obtain ⟨nu,hnu⟩:∃ n,us.length=n:=⟨_,rfl⟩;obtain ⟨nn,hnn⟩:∃ n,ns.length=n:=⟨_,rfl⟩
  (try dsimp only at hq hm hu hmc hq63)
  rw [hnq] at hq hq63;rw [hnm] at hm hmc;rw [hnu] at hu;rw [hnn] at hn hnc hn63
  (try dsimp only)
  rw [hnq,hnm,hnu,hnn];obtain ⟨gb,hgb⟩:∃ y,w9.heap.size=y:=⟨_,rfl⟩;obtain ⟨wA,hwA⟩:∃ y,w9.alloc (.cells #[.slice qa nq qc,.slice ma nm mc,.slice ua nu uc] 67)=y:=⟨_,rfl⟩;have kA:Kept [] w9 wA:=hwA▸(Kept.refl _ _).alloc _
  have hbA:Blk wA gb 67 #[.slice qa nq qc,.slice ma nm mc,.slice ua nu uc]:=by rw [←hwA,←hgb];exact Blk.new _ _ _
  rw [hwA,hgb]
  obtain rfl:nu=sn:=by have:=HSN.out;have:=C1.out;omega
  obtain rfl:nn=nm:=by have:=C2.out;omega
  have HQ:=Lib.hid (RowOf.kept (w':=wA) hq (fun _ _ h=>PdR.kept kA h) kA);have HM:=Lib.hid (RowOf.kept (w':=wA) hm (fun _ _ h=>MbR.kept h kA) kA);have HU:=Lib.hid (RowOf.kept (w':=wA) hu (fun _ _ h=>h) kA);have HN:=Lib.hid (hn.kept kA);have HBC:=Lib.hid hbA;have HKA:=Lib.hid ((HK8.out.trans k9).trans kA);have HNQ:=Lib.hid hnq;have HNM:=Lib.hid hnm;have HNU:=Lib.hid hnu;have HNN:=Lib.hid hnn;have c0:∀ w',Kept [] wA w'→w'.cell? ⟨gb,0,none⟩=some (.slice qa nq qc):=Kept.cellOf (hbA.cell 0);have c1:∀ w',Kept [] wA w'→w'.cell? ⟨gb,1,none⟩=some (.slice ma nn mc):=Kept.cellOf (hbA.cell 1);have c2:∀ w',Kept [] wA w'→w'.cell? ⟨gb,2,none⟩=some (.slice ua nu uc):=Kept.cellOf (hbA.cell 2);have C01:=Lib.hid (And.intro c0 (And.intro c1 c2));have d0:=c0 _ (Kept.refl _ _);have d1:=c1 _ (Kept.refl _ _);have d2:=c2 _ (Kept.refl _ _);clear hq hm hu hn hbA kA hwA hgb k9 hnq hnm hnu hnn HACC c0 c1 c2;go_wp2_with fail;clear d0 d1 d2
  go_loopw [13,14] (fun v13 v14 wr=>∃ i:Nat,i≤nn∧v14=.int .i64 i∧v13=.int .i64 ((ms.take i).map fun m=>m.tickets.sum).sum∧Kept [] wA wr) (fun _ v14 _=>nn - (intOf v14).toNat)
  case atStart=>exact ⟨0,Nat.zero_le _,rfl,rfl,Kept.refl _ _⟩
  case round =>
   obtain ⟨i,hi,rfl,rfl,hkr⟩:=hrel;have HKR:=Lib.hid hkr;have d1:=C01.out.2.1 _ hkr;obtain ⟨T,hT⟩:∃ T,((ms.take i).map fun m=>m.tickets.sum).sum=T:=⟨_,rfl⟩;rw [hT];have HT:=Lib.hid hT;clear hT hkr
   by_cases hlt:i < nn
   ·have hlt':(i:Int) < (nn:Int):=by omega
    obtain ⟨b,off,rfl,hc⟩:=HM.out.at_ (by have:=HNM.out;omega);obtain ⟨m,hm⟩:∃ m,ms[i]?=some m:=⟨_,List.getElem?_eq_getElem (by have:=HNM.out;omega)⟩;obtain ⟨cm,p1,p2,p3⟩:=hc i m hm;obtain ⟨vb,vt,rfl,hbd,htk⟩:=p2;obtain ⟨ba,bc,rfl,_,_⟩:=RowOf.form hbd;obtain ⟨ta,tc,rfl,_,htc⟩:=htk.form;have htl:m.tickets.length=ks.length:=C4.out m (List.mem_of_getElem? hm);obtain ⟨tn,htn⟩:∃ n,m.tickets.length=n:=⟨_,rfl⟩;rw [htn] at p3 htk htc
    obtain rfl:tn=kn:=by have:=HKN.out;omega
    have y0:=Kept.cellOf (p3 0 _ (by decide) rfl) _ HKR.out;have y1:=Kept.cellOf (p3 1 _ (by decide) rfl) _ HKR.out;have y2:=Kept.cellOf (p3 2 _ (by decide) rfl) _ HKR.out;simp only [Nat.add_zero,←Nat.add_assoc] at y0 y1 y2;have HTK:=Lib.hid htk;have HTN:=Lib.hid htn;have HM1:=Lib.hid hm;clear hc p1 p3 hbd htk htn hm htl;go_upto_region 14 with (fail);obtain ⟨gm,hgm⟩:∃ y,wr.heap.size=y:=⟨_,rfl⟩;obtain ⟨wB,hwB⟩:∃ y,wr.alloc (.cells #[.slice ba m.binds.length bc,.slice ta tn tc,.int .i64 m.rev] 74)=y:=⟨_,rfl⟩;have kB:Kept [] wr wB:=hwB▸(Kept.refl _ _).alloc _
    have hbB:Blk wB gm 74 #[.slice ba m.binds.length bc,.slice ta tn tc,.int .i64 m.rev]:=by rw [←hwB,←hgm];exact Blk.new _ _ _
    rw [hwB,hgm];have HKB:=Lib.hid (HKR.out.trans kB);have HBM:=Lib.hid hbB;have z1:wB.cell? ⟨gm,1,none⟩=some (.slice ta tn tc):=hbB.cell 1;obtain ⟨nb,no,rfl,hncell⟩:=HN.out.at_ (by omega);obtain ⟨x,hx⟩:∃ x,ns[i]?=some x:=⟨_,List.getElem?_eq_getElem (by have:=HNN.out;omega)⟩;have e1:wB.cell? ⟨nb,no+i,none⟩=some (.int .i64 x):=Kept.cellOf (hncell i _ (by simp [ints,hx])) _ HKB.out;have HX:=Lib.hid hx;clear hbB kB hwB hgm y0 y1 y2 d1 hx
    go_cut [118] (fun v wx=>v=.bool false∧Kept [] wB wx)
    case first =>
     by_cases h0:i=0
     ·subst h0
      go_quiet (fail)
      go_wp2_with fail
      go_meet
      exact ⟨rfl,(Kept.refl _ _).drewN _⟩
     ·have h0':(0:Int) < (i:Int):=by omega
      have h0n:0 < i:=by omega
      obtain ⟨y,hy⟩:∃ y,ns[i - 1]?=some y:=⟨_,List.getElem?_eq_getElem (by have:=HNN.out;omega)⟩;have e0:wB.cell? ⟨nb,no+(i - 1),none⟩=some (.int .i64 y):=Kept.cellOf (hncell (i - 1) _ (by simp [ints,hy])) _ HKB.out
      have hlt2:y < x:=by
       have h1:=List.pairwise_iff_getElem.1 C3.out (i - 1) i (by have:=HNN.out;omega) (by have:=HNN.out;omega) (by omega);have h2:=(List.getElem?_eq_some_iff.1 hy).2;have h3:=(List.getElem?_eq_some_iff.1 HX.out).2;omega
      have hge:decide (x≤y)=false:=by simp;omega
      have hwr:IntKind.i64.wrap ((i:Int) - 1)=((i - 1:Nat):Int):=by rw [IntWalk.i64_left];unfold wrap64;omega
      have hmx:max (((i - 1:Nat):Int)) 0=((i - 1:Nat):Int):=by omega
      have hi1:((i - 1:Nat):Int) < (nn:Int):=by omega
      go_quiet (fail)
      go_wp2_with fail
      go_meet
      exact ⟨rfl,(Kept.refl _ _).drewN _⟩
    case rest =>
    obtain ⟨hv,kx⟩:=hcut;subst hv;have HKC:=Lib.hid (HKB.out.trans kx);have hbc:=HBM.out.kept kx (by simp);have z1':wc.cell? ⟨gm,1,none⟩=some (.slice ta tn tc):=hbc.cell 1;have e1':=Kept.cellOf e1 _ kx;have HZ:=Lib.hid (And.intro z1' e1');clear z1 e1 kx hbc HBM HKB z1' e1' hncell;go_wp2_with fail
    go_loopw [16,17] (fun v16 v17 wi=>∃ k:Nat,k≤iN∧v17=.int .i64 k∧v16=.bool ((is.take k).any fun y=>decide (y.attrs.head?=some x))∧Kept [] wc wi) (fun _ v17 _=>iN - (intOf v17).toNat)
    case atStart=>exact ⟨0,Nat.zero_le _,rfl,by simp,Kept.refl _ _⟩
    case round =>
     obtain ⟨k,hk,rfl,rfl,hki⟩:=hrel;obtain ⟨F,hF⟩:∃ F,((is.take k).any fun y=>decide (y.attrs.head?=some x))=F:=⟨_,rfl⟩;rw [hF];have HF:=Lib.hid hF;have HKI:=Lib.hid hki;clear hF
     by_cases hlk:k < iN
     ·have hlk':(k:Int) < (iN:Int):=by omega
      obtain ⟨ib,io,rfl,hic2⟩:=HIS.out.at_ (by have:=HIN.out;omega);obtain ⟨y,hy⟩:∃ y,is[k]?=some y:=⟨_,List.getElem?_eq_getElem (by have:=HIN.out;omega)⟩;obtain ⟨ci,q1,q2,q3⟩:=hic2 k y hy;obtain ⟨va,o1,o2,o3,o4,o5,rfl,hax⟩:=q2;have kwi:=(HKA.out.trans HKC.out).trans hki;obtain ⟨aa,ac,rfl,_,hac⟩:=hax.form;obtain ⟨an,han⟩:∃ n,y.attrs.length=n:=⟨_,rfl⟩;rw [han] at hax q3 hac;have y1:=Kept.cellOf (q3 1 _ (by decide) rfl) _ kwi;simp only [←Nat.add_assoc] at y1;have e1':=Kept.cellOf HZ.out.2 _ hki;have htk:=any_take (f:=fun y:Iss=>decide (y.attrs.head?=some x)) hy;rw [HF.out] at htk;have HTK2:=Lib.hid htk;clear hic2 q1 q3 htk;go_upto_region 20 with (fail)
      cases F with
      | true =>
       go_quiet (fail)
       go_wp2_with fail
       go_roundw
       case rel=>exact ⟨k+1,by omega,by go_num,by rw [HTK2.out];simp,HKI.out.drewN _⟩
       case measure=>simp [intOf];omega
      | false =>
       cases hat:y.attrs with
       | nil =>
        have ha0:an=0:=by rw [←han,hat];rfl
        subst ha0;clear han
        go_quiet (fail)
        go_wp2_with fail
        go_roundw
        case rel=>exact ⟨k+1,by omega,by go_num,by rw [HTK2.out];simp [hat],HKI.out.drewN _⟩
        case measure=>simp [intOf];omega
       | cons a0 rest =>
        have ha0:0 < an:=by rw [←han,hat];simp
        have ha0':(0:Int) < (an:Int):=by omega
        obtain ⟨ab,ao,rfl,hacell⟩:=hax.at_ ha0;have y2:wr.cell? ⟨ab,ao,none⟩=some (.int .i64 a0):=Kept.cellOf (hacell 0 _ (by rw [hat];rfl)) _ kwi;clear han
        by_cases hxa:a0=x
        ·subst hxa
         go_quiet (fail)
         go_wp2_with fail
         go_roundw
         case rel=>exact ⟨k+1,by omega,by go_num,by rw [HTK2.out];simp [hat],HKI.out.drewN _⟩
         case measure=>simp [intOf];omega
        ·have hne:(a0==x)=false:=by simpa using hxa
         go_quiet (fail)
         go_wp2_with fail
         go_roundw
         case rel=>exact ⟨k+1,by omega,by go_num,by rw [HTK2.out];simp [hat,hxa],HKI.out.drewN _⟩
         case measure=>simp [intOf];omega
     ·obtain rfl:k=iN:=by omega
      have hFt:F=true:=by
       rw [←HF.out,List.take_of_length_le (by have:=HIN.out;omega)];obtain ⟨y,hy,hh⟩:=C5.out x (List.mem_of_getElem? HX.out);exact List.any_eq_true.2 ⟨y,hy,by simp [hh]⟩
      subst hFt;have z1:=Kept.cellOf HZ.out.1 _ hki;have HKI2:=Lib.hid (HKC.out.trans hki);obtain ⟨wj,hwj⟩:∃ y,wr=y:=⟨_,rfl⟩;rw [hwj] at z1 HKI2 ⊢;have hz1:∀ w',Kept [] wj w'→w'.cell? ⟨gm,1,none⟩=some (.slice ta tn tc):=Kept.cellOf z1;have HZ1:=Lib.hid hz1;have hTb:=mems_sum C8.out i
      dsimp only at hTb
      rw [HT.out] at hTb;have hmb:=fun k=>mem_sum ((crowd_mems C8.out).2 m (List.mem_of_getElem? HM1.out)) k;have HMB:=Lib.hid hmb;clear hz1 hwj hki hmb HKI;go_wp2_with fail;clear z1
      go_loopw [13,18] (fun v13 v18 wt=>∃ k:Nat,k≤tn∧v18=.int .i64 k∧v13=.int .i64 (T+(m.tickets.take k).sum)∧Kept [] wj wt) (fun _ v18 _=>tn - (intOf v18).toNat)
      case atStart=>exact ⟨0,Nat.zero_le _,rfl,by simp,Kept.refl _ _⟩
      case round =>
       obtain ⟨k,hk,rfl,rfl,hkt⟩:=hrel;have z1:=HZ1.out _ hkt;obtain ⟨S,hS⟩:∃ S,(m.tickets.take k).sum=S:=⟨_,rfl⟩;have hSb:=HMB.out k;rw [hS] at hSb ⊢;have HS:=Lib.hid hS;have HKT:=Lib.hid hkt;clear hS
       by_cases hlk:k < tn
       ·have hlk':(k:Int) < (tn:Int):=by omega
        obtain ⟨tb,tf,rfl,htcell⟩:=HTK.out.at_ (by omega);obtain ⟨t,ht⟩:∃ t,m.tickets[k]?=some t:=⟨_,List.getElem?_eq_getElem (by have:=HTN.out;omega)⟩;have y0:wr.cell? ⟨tb,tf+k,none⟩=some (.int .i64 t):=Kept.cellOf (htcell k _ (by simp [ints,ht])) _ (HKI2.out.trans hkt)
        have hnext:(m.tickets.take (k+1)).sum=S+t:=by
         rw [List.take_succ_eq_append_getElem (List.getElem?_eq_some_iff.1 ht).1,(List.getElem?_eq_some_iff.1 ht).2,List.sum_append,HS.out]
         simp
        have hSn:=HMB.out (k+1);rw [hnext] at hSn
        have hadd:IntKind.i64.wrap (T+S+t)=T+(S+t):=by rw [IntWalk.i64_left];unfold wrap64;omega
        have HNX:=Lib.hid hnext;clear htcell ht hnext hkt;go_wp2_with fail
        go_roundw
        case rel=>exact ⟨k+1,by omega,by go_num,by rw [HNX.out],HKT.out⟩
        case measure=>simp [intOf];omega
       ·obtain rfl:k=tn:=by omega
        have hnext:((ms.take (i+1)).map fun m=>m.tickets.sum).sum=T+S:=by
         rw [List.take_succ_eq_append_getElem (List.getElem?_eq_some_iff.1 HM1.out).1,(List.getElem?_eq_some_iff.1 HM1.out).2,List.map_append,List.sum_append,HT.out];have h2:=HS.out;rw [List.take_of_length_le (by have:=HTN.out;omega)] at h2
         simp [h2]
        have HNX:=Lib.hid hnext;clear hnext hkt;go_wp2_with fail
        go_roundw
        case rel=>exact ⟨i+1,by omega,by go_num,by rw [HNX.out],HKI2.out.trans HKT.out⟩
        case measure=>simp [intOf];omega
   ·obtain rfl:i=nn:=by omega
    have hTf:T=(iN:Int):=by
     rw [←HT.out,List.take_of_length_le (by have:=HNM.out;omega),C6.out,HIN.out]
    subst hTf;obtain ⟨wF,hwF⟩:∃ y,wr=y:=⟨_,rfl⟩;have d0:=C01.out.1 _ HKR.out;have d2:=C01.out.2.2 _ HKR.out;rw [hwF] at d0 d1 d2 HKR ⊢;have D0:=Lib.hid (Kept.cellOf d0);have D1:=Lib.hid (Kept.cellOf d1);have D2:=Lib.hid (Kept.cellOf d2);clear hwF;go_wp2_with fail;clear d0 d1 d2
    go_loopw [19] (fun v wx=>∃ k:Nat,k≤nq∧v=.int .i64 k∧Kept [] wF wx) (fun v _=>nq - (intOf v).toNat)
    case atStart=>exact ⟨0,Nat.zero_le _,rfl,Kept.refl _ _⟩
    case round =>
     obtain ⟨k,hk,rfl,hkx⟩:=hrel;have d0:=D0.out _ hkx;have HKX:=Lib.hid hkx
     by_cases hlk:k < nq
     ·have hlk':(k:Int) < (nq:Int):=by omega
      obtain ⟨wX,hwX⟩:∃ y,wr=y:=⟨_,rfl⟩;rw [hwX] at d0 HKX ⊢;clear hwX hkx;go_wp2_with fail;clear d0
      go_loopw [20] (fun v wy=>∃ l:Nat,l≤k∧v=.int .i64 l∧Kept [] wX wy) (fun v _=>k - (intOf v).toNat)
      case atStart=>exact ⟨0,Nat.zero_le _,rfl,Kept.refl _ _⟩
      case round =>
       obtain ⟨l,hl,rfl,hky⟩:=hrel;have HKY:=Lib.hid hky
       by_cases hlt2:l < k
       ·have hlt2':(l:Int) < (k:Int):=by omega
        have hlq':(l:Int) < (nq:Int):=by omega
        have kAy:=(HKR.out.trans HKX.out).trans hky;obtain ⟨qb,qo,rfl,hqc⟩:=(RowOf.kept (w':=wr) HQ.out (fun _ _ h=>PdR.kept kAy h) kAy).at_ (by have:=HNQ.out;omega);obtain ⟨p,hp⟩:∃ p,qs[k]?=some p:=⟨_,List.getElem?_eq_getElem (by have:=HNQ.out;omega)⟩;obtain ⟨r,hr⟩:∃ p,qs[l]?=some p:=⟨_,List.getElem?_eq_getElem (by have:=HNQ.out;omega)⟩;obtain ⟨cp,a1,a2,a3⟩:=hqc k p hp;obtain ⟨cr,b1',b2',b3'⟩:=hqc l r hr
        have hne:sameB p r=false:=by
         have h1:=List.pairwise_iff_getElem.1 C7.out l k (by have:=HNQ.out;omega) (by have:=HNQ.out;omega) hlt2;rw [(List.getElem?_eq_some_iff.1 hp).2,(List.getElem?_eq_some_iff.1 hr).2] at h1
         cases h2:sameB p r with
         | false=>rfl
         | true=>exact absurd ((same_iff _ _).1 h2).symm h1
        have hsame:=fun (w':World) (k':Kept [] wr w')=>sameRef_any (sizeB p) p r cp cr w' (Nat.le_refl _) (PdR.kept k' a2) (PdR.kept k' b2');rw [hne] at hsame;have d0:=fun w' (k':Kept [] wr w')=>D0.out w' ((HKX.out.trans hky).trans k');obtain ⟨pk,pl,pr,pc,pks⟩:=p;obtain ⟨rk,rl,rr,rc,rks⟩:=r;obtain ⟨pa,pcc,rfl,_⟩:=a2.rows;obtain ⟨ra,rcc,rfl,_⟩:=b2'.rows;have y0:∀ w',Kept [] wr w'→w'.cell? ⟨qb,qo+k*5,none⟩=some (.int .i64 pk):=Kept.cellOf (a3 0 _ (by decide) rfl);have y1:∀ w',Kept [] wr w'→w'.cell? ⟨qb,qo+k*5+1,none⟩=some (.string ⟨pl.toArray⟩):=Kept.cellOf (a3 1 _ (by decide) rfl);have y2:∀ w',Kept [] wr w'→w'.cell? ⟨qb,qo+k*5+2,none⟩=some (.string ⟨pr.toArray⟩):=Kept.cellOf (a3 2 _ (by decide) rfl);have y3:∀ w',Kept [] wr w'→w'.cell? ⟨qb,qo+k*5+3,none⟩=some (.int .i64 pc):=Kept.cellOf (a3 3 _ (by decide) rfl);have y4:∀ w',Kept [] wr w'→w'.cell? ⟨qb,qo+k*5+4,none⟩=some (.slice pa pks.length pcc):=Kept.cellOf (a3 4 _ (by decide) rfl);have z0:∀ w',Kept [] wr w'→w'.cell? ⟨qb,qo+l*5,none⟩=some (.int .i64 rk):=Kept.cellOf (b3' 0 _ (by decide) rfl);have z1:∀ w',Kept [] wr w'→w'.cell? ⟨qb,qo+l*5+1,none⟩=some (.string ⟨rl.toArray⟩):=Kept.cellOf (b3' 1 _ (by decide) rfl);have z2:∀ w',Kept [] wr w'→w'.cell? ⟨qb,qo+l*5+2,none⟩=some (.string ⟨rr.toArray⟩):=Kept.cellOf (b3' 2 _ (by decide) rfl);have z3:∀ w',Kept [] wr w'→w'.cell? ⟨qb,qo+l*5+3,none⟩=some (.int .i64 rc):=Kept.cellOf (b3' 3 _ (by decide) rfl);have z4:∀ w',Kept [] wr w'→w'.cell? ⟨qb,qo+l*5+4,none⟩=some (.slice ra rks.length rcc):=Kept.cellOf (b3' 4 _ (by decide) rfl)
        have HSAME:=Lib.hid hsame;clear hqc a1 a3 b1' b3' hp hr hne hsame kAy a2 b2' hky;go_upto_region 33 with (fail);refine wp_region_T [] (fun w'=>Kept [] wr w') (by kernel_rfl) (Kept.refl _ _).drew (fun hH=>?_);refine takeT [] (i:=0) (v:=?tv0p) rfl (by kernel_rfl) (by kernel_rfl) (by kernel_rfl) (by kernel_rfl) (fun _ _ _ h=>h) (Or.inl ⟨by rfl,?ty0p⟩) hH ?tr0p
        case ty0p=>intro w' hSw;(try dsimp only at hSw);go_simp;first|done|with_reducible rfl
        (try simp only [Act.put,List.setIfInBounds_toArray,List.set_cons_zero,List.set_cons_succ])
        refine takeT [] (i:=1) (v:=?tv1p) rfl (by kernel_rfl) (by kernel_rfl) (by kernel_rfl) (by kernel_rfl) (fun _ _ _ h=>h) (Or.inl ⟨by rfl,?ty1p⟩) hH ?tr1p
        case ty1p=>intro w' hSw;(try dsimp only at hSw);go_simp;first|done|with_reducible rfl
        (try simp only [Act.put,List.setIfInBounds_toArray,List.set_cons_zero,List.set_cons_succ])
        refine takeT [] (i:=2) (v:=?tv2p) rfl (by kernel_rfl) (by kernel_rfl) (by kernel_rfl) (by kernel_rfl) (fun _ _ _ h=>h) (Or.inl ⟨by rfl,?ty2p⟩) hH ?tr2p
        case ty2p=>intro w' hSw;(try dsimp only at hSw);go_simp;first|done|with_reducible rfl
        (try simp only [Act.put,List.setIfInBounds_toArray,List.set_cons_zero,List.set_cons_succ])
        refine takeT [] (i:=3) (v:=?tv3p) rfl (by kernel_rfl) (by kernel_rfl) (by kernel_rfl) (by kernel_rfl) (fun _ _ _ h=>h) (Or.inl ⟨by rfl,?ty3p⟩) hH ?tr3p
        case ty3p=>intro w' hSw;(try dsimp only at hSw);go_simp;first|done|with_reducible rfl
        (try simp only [Act.put,List.setIfInBounds_toArray,List.set_cons_zero,List.set_cons_succ])
        refine takeT [] (i:=4) (v:=?tv4p) rfl (by kernel_rfl) (by kernel_rfl) (by kernel_rfl) (by kernel_rfl) (fun _ _ _ h=>h) (Or.inl ⟨by rfl,?ty4p⟩) hH ?tr4p
        case ty4p=>intro w' hSw;(try dsimp only at hSw);go_simp;first|done|with_reducible rfl
        (try simp only [Act.put,List.setIfInBounds_toArray,List.set_cons_zero,List.set_cons_succ])
        refine takeT [] (i:=5) (v:=?tv5p) rfl (by kernel_rfl) (by kernel_rfl) (by kernel_rfl) (by kernel_rfl) (fun _ _ _ h=>h) (Or.inl ⟨by rfl,?ty5p⟩) hH ?tr5p
        case ty5p=>intro w' hSw;(try dsimp only at hSw);go_simp;first|done|with_reducible rfl
        (try simp only [Act.put,List.setIfInBounds_toArray,List.set_cons_zero,List.set_cons_succ])
        refine takeT [] (i:=6) (v:=?tv6p) rfl (by kernel_rfl) (by kernel_rfl) (by kernel_rfl) (by kernel_rfl) (fun _ _ _ h=>h) (Or.inl ⟨by rfl,?ty6p⟩) hH ?tr6p
        case ty6p=>intro w' hSw;(try dsimp only at hSw);go_simp;first|done|with_reducible rfl
        (try simp only [Act.put,List.setIfInBounds_toArray,List.set_cons_zero,List.set_cons_succ])
        refine takeT [] (i:=7) (v:=?tv7p) rfl (by kernel_rfl) (by kernel_rfl) (by kernel_rfl) (by kernel_rfl) (fun _ _ _ h=>h) (Or.inl ⟨by rfl,?ty7p⟩) hH ?tr7p
        case ty7p=>intro w' hSw;(try dsimp only at hSw);go_simp;first|done|with_reducible rfl
        (try simp only [Act.put,List.setIfInBounds_toArray,List.set_cons_zero,List.set_cons_succ])
        refine takeT [] (i:=8) (v:=?tv8p) rfl (by kernel_rfl) (by kernel_rfl) (by kernel_rfl) (by kernel_rfl) (fun _ _ _ h=>h) (Or.inl ⟨by rfl,?ty8p⟩) hH ?tr8p
        case ty8p=>intro w' hSw;(try dsimp only at hSw);go_simp;first|done|with_reducible rfl
        (try simp only [Act.put,List.setIfInBounds_toArray,List.set_cons_zero,List.set_cons_succ])
        refine takeT [] (i:=9) (v:=?tv9p) rfl (by kernel_rfl) (by kernel_rfl) (by kernel_rfl) (by kernel_rfl) (fun _ _ _ h=>h) (Or.inl ⟨by rfl,?ty9p⟩) hH ?tr9p
        case ty9p=>intro w' hSw;(try dsimp only at hSw);go_simp;first|done|with_reducible rfl
        (try simp only [Act.put,List.setIfInBounds_toArray,List.set_cons_zero,List.set_cons_succ])
        refine wpAnyT_ready (rs:=[10]) (by kernel_rfl) (by simp) ?_;refine AllReadyT.cons rfl (fun K hK=>?_) AllReadyT.nil;go_simp;refine (HSAME.out _ hH).mono ?_;rintro e w6 ⟨rfl,k6⟩;have hS6:=hH.trans k6;refine hK.out _ _ hS6 (fun hH=>?_);clear hK K
        (try simp only [Act.put,List.setIfInBounds_toArray,List.set_cons_zero,List.set_cons_succ])
        refine wpAnyT_done (by kernel_rfl) ?_ _;go_wp2_with fail
        go_roundw
        case rel=>exact ⟨l+1,by omega,by go_num,HKY.out.trans hS6⟩
        case measure=>simp [intOf];omega
       ·obtain rfl:l=k:=by omega
        clear hky;go_wp2_with fail
        go_roundw
        case rel=>exact ⟨l+1,by omega,by go_num,HKX.out.trans HKY.out⟩
        case measure=>simp [intOf];omega
     ·obtain rfl:k=nq:=by omega
      have d1:=D1.out _ hkx;have d2:=D2.out _ hkx;have kAz:=HKR.out.trans hkx;have hval:=validCrowd_any (w:=wr) (c:=⟨qs,ms,us⟩) (cs:=[.slice qa k qc,.slice ma i mc,.slice ua nu uc]) ⟨_,_,_,rfl,RowOf.kept (w':=wr) HQ.out (fun _ _ h=>PdR.kept kAz h) kAz,RowOf.kept (w':=wr) HM.out (fun _ _ h=>MbR.kept h kAz) kAz,RowOf.kept (w':=wr) HU.out (fun _ _ h=>h) kAz⟩ (fun p hp=>formed_short p (crowd_qs C8.out p hp)) (fun m hm=>⟨fun b hb=>by have:=validName_len ((FW.out m hm).1 b hb);omega,by have:=(FW.out m hm).2;have:=HFI.out.1;have:=HIN.out;omega⟩) (by have:=crowd_lens C8.out;exact Nat.le_trans this.1 (by decide)) (by have:=crowd_lens C8.out;exact Nat.le_trans this.2.1 (by decide)) (by have:=crowd_lens C8.out;exact Nat.le_trans this.2.2 (by decide)) (HE.out.kept0 (HKA.out.trans kAz));rw [C8.out] at hval;have HVAL:=Lib.hid hval;have HKZ:=Lib.hid kAz;clear hval kAz hkx;go_wp2_with (go_at_call 22;refine HVAL.out.mono ?_;rintro e wZ ⟨rfl,kZ⟩);go_ret;exact ⟨rfl,(HKA.out.trans HKZ.out).trans kZ⟩
end Go.Proofs.YtpcmamoomaddoaaGreatDoor
namespace Go.Proofs.YtpcmamoomaddoaaGreatDoor
open Go.RowKit
def qSan:Bs:=[113,117,101,115,116,105,111,110,32,113,32,123,32,105,100,46,97,103,101,32,62,61,32,49,56,32,125]
def ageB:Bs:=[105,100,46,97,103,101]
def leafSan:Pd:=.node 0 [] ageB (-18) []
def predSan:Pd:=.node 1 [] [] 0 [leafSan,.node 0 ageB [] 100 []]
set_option maxRecDepth 100000 in
theorem parsed_san:parsedQ qSan=(leafSan,0):=by kernel_rfl
theorem valid_san:validB predSan=true:=by kernel_rfl
theorem atoms_san:atomsB leafSan=[([],ageB,-18)]:=by kernel_rfl
theorem pred_san:PredOf qSan 100 (.ok predSan):=by
 unfold PredOf
 rw [parsed_san,if_neg (by decide),if_neg (by decide)];refine ⟨[ageB],?_,?_⟩
 ·rw [atoms_san];refine ⟨by simp,by simp,fun s=>?_⟩;simp only [namesK,List.flatMap_cons,List.flatMap_nil,List.append_nil,List.mem_cons,List.not_mem_nil,or_false]
  constructor
  ·rintro rfl;exact ⟨by decide,Or.inr rfl⟩
  ·rintro ⟨h1,h2|h2⟩
   ·exact absurd h2 h1
   ·exact h2
 ·unfold predN
  rw [if_neg (by simp)]
  show Except.ok predSan=if validB predSan=true then .ok predSan else .error 6
  rw [if_pos valid_san]
def keySan:Pss:=⟨[105,100],4,[[97,103,101]],[]⟩
def issSan (n v:Int):Iss:=⟨0,[n,v]⟩
def sgtSan:Sgt:=⟨qSan,100,[keySan],[],[],0⟩
theorem vals_san1:valsB keySan [9,20]=.ok [(ageB,20)]:=by kernel_rfl
theorem vals_san2:valsB keySan [9]=.error 1:=by kernel_rfl
theorem keys_san:keysB [keySan]=true:=by kernel_rfl
theorem log_san:logB []=true:=by kernel_rfl
theorem people_san:foldE (addB [keySan]) [] [issSan 9 20,issSan 4 17,issSan 9 20]=.ok [⟨4,[(ageB,17)],[1]⟩,⟨9,[(ageB,20)],[2]⟩]:=by kernel_rfl
theorem acc_san:accountB [keySan] [] [issSan 9 20,issSan 4 17,issSan 9 20] [sgtSan]=.ok (⟨[predSan],[⟨[(ageB,17)],[1],-1⟩,⟨[(ageB,20)],[2],-1⟩],[⟨0,0,0,-1⟩]⟩,[4,9]):=by
 unfold accountB
 rw [keys_san,log_san,if_neg (by simp),people_san]
 have hn:numsB [⟨4,[(ageB,17)],[1]⟩,⟨9,[(ageB,20)],[2]⟩]=[4,9]:=by simp [numsB,List.mergeSort]
 have hs:sightB [keySan] [] [4,9] ([],[]) sgtSan=.ok ([predSan],[⟨0,0,0,-1⟩]):=by
  unfold sightB
  rw [show predF sgtSan.q sgtSan.most=.ok predSan from pred_san.eq]
  kernel_rfl
 have hm:membersB [] [⟨4,[(ageB,17)],[1]⟩,⟨9,[(ageB,20)],[2]⟩]=[⟨[(ageB,17)],[1],-1⟩,⟨[(ageB,20)],[2],-1⟩]:=by
  unfold membersB
  rw [hn]
  have h1:memOf [] [⟨4,[(ageB,17)],[1]⟩,⟨9,[(ageB,20)],[2]⟩] 4=⟨[(ageB,17)],[1],-1⟩:=by
   unfold memOf
   rw [show czOf 0 [⟨4,[(ageB,17)],[1]⟩,⟨9,[(ageB,20)],[2]⟩] 4=⟨4,[(ageB,17)],[1]⟩ from rfl]
   simp [bindsS]
   rfl
  have h2:memOf [] [⟨4,[(ageB,17)],[1]⟩,⟨9,[(ageB,20)],[2]⟩] 9=⟨[(ageB,20)],[2],-1⟩:=by
   unfold memOf
   rw [show czOf 0 [⟨4,[(ageB,17)],[1]⟩,⟨9,[(ageB,20)],[2]⟩] 9=⟨9,[(ageB,20)],[2]⟩ from rfl]
   simp [bindsS]
   rfl
  rw [List.map_cons,List.map_cons,List.map_nil,h1,h2]
 simp only [hn,hm];rw [foldE,hs]
 rfl
end Go.Proofs.YtpcmamoomaddoaaGreatDoor
