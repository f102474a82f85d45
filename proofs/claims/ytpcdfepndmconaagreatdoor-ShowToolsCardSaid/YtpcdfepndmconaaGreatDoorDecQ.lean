/- A record is read: the walk of the reference's Decode. -/
import Derived.Test.YtpcdfepndmconaaGreatDoorQeL
namespace Go.Proofs.YtpcdfepndmconaaGreatDoor
open Go.RowKit Tape
set_option maxRecDepth 100000 in
set_option maxHeartbeats 32000000 in
theorem rdec_any (s:List UInt8) (w:World) (hE:Env w) (hs:s.length≤100000000) :
  Calls Tryz.prog 46 #[.string ⟨s.toArray⟩] w (DecRet (readR s) w):=by
 obtain ⟨ts,rd1,hts⟩:∃ ts rd,Wire.texts ⟨s,false⟩=(ts,rd):=⟨_,_,rfl⟩;obtain ⟨ns,rd2,hns⟩:∃ ns rd,Wire.nums rd1=(ns,rd):=⟨_,_,rfl⟩;obtain ⟨tx,rd3,htx⟩:∃ tx rd,Wire.text rd2=(tx,rd):=⟨_,_,rfl⟩;obtain ⟨p,ok,hpf⟩:∃ p ok,readPf tx=(p,ok):=⟨_,_,rfl⟩;have HEQ:=Lib.hid (readR_eq hts hns htx hpf);have fit0:Fits ⟨s,false⟩:=hs;have fit1:Fits rd1:=fits_texts' hts fit0;have fit2:Fits rd2:=fits_nums' hns fit1
 have ok1:Hid (Wire.Ok rd1):=by have:=ok_texts ⟨s,false⟩ (Wire.ok_fresh s);rw [hts] at this;exact this
 have ok2:Hid (Wire.Ok rd2):=by have:=Wire.ok_nums rd1 ok1.out;rw [hns] at this;exact this
 have hnl:ns.length≤100000001:=by have:=nums_len rd1 fit1;rw [hns] at this;exact this
 have htl:tx.length≤100000000:=by have:=(fits_text fit2).2;rw [htx] at this;exact this
 obtain ⟨W,hW⟩:∃ W,w.alloc (.cells zeros9 67)=W:=⟨_,rfl⟩;have hbW:Blk W w.heap.size 67 zeros9:=hW▸Blk.new _ _ _;have hkW:Kept [] w W:=hW▸(Kept.refl _ _).alloc _
 have hwW:w.heap.size < W.heap.size:=by rw [←hW];simp
 have hw0:0 < w.heap.size:=by have:=hE.size;have:0 < NG:=(by decide);omega
 have HEW:=Lib.hid (hE.kept0 hkW);have HO:=Lib.hid (rr_open s W HEW.out);have HW:=Lib.hid hW;have HTS:=Lib.hid hts;have HNS:=Lib.hid hns;have HTX:=Lib.hid htx;have HPF:=Lib.hid hpf;clear hts hns htx hpf hW hE
 go_enter Tryz.func46,Tryz.ntmps46
 go_upto_region 1 with (fail);rw [show w.alloc (.cells #[.slice none 0 0,.slice none 0 0,.slice none 0 0,.slice none 0 0,.slice none 0 0,.slice none 0 0,.slice none 0 0,.slice none 0 0,.slice none 0 0] 67)=W from HW.out];go_wp2_with (go_at_call 64;refine HO.out.mono ?_)
 first|rintro e w1 rfl h1 k1|rintro e w1 ⟨rfl,h1,k1⟩
 have E1:=Lib.hid (HEW.out.kept0 k1);have HT:=Lib.hid (rr_textsP W.heap.size ⟨s,false⟩ HTS.out w1 h1 (Wire.ok_fresh s) fit0);have K1:=Lib.hid (hkW.trans k1);have hs1:=k1.size;have h1l:=h1.2.lt;have B1:=Lib.hid (hbW.kept k1 (by simp));obtain ⟨rb,hrb⟩:∃ rb,W.heap.size=rb:=⟨_,rfl⟩;rw [hrb] at HT hs1 h1l hwW ⊢;clear h1 k1 HO hbW HEW HTS hkW HW hrb;go_upto_region 2 with (fail);go_wp2_with (go_at_call 121;refine HT.out.mono ?_);rintro e w2 ⟨at_,ct,rfl,ownT,h2,k2⟩;have E2:=Lib.hid (E1.out.kept k2 (by intro z hz;rw [List.mem_singleton] at hz;subst hz;exact h2.1));have HN:=Lib.hid (rr_numsP rb rd1 HNS.out w2 h2 ok1.out fit1);have K2:=Lib.hid (K1.out.fresh k2 (by simp;omega));have B2:=Lib.hid (B1.out.kept k2 (by simp;omega));have hs2:=k2.size;have OT2:=Lib.hid ownT;have htl2:ts.length≤9223372036854775807:=own_max ownT (by decide);clear h2 k2 HT K1 B1 E1 HNS ownT;go_upto_region 3 with (fail);go_wp2_with (go_at_call 65;refine HN.out.mono ?_);rintro e w3 ⟨av,cv,rfl,ownN,h3,k3⟩;have E3:=Lib.hid (E2.out.kept k3 (by intro z hz;rw [List.mem_singleton] at hz;subst hz;exact h3.1));have K3:=Lib.hid (K2.out.fresh k3 (by simp;omega));have B3:=Lib.hid (B2.out.kept k3 (by simp;omega));have hs3:=k3.size;have OT3:=Lib.hid (own_keep OT2.out k3 (fun z hz hm=>by have:=own_ge OT2.out z hz;rw [List.mem_singleton] at hm;omega));have HT2:=Lib.hid (own_ge OT2.out);obtain ⟨g,hsrc,hg⟩:=Src.of_own ownN (by omega);have hg3:g=0∨w2.heap.size≤g∧g < w3.heap.size:=hg;have HS3:=Lib.hid hsrc;have H3:=Lib.hid h3;clear h3 k3 HN K2 B2 E2 OT2 ownN hsrc hg
 go_upto_region 4 with (fail);obtain ⟨w4,hw4⟩:∃ w4,w3.alloc (.cells #[.slice av ns.length cv,.int .i64 0,.bool false] 152)=w4:=⟨_,rfl⟩;have k34:Kept [] w3 w4:=hw4▸(Kept.refl _ _).alloc _
 have hs4:w3.heap.size < w4.heap.size:=by rw [←hw4];simp
 have T4:Hid (RwAt 152 w4 w3.heap.size g ⟨ns,false⟩):=⟨⟨av,cv,ns,0,hw4▸Blk.new _ _ _,HS3.out.keep k34 (by simp),Nat.zero_le _,hnl,fun _=>rfl,(by intro h;cases h)⟩,by omega⟩;have K4:=Lib.hid (K3.out.trans k34);have B4:=Lib.hid (B3.out.kept k34 (by simp));have E4:=Lib.hid (E3.out.kept0 k34);have OT4:=Lib.hid (own_keep OT3.out k34 (by simp));have h4:RrAt w4 rb rd2:=⟨H3.out.1,H3.out.2.kept k34 (by simp)⟩;have HX:Hid (Calls Tryz.prog 66 #[.pointer (some ⟨rb,0,none⟩)] w4 (RTextP rb tx rd3 w4)):=rr_textP rb rd2 HTX.out w4 h4 ok2.out fit2;rw [hw4];obtain ⟨b,hb⟩:∃ b,w3.heap.size=b:=⟨_,rfl⟩;rw [hb] at T4 hs4 hg3 hs3 ⊢;clear hw4 k34 K3 B3 E3 OT3 h4 H3 HS3 HTX hb;go_wp2_with (go_at_call 66;refine HX.out.mono ?_);rintro e w5 ⟨rfl,h5,k5⟩;have E5:=Lib.hid (E4.out.kept k5 (by intro z hz;rw [List.mem_singleton] at hz;subst hz;exact h5.1));have K5:=Lib.hid (K4.out.fresh k5 (by simp;omega));have B5:=Lib.hid (B4.out.kept k5 (by simp;omega));have T5:=Lib.hid (T4.out.keep k5 (by simp;omega) (by simp;omega));have OT5:=Lib.hid (own_keep OT4.out k5 (fun z hz hm=>by have:=own_ge OT4.out z hz;rw [List.mem_singleton] at hm;omega));have hs5:=k5.size
 have HP:Hid (Calls Tryz.prog 122 #[.string ⟨tx.toArray⟩] w5 (PfDP (p,ok) w5)):=by have:=rpfDec_any tx w5 E5.out htl;rwa [HPF.out] at this
 have H5:=Lib.hid h5;clear h5 k5 HX K4 B4 E4 OT4 T4 HPF;go_wp2_with (go_at_call 122;refine HP.out.mono ?_);rintro e w6 ⟨ad,cd,aa,ca,rfl,hda,han,k6⟩;obtain ⟨w7,hw7⟩:∃ w7,w6.alloc (.cells #[.slice ad p.dares.length cd,.slice aa p.answers.length ca] 65)=w7:=⟨_,rfl⟩;have k67:Kept [] w6 w7:=hw7▸(Kept.refl _ _).alloc _
 have hs7:w6.heap.size < w7.heap.size:=by rw [←hw7];simp
 have BP7:Hid (Blk w7 w6.heap.size 65 #[.slice ad p.dares.length cd,.slice aa p.answers.length ca]):=hw7▸Blk.new _ _ _;have hs6:=k6.size;have K7:=Lib.hid (K5.out.trans (k6.trans k67));have B7:=Lib.hid (B5.out.kept (k6.trans k67) (by simp));have T7:=Lib.hid (T5.out.keep (k6.trans k67) (by simp) (by simp));have OT7:=Lib.hid (own_keep OT5.out (k6.trans k67) (by simp));have HDA:=Lib.hid hda;have HAN:=Lib.hid han;have HD:Hid (Calls Tryz.prog 68 #[.pointer (some ⟨rb,0,none⟩)] w7 (BoolP (done rd3) w7)):=rr_done rb rd3 w7 ⟨H5.out.1,H5.out.2.kept (k6.trans k67) (by simp)⟩;have hK67:=Lib.hid k67;go_upto_region 5 with (fail);obtain ⟨pb,hpb⟩:∃ pb,w6.heap.size=pb:=⟨_,rfl⟩;rw [hpb] at BP7 hs7 hs6 ⊢;have hpb6:=Lib.hid hpb;clear hda han k67 hw7 k6 K5 B5 T5 OT5 H5 E5 HP hpb;obtain ⟨dn,hdn⟩:∃ dn,done rd3=dn:=⟨_,rfl⟩;rw [hdn] at HD;have hjr:Hid (readR s=joinR ts ns rd3 (p,ok)):=HEQ.out
 have hfail:Hid ((dn&&ok)=false→readR s=(zeroR,false)):=fun h=>by
  rw [hjr.out];unfold joinR;rw [if_neg (by rw [hdn];simp only [Bool.and_eq_true];intro h2;rw [h2.1.1.1,h2.1.1.2] at h;cases h)]
 have hgo:Hid (dn=true→ok=true→readR s=if ended (nums7 ⟨ns,false⟩).2&&decide (total (nums7 ⟨ns,false⟩).1.2.2.1=ts.length) then (mkR (nums7 ⟨ns,false⟩).1 ts p,true) else (zeroR,false)):=fun h1 h2=>by
  rw [hjr.out];unfold joinR;rw [hdn,h1,h2];simp only [Bool.true_and]
 clear hdn HEQ hjr;go_wp2_with (go_at_call 68;refine HD.out.mono ?_);rintro e w8 ⟨rfl,k8⟩;have B8:=Lib.hid (B7.out.kept k8 (by simp));have K8:=Lib.hid (K7.out.trans k8);clear HD
 cases hdd:dn
 ·have HR:=Lib.hid (hfail.out (by rw [hdd];rfl));clear hfail hgo;have z0:w8.cell? ⟨w.heap.size,0,none⟩=some (.slice none 0 0):=B8.out.cell 0;have y0:=B8.out.frozen 0;have z1:w8.cell? ⟨w.heap.size,1,none⟩=some (.slice none 0 0):=B8.out.cell 1;have y1:=B8.out.frozen 1;have z2:w8.cell? ⟨w.heap.size,2,none⟩=some (.slice none 0 0):=B8.out.cell 2;have y2:=B8.out.frozen 2;have z3:w8.cell? ⟨w.heap.size,3,none⟩=some (.slice none 0 0):=B8.out.cell 3;have y3:=B8.out.frozen 3;have z4:w8.cell? ⟨w.heap.size,4,none⟩=some (.slice none 0 0):=B8.out.cell 4;have y4:=B8.out.frozen 4;have z5:w8.cell? ⟨w.heap.size,5,none⟩=some (.slice none 0 0):=B8.out.cell 5;have y5:=B8.out.frozen 5;have z6:w8.cell? ⟨w.heap.size,6,none⟩=some (.slice none 0 0):=B8.out.cell 6;have y6:=B8.out.frozen 6;have z7:w8.cell? ⟨w.heap.size,7,none⟩=some (.slice none 0 0):=B8.out.cell 7;have y7:=B8.out.frozen 7;have z8:w8.cell? ⟨w.heap.size,8,none⟩=some (.slice none 0 0):=B8.out.cell 8;have y8:=B8.out.frozen 8;go_wp2_with fail;refine bodyPost_ret (v:=.tuple #[.agg zeros9,.bool false]) (by simp [results,Tryz.results46,go_sem,zeros9,z0,z1,z2,z3,z4,z5,z6,z7,z8]) rfl ?_;rw [HR.out];refine ⟨_,rfl,recV_zero _,?_⟩
  repeat (refine Kept.setCell ?_ (Or.inr (Nat.le_refl _)) _)
  exact K8.out
 ·cases hok:ok
  ·have HR:=Lib.hid (hfail.out (by rw [hdd,hok];rfl));clear hfail hgo;have z0:w8.cell? ⟨w.heap.size,0,none⟩=some (.slice none 0 0):=B8.out.cell 0;have y0:=B8.out.frozen 0;have z1:w8.cell? ⟨w.heap.size,1,none⟩=some (.slice none 0 0):=B8.out.cell 1;have y1:=B8.out.frozen 1;have z2:w8.cell? ⟨w.heap.size,2,none⟩=some (.slice none 0 0):=B8.out.cell 2;have y2:=B8.out.frozen 2;have z3:w8.cell? ⟨w.heap.size,3,none⟩=some (.slice none 0 0):=B8.out.cell 3;have y3:=B8.out.frozen 3;have z4:w8.cell? ⟨w.heap.size,4,none⟩=some (.slice none 0 0):=B8.out.cell 4;have y4:=B8.out.frozen 4;have z5:w8.cell? ⟨w.heap.size,5,none⟩=some (.slice none 0 0):=B8.out.cell 5;have y5:=B8.out.frozen 5;have z6:w8.cell? ⟨w.heap.size,6,none⟩=some (.slice none 0 0):=B8.out.cell 6;have y6:=B8.out.frozen 6;have z7:w8.cell? ⟨w.heap.size,7,none⟩=some (.slice none 0 0):=B8.out.cell 7;have y7:=B8.out.frozen 7;have z8:w8.cell? ⟨w.heap.size,8,none⟩=some (.slice none 0 0):=B8.out.cell 8;have y8:=B8.out.frozen 8;go_wp2_with fail;refine bodyPost_ret (v:=.tuple #[.agg zeros9,.bool false]) (by simp [results,Tryz.results46,go_sem,zeros9,z0,z1,z2,z3,z4,z5,z6,z7,z8]) rfl ?_;rw [HR.out];refine ⟨_,rfl,recV_zero _,?_⟩
   repeat (refine Kept.setCell ?_ (Or.inr (Nat.le_refl _)) _)
   exact K8.out
  ·have HR1:=Lib.hid (hgo.out hdd hok);clear hfail hgo;have pc0:=(BP7.out.kept k8 (by simp)).cell 0;have pc1:=(BP7.out.kept k8 (by simp)).cell 1;have T8:=Lib.hid (T7.out.keep k8 (by simp) (by simp));have OT8:=Lib.hid (own_keep OT7.out k8 (by simp));have hs8:=k8.size;have K68:=Lib.hid (hK67.out.trans k8);clear K7 B7 T7 OT7 k8 BP7 hK67;go_upto_region 8 with (fail);obtain ⟨w9,hw9⟩:∃ w9,w8.alloc (.cells #[.slice none 0 0,.slice none 0 0,.slice none 0 0,.slice none 0 0,.slice none 0 0,.slice none 0 0,.slice none 0 0,.slice ad p.dares.length cd,.slice aa p.answers.length ca] 67)=w9:=⟨_,rfl⟩;have k89:Kept [] w8 w9:=hw9▸(Kept.refl _ _).alloc _
   have hs9:w8.heap.size < w9.heap.size:=by rw [←hw9];simp
   obtain ⟨po,hpo⟩:∃ po,w8.heap.size=po:=⟨_,rfl⟩
   have hbp:Blk w9 po 67 #[.slice none 0 0,.slice none 0 0,.slice none 0 0,.slice none 0 0,.slice none 0 0,.slice none 0 0,.slice none 0 0,.slice ad p.dares.length cd,.slice aa p.answers.length ca]:=by rw [←hpo,←hw9];exact Blk.new _ _ _
   have hfin:Stable [b,po,w.heap.size] (fun w=>(RowOf ListR 1 w (.slice ad p.dares.length cd) p.dares∧RowOf ListsR 1 w (.slice aa p.answers.length ca) p.answers)∧Row w 1 (.slice at_ ts.length ct) ts.length (strs ts)) w9 :=
    ((HDA.out.and HAN.out).step (K68.out.trans k89) (by simp) (fun z hz=>by
     have h6:=hpb6.out;simp only [List.mem_cons,List.not_mem_nil,or_false] at hz;rw [List.mem_range]
     rcases hz with rfl|rfl|rfl <;> omega)).and (Stable.row (own_keep OT8.out k89 (by simp)) (fun z hz hm=>by
     have:=HT2.out z hz;simp only [List.mem_cons,List.not_mem_nil,or_false] at hm
     rcases hm with rfl|rfl|rfl <;> omega) (own_max OT8.out (by decide)))
   obtain ⟨F0,hF0⟩:∃ F:World→Prop,(fun w=>(RowOf ListR 1 w (.slice ad p.dares.length cd) p.dares∧RowOf ListsR 1 w (.slice aa p.answers.length ca) p.answers)∧Row w 1 (.slice at_ ts.length ct) ts.length (strs ts))=F:=⟨_,rfl⟩
   have HI0:Hid (∀ w,F0 w→(RowOf ListR 1 w (.slice ad p.dares.length cd) p.dares∧RowOf ListsR 1 w (.slice aa p.answers.length ca) p.answers)∧Row w 1 (.slice at_ ts.length ct) ts.length (strs ts)):=fun w h=>by rw [←hF0] at h;exact h
   rw [hF0] at hfin
   have D9:Hid (Qe w w9 b g po [b,po,w.heap.size] F0 #[.slice none 0 0,.slice none 0 0,.slice none 0 0,.slice none 0 0,.slice none 0 0,.slice none 0 0,.slice none 0 0,.slice ad p.dares.length cd,.slice aa p.answers.length ca] ⟨ns,false⟩) :=
    ⟨T8.out.keep k89 (by simp) (by simp),hbp,hfin,by simp,by simp,by simp,fun z hz=>by simp only [List.mem_cons,List.not_mem_nil,or_false] at hz;rcases hz with rfl|rfl|rfl <;> omega,by omega,by omega,by omega,by omega,by omega,B8.out.kept k89 (by simp),K8.out.trans k89⟩
   rw [hw9];rw [hpo];clear hbp hfin hF0 k89 hw9 hpo T8 OT8 B8 K8 K68 HDA HAN pc0 pc1 HT2;clear hs1 h1l hwW hs2 hs3 hs4 hs5 hs6 hs7 hs8 hs9 hg3;have HC1:=Lib.hid (q6_count b g (⟨ns,false⟩:Tp) w9 D9.out.tp);go_wp2_with (go_at_call 123;refine HC1.out.mono ?_);rintro e y1 ⟨N1,q1,rfl,hst,_,hcl,t,kk⟩
   have hNl1:N1≤100000001:=by have:=t.len;omega
   have TR1:=Lib.hid (TR.start tick_codec hst);have G1:Hid (Qg TickR 6 134 0 w y1 b g po y1.heap.size _ F0 #[.slice none 0 0,.slice none 0 0,.slice none 0 0,.slice none 0 0,.slice none 0 0,.slice none 0 0,.slice none 0 0,.slice ad p.dares.length cd,.slice aa p.answers.length ca] none 0 0 [] q1):=Qg.start (D9.out.read kk t) rfl;clear t kk HC1 D9 hst hcl;obtain ⟨B1,hB1⟩:∃ B,y1.heap.size=B:=⟨_,rfl⟩;rw [hB1] at G1;clear hB1
   go_upto_block 0 with (fail)
   go_cut [10] (fun _ wc=>QEnd TickR 6 134 0 tick w b g po B1 F0 #[.slice none 0 0,.slice none 0 0,.slice none 0 0,.slice none 0 0,.slice none 0 0,.slice none 0 0,.slice none 0 0,.slice ad p.dares.length cd,.slice aa p.answers.length ca] (⟨ns,false⟩:Tp) N1 wc)
   case first =>
    go_wp2_with fail
    go_loopw [10] (fun vi wr=>QRel TickR 6 134 0 tick w b g po B1 F0 #[.slice none 0 0,.slice none 0 0,.slice none 0 0,.slice none 0 0,.slice none 0 0,.slice none 0 0,.slice none 0 0,.slice ad p.dares.length cd,.slice aa p.answers.length ca] (many tick (⟨ns,false⟩:Tp)) N1 vi wr) (fun vi _=>(intOf vi).toNat)
    case atStart=>exact ⟨N1,q1,[],_,_,_,_,rfl,by simp,TR1.out,G1.out⟩
    case round =>
     obtain ⟨j,r1,acc1,X1,a1,n1,c1,rfl,hN,hf,hD⟩:=hrel;have DD:=Lib.hid hD;have HF:=Lib.hid hf;have HN:=Lib.hid hN
     have haN1:acc1.length≤N1:=by omega
     have hjN:j≤N1:=by omega
     have cb:=hD.de.tp.cells;clear hD hf G1 TR1 hN
     by_cases hgo:0 < j∧r1.bad=false
     rotate_left
     ·skip
      have hk:j=0∨r1.bad=true:=by
       rcases Nat.eq_zero_or_pos j with h|h
       ·exact Or.inl h
       ·right
        cases hb:r1.bad
        ·exact absurd ⟨h,hb⟩ hgo
        ·rfl
      have HE:Hid (QEnd TickR 6 134 0 tick w b g po B1 F0 #[.slice none 0 0,.slice none 0 0,.slice none 0 0,.slice none 0 0,.slice none 0 0,.slice none 0 0,.slice none 0 0,.slice ad p.dares.length cd,.slice aa p.answers.length ca] (⟨ns,false⟩:Tp) N1 wr):=⟨r1,acc1,X1,a1,n1,c1,haN1,HF.out.done hk,DD.out⟩;clear hgo
      by_cases hlt:0 < j
      ·have hb:r1.bad=true:=by
        rcases hk with h|h
        ·omega
        ·exact h
       rw [hb] at cb;clear hb hk;go_wp2_with fail
       go_meet
       case rel=>exact HE.out
      ·obtain rfl:j=0:=by omega
       clear hk;go_wp2_with fail
       go_meet
       case rel=>exact HE.out
     ·obtain ⟨hj,hbd⟩:=hgo;obtain ⟨j,rfl⟩:∃ k,j=k+1:=⟨j - 1,by omega⟩;rw [hbd] at cb;have HBD:=Lib.hid hbd;clear hbd hj;have HCALL:Hid (∀ u,RwAt 152 u b g r1→g < u.heap.size→Calls Tryz.prog 124 #[.pointer (some ⟨b,0,none⟩)] u (TickQ b g r1 u)):=fun u h1 h2=>q6_ticket b g r1 u h1 h2;have q0:=DD.out.cell (by simp);have qf:=Lib.hid DD.out.frozen;have hgs:g < wr.drew.heap.size:=DD.out.de.gl;have hTd:RwAt 152 wr.drew b g r1:=DD.out.de.tp.keep (S:=[]) (Kept.refl _ _).drew (by simp) (by simp);obtain ⟨i0,hi,hz0,hz1,hz2⟩:=info_parts infoTk;go_upto_region 11 with (fail);refine wp_region_T [6,7] (fun w'=>Kept (b::obl (.slice a1 n1 c1)) wr w') (by kernel_rfl) (Kept.refl _ _).drew (fun hH=>?_);refine takeT [1,5,6,7] (i:=0) (v:=?tv1) rfl (by kernel_rfl) (by kernel_rfl) (by kernel_rfl) (by kernel_rfl) (fun _ _ _ h=>h) (Or.inl ⟨by rfl,?ty1⟩) hH ?tr1
      case ty1=>intro w' hSw;(try dsimp only at hSw);go_simp;first|done|with_reducible rfl
      simp only [Act.put,List.setIfInBounds_toArray,List.set_cons_zero,List.set_cons_succ];refine takeT [5,6,7] (i:=1) (v:=?tv2) rfl (by kernel_rfl) (by kernel_rfl) (by kernel_rfl) (by kernel_rfl) (fun _ _ _ h=>h) (Or.inl ⟨by rfl,?ty2⟩) hH ?tr2
      case ty2=>intro w' hSw;(try dsimp only at hSw);go_simp;first|done|with_reducible rfl
      simp only [Act.put,List.setIfInBounds_toArray,List.set_cons_zero,List.set_cons_succ];refine takeT [3,4,5,6,7] (i:=2) (v:=?tv3) rfl (by kernel_rfl) (by kernel_rfl) (by kernel_rfl) (by kernel_rfl) (fun _ _ _ h=>h) (Or.inl ⟨by rfl,?ty3⟩) hH ?tr3
      case ty3=>intro w' hSw;(try dsimp only at hSw);go_simp;first|done|with_reducible rfl
      simp only [Act.put,List.setIfInBounds_toArray,List.set_cons_zero,List.set_cons_succ];refine wpAnyT_ready (rs:=[3]) (by kernel_rfl) (by simp) ?_;refine AllReadyT.cons rfl (fun K hK=>?_) AllReadyT.nil;go_simp;refine (HCALL.out wr.drew hTd hgs).mono ?_;rintro e y ⟨t1,t2,t3,t4,t5,t6,r',rfl,hst,tpy,kb⟩;have HF2:=Lib.hid (HF.out.step tick_codec HBD.out hst);have kby:Kept [b] wr y:=(Kept.refl [b] wr).drew.trans kb
      have hSy:Kept (b::obl (.slice a1 n1 c1)) wr y:=kby.mono fun z _ hz=>by rw [List.mem_singleton] at hz;subst hz;exact List.mem_cons_self
      refine hK.out _ _ hSy (fun hH=>?_);clear hK K
      (try simp only [Act.put,List.setIfInBounds_toArray,List.set_cons_zero,List.set_cons_succ])
      refine wpAnyT_ready (rs:=[4]) (by kernel_rfl) (by simp) ?_;refine AllReadyT.cons rfl (fun K hK=>?_) AllReadyT.nil;go_simp;refine hK.out _ _ (hH.alloc _) (fun hH=>?_);clear hK K
      (try simp only [Act.put,List.setIfInBounds_toArray,List.set_cons_zero,List.set_cons_succ])
      refine wpAnyT_ready (rs:=[5]) (by kernel_rfl) (by simp) ?_;refine AllReadyT.cons rfl (fun K hK=>?_) AllReadyT.nil;refine qstep_push (DD.out.read kby tpy) rfl _ _ 59 rfl i0 (.agg #[.int .i64 0,.int .i64 0,.int .i64 0,.int .i64 0,.int .i64 0,.int .i64 0]) 48 Tryz.underlying59 hi hz0 hz1 hz2 rfl (by decide) (by decide) rfl _ rfl [.int .i64 t1,.int .i64 t2,.int .i64 t3,.int .i64 t4,.int .i64 t5,.int .i64 t6] (t1,t2,t3,t4,t5,t6) (rowS rfl _ _ _ rfl) ((Kept.refl _ _).alloc _) (Stable.const rfl) (by simp [Value.oneCell']) (by omega) ?_;intro p q y2 ks HX;have hS2:Kept (b::obl (.slice a1 n1 c1)) wr y2:=hSy.trans (ks.mono fun z _ hz=>List.mem_cons_of_mem _ hz);have z0:=q0 _ hS2;have f0:=qf.out _ hS2;refine hK.out _ _ hS2 (fun hH=>?_);clear hK K
      (try simp only [Act.put,List.setIfInBounds_toArray])
      refine wpAnyT_ready (rs:=[6]) (by kernel_rfl) (by simp) ?_;refine AllReadyT.last rfl (by kernel_rfl) (fun K hK=>?_);go_simp;refine hK.out _ _ ?_;clear hK K
      (try simp only [Act.put,List.setIfInBounds_toArray,List.set_cons_zero,List.set_cons_succ])
      refine wpAnyT_ready (rs:=[7]) (by kernel_rfl) (by simp) ?_;refine AllReadyT.last rfl (by kernel_rfl) (fun K hK=>?_);go_simp;refine hK.out _ _ ?_;clear hK K
      (try simp only [Act.put,List.setIfInBounds_toArray,List.set_cons_zero,List.set_cons_succ])
      refine wpAnyT_done (by kernel_rfl) ?_ _;have HRn:=Lib.hid (QRel.next (one:=tick) (fin:=many tick (⟨ns,false⟩:Tp)) HX HN.out HF2.out);clear HX hS2 hSy q0 hH;go_wp2_with fail
      go_roundw
      case rel=>exact HRn.out
      case measure=>simp [intOf] <;> omega
   case rest =>
    obtain ⟨r1,acc1,X1,a1,n1,c1,haN1,hS,hD⟩:=hcut;have DD:=Lib.hid hD;have E1:=Lib.hid hS;clear hD hS G1 TR1;have hn:=DD.out.nl;subst hn;obtain ⟨Y1,hD',hX',hv'⟩:=DD.out.done (by omega);obtain ⟨F1,hF2⟩:∃ F:World→Prop,(fun w=>F0 w∧RowOf TickR 6 w (.slice a1 acc1.length c1) acc1)=F:=⟨_,rfl⟩
    have HI1:Hid (∀ w,F1 w→F0 w∧RowOf TickR 6 w (.slice a1 acc1.length c1) acc1):=fun w h=>by rw [←hF2] at h;exact h
    rw [hF2] at hD';have D1:Hid (Qe w wc b g po Y1 F1 #[.slice a1 acc1.length c1,.slice none 0 0,.slice none 0 0,.slice none 0 0,.slice none 0 0,.slice none 0 0,.slice none 0 0,.slice ad p.dares.length cd,.slice aa p.answers.length ca] r1):=hD';clear hD' hX' hv' hF2 DD;obtain ⟨x1,hx1⟩:∃ x,wc=x:=⟨_,rfl⟩;rw [hx1] at D1 ⊢;clear hx1 wc;have HC2:=Lib.hid (q6_count b g r1 x1 D1.out.tp);go_wp2_with (go_at_call 123;refine HC2.out.mono ?_);rintro e y2 ⟨N2,q2,rfl,hst,_,hcl,t,kk⟩
    have hNl2:N2≤100000001:=by have:=t.len;omega
    have TR2:=Lib.hid (TR.start spnd_codec hst);have G2:Hid (Qg SpndR 2 110 1 w y2 b g po y2.heap.size _ F1 #[.slice a1 acc1.length c1,.slice none 0 0,.slice none 0 0,.slice none 0 0,.slice none 0 0,.slice none 0 0,.slice none 0 0,.slice ad p.dares.length cd,.slice aa p.answers.length ca] none 0 0 [] q2):=Qg.start (D1.out.read kk t) rfl;clear t kk HC2 D1 hst hcl;obtain ⟨B2,hB2⟩:∃ B,y2.heap.size=B:=⟨_,rfl⟩;rw [hB2] at G2;clear hB2
    go_upto_block 2 with (fail)
    go_cut [11] (fun _ wc=>QEnd SpndR 2 110 1 spnd w b g po B2 F1 #[.slice a1 acc1.length c1,.slice none 0 0,.slice none 0 0,.slice none 0 0,.slice none 0 0,.slice none 0 0,.slice none 0 0,.slice ad p.dares.length cd,.slice aa p.answers.length ca] r1 N2 wc)
    case first =>
     go_wp2_with fail
     go_loopw [11] (fun vi wr=>QRel SpndR 2 110 1 spnd w b g po B2 F1 #[.slice a1 acc1.length c1,.slice none 0 0,.slice none 0 0,.slice none 0 0,.slice none 0 0,.slice none 0 0,.slice none 0 0,.slice ad p.dares.length cd,.slice aa p.answers.length ca] (many spnd r1) N2 vi wr) (fun vi _=>(intOf vi).toNat)
     case atStart=>exact ⟨N2,q2,[],_,_,_,_,rfl,by simp,TR2.out,G2.out⟩
     case round =>
      obtain ⟨j,r2,acc2,X2,a2,n2,c2,rfl,hN,hf,hD⟩:=hrel;have DD:=Lib.hid hD;have HF:=Lib.hid hf;have HN:=Lib.hid hN
      have haN2:acc2.length≤N2:=by omega
      have hjN:j≤N2:=by omega
      have cb:=hD.de.tp.cells;clear hD hf G2 TR2 hN
      by_cases hgo:0 < j∧r2.bad=false
      rotate_left
      ·skip
       have hk:j=0∨r2.bad=true:=by
        rcases Nat.eq_zero_or_pos j with h|h
        ·exact Or.inl h
        ·right
         cases hb:r2.bad
         ·exact absurd ⟨h,hb⟩ hgo
         ·rfl
       have HE:Hid (QEnd SpndR 2 110 1 spnd w b g po B2 F1 #[.slice a1 acc1.length c1,.slice none 0 0,.slice none 0 0,.slice none 0 0,.slice none 0 0,.slice none 0 0,.slice none 0 0,.slice ad p.dares.length cd,.slice aa p.answers.length ca] r1 N2 wr):=⟨r2,acc2,X2,a2,n2,c2,haN2,HF.out.done hk,DD.out⟩;clear hgo
       by_cases hlt:0 < j
       ·have hb:r2.bad=true:=by
         rcases hk with h|h
         ·omega
         ·exact h
        rw [hb] at cb;clear hb hk;go_wp2_with fail
        go_meet
        case rel=>exact HE.out
       ·obtain rfl:j=0:=by omega
        clear hk;go_wp2_with fail
        go_meet
        case rel=>exact HE.out
      ·obtain ⟨hj,hbd⟩:=hgo;obtain ⟨j,rfl⟩:∃ k,j=k+1:=⟨j - 1,by omega⟩;rw [hbd] at cb;have HBD:=Lib.hid hbd;clear hbd hj;have HCALL:Hid (∀ u,RwAt 152 u b g r2→g < u.heap.size→Calls Tryz.prog 125 #[.pointer (some ⟨b,0,none⟩)] u (SpndQ b g r2 u)):=fun u h1 h2=>q6_spend b g r2 u h1 h2;have q0:=DD.out.cell (by simp);have qf:=Lib.hid DD.out.frozen;have hgs:g < wr.drew.heap.size:=DD.out.de.gl;have hTd:RwAt 152 wr.drew b g r2:=DD.out.de.tp.keep (S:=[]) (Kept.refl _ _).drew (by simp) (by simp);obtain ⟨i0,hi,hz0,hz1,hz2⟩:=info_parts infoSp;go_upto_region 15 with (fail);refine wp_region_T [6,7] (fun w'=>Kept (b::obl (.slice a2 n2 c2)) wr w') (by kernel_rfl) (Kept.refl _ _).drew (fun hH=>?_);refine takeT [1,5,6,7] (i:=0) (v:=?tv4) rfl (by kernel_rfl) (by kernel_rfl) (by kernel_rfl) (by kernel_rfl) (fun _ _ _ h=>h) (Or.inl ⟨by rfl,?ty4⟩) hH ?tr4
       case ty4=>intro w' hSw;(try dsimp only at hSw);go_simp;first|done|with_reducible rfl
       simp only [Act.put,List.setIfInBounds_toArray,List.set_cons_zero,List.set_cons_succ];refine takeT [5,6,7] (i:=1) (v:=?tv5) rfl (by kernel_rfl) (by kernel_rfl) (by kernel_rfl) (by kernel_rfl) (fun _ _ _ h=>h) (Or.inl ⟨by rfl,?ty5⟩) hH ?tr5
       case ty5=>intro w' hSw;(try dsimp only at hSw);go_simp;first|done|with_reducible rfl
       simp only [Act.put,List.setIfInBounds_toArray,List.set_cons_zero,List.set_cons_succ];refine takeT [3,4,5,6,7] (i:=2) (v:=?tv6) rfl (by kernel_rfl) (by kernel_rfl) (by kernel_rfl) (by kernel_rfl) (fun _ _ _ h=>h) (Or.inl ⟨by rfl,?ty6⟩) hH ?tr6
       case ty6=>intro w' hSw;(try dsimp only at hSw);go_simp;first|done|with_reducible rfl
       simp only [Act.put,List.setIfInBounds_toArray,List.set_cons_zero,List.set_cons_succ];refine wpAnyT_ready (rs:=[3]) (by kernel_rfl) (by simp) ?_;refine AllReadyT.cons rfl (fun K hK=>?_) AllReadyT.nil;go_simp;refine (HCALL.out wr.drew hTd hgs).mono ?_;rintro e y ⟨dare,ans,r',aa1,cc1,rfl,own,hst,hal,tpy,kb⟩;have HF2:=Lib.hid (HF.out.step spnd_codec HBD.out hst);have kby:Kept [b] wr y:=(Kept.refl [b] wr).drew.trans kb
       have hSy:Kept (b::obl (.slice a2 n2 c2)) wr y:=kby.mono fun z _ hz=>by rw [List.mem_singleton] at hz;subst hz;exact List.mem_cons_self
       have hX2:=DD.out.de.hX
       have hRR:Hid (Stable X2 (fun w=>SpndR w [.int .i64 dare,.slice aa1 ans.length cc1] (dare,ans)) y) :=
        (Stable.row own (fun z hz hm=>by have h1:=(own_ge own z hz).1;have h2:=hX2 z hm;have h3:wr.drew.heap.size=wr.heap.size:=rfl;omega) (by omega)).imp fun _ h=>⟨_,rfl,h⟩
       clear hX2;refine hK.out _ _ hSy (fun hH=>?_);clear hK K
       (try skip)
       refine wpAnyT_ready (rs:=[4]) (by kernel_rfl) (by simp) ?_;refine AllReadyT.cons rfl (fun K hK=>?_) AllReadyT.nil;go_simp;refine hK.out _ _ (hH.alloc _) (fun hH=>?_);clear hK K
       (try simp only [Act.put,List.setIfInBounds_toArray,List.set_cons_zero,List.set_cons_succ])
       refine wpAnyT_ready (rs:=[5]) (by kernel_rfl) (by simp) ?_;refine AllReadyT.cons rfl (fun K hK=>?_) AllReadyT.nil;refine qstep_push (DD.out.read kby tpy) rfl _ _ 60 rfl i0 (.agg #[.int .i64 0,.slice none 0 0]) 32 Tryz.underlying60 hi hz0 hz1 hz2 rfl (by decide) (by decide) rfl _ rfl [.int .i64 dare,.slice aa1 ans.length cc1] (dare,ans) (rowS rfl _ _ _ rfl) ((Kept.refl _ _).alloc _) hRR.out (by simp [Value.oneCell']) (by omega) ?_;intro p q y2 ks HX;have hS2:Kept (b::obl (.slice a2 n2 c2)) wr y2:=hSy.trans (ks.mono fun z _ hz=>List.mem_cons_of_mem _ hz);have z0:=q0 _ hS2;have f0:=qf.out _ hS2;refine hK.out _ _ hS2 (fun hH=>?_);clear hK K
       (try simp only [Act.put,List.setIfInBounds_toArray])
       refine wpAnyT_ready (rs:=[6]) (by kernel_rfl) (by simp) ?_;refine AllReadyT.last rfl (by kernel_rfl) (fun K hK=>?_);go_simp;refine hK.out _ _ ?_;clear hK K
       (try simp only [Act.put,List.setIfInBounds_toArray,List.set_cons_zero,List.set_cons_succ])
       refine wpAnyT_ready (rs:=[7]) (by kernel_rfl) (by simp) ?_;refine AllReadyT.last rfl (by kernel_rfl) (fun K hK=>?_);go_simp;refine hK.out _ _ ?_;clear hK K
       (try simp only [Act.put,List.setIfInBounds_toArray,List.set_cons_zero,List.set_cons_succ])
       refine wpAnyT_done (by kernel_rfl) ?_ _;have HRn:=Lib.hid (QRel.next (one:=spnd) (fin:=many spnd r1) HX HN.out HF2.out);clear HX hS2 hSy q0 hH;go_wp2_with fail
       go_roundw
       case rel=>exact HRn.out
       case measure=>simp [intOf] <;> omega
    case rest =>
     obtain ⟨r2,acc2,X2,a2,n2,c2,haN2,hS,hD⟩:=hcut;have DD:=Lib.hid hD;have E2:=Lib.hid hS;clear hD hS G2 TR2;have hn:=DD.out.nl;subst hn;obtain ⟨Y2,hD',hX',hv'⟩:=DD.out.done (by omega);obtain ⟨F2,hF2⟩:∃ F:World→Prop,(fun w=>F1 w∧RowOf SpndR 2 w (.slice a2 acc2.length c2) acc2)=F:=⟨_,rfl⟩
     have HI2:Hid (∀ w,F2 w→F1 w∧RowOf SpndR 2 w (.slice a2 acc2.length c2) acc2):=fun w h=>by rw [←hF2] at h;exact h
     rw [hF2] at hD';have D2:Hid (Qe w wc b g po Y2 F2 #[.slice a1 acc1.length c1,.slice a2 acc2.length c2,.slice none 0 0,.slice none 0 0,.slice none 0 0,.slice none 0 0,.slice none 0 0,.slice ad p.dares.length cd,.slice aa p.answers.length ca] r2):=hD';clear hD' hX' hv' hF2 DD;obtain ⟨x2,hx2⟩:∃ x,wc=x:=⟨_,rfl⟩;rw [hx2] at D2 ⊢;clear hx2 wc;have HC3:=Lib.hid (q6_count b g r2 x2 D2.out.tp);go_wp2_with (go_at_call 123;refine HC3.out.mono ?_);rintro e y3 ⟨N3,q3,rfl,hst,_,hcl,t,kk⟩
     have hNl3:N3≤100000001:=by have:=t.len;omega
     have TR3:=Lib.hid (TR.start (many_codec lnk_codec) hst);have G3:Hid (Qg LnksR 1 112 2 w y3 b g po y3.heap.size _ F2 #[.slice a1 acc1.length c1,.slice a2 acc2.length c2,.slice none 0 0,.slice none 0 0,.slice none 0 0,.slice none 0 0,.slice none 0 0,.slice ad p.dares.length cd,.slice aa p.answers.length ca] none 0 0 [] q3):=Qg.start (D2.out.read kk t) rfl;clear t kk HC3 D2 hst hcl;obtain ⟨B3,hB3⟩:∃ B,y3.heap.size=B:=⟨_,rfl⟩;rw [hB3] at G3;clear hB3
     go_upto_block 4 with (fail)
     go_cut [12,13,14,15,16] (fun vt _ _ _ _ wc=>LQEnd w b g po B3 F2 #[.slice a1 acc1.length c1,.slice a2 acc2.length c2,.slice none 0 0,.slice none 0 0,.slice none 0 0,.slice none 0 0,.slice none 0 0,.slice ad p.dares.length cd,.slice aa p.answers.length ca] r2 N3 ts vt wc)
     case first =>
      go_wp2_with fail
      go_loopw [12,13] (fun vt vi wr=>LQRel w b g po B3 F2 #[.slice a1 acc1.length c1,.slice a2 acc2.length c2,.slice none 0 0,.slice none 0 0,.slice none 0 0,.slice none 0 0,.slice none 0 0,.slice ad p.dares.length cd,.slice aa p.answers.length ca] r2 N3 ts vt vi wr) (fun _ vi _=>(intOf vi).toNat)
      case atStart=>exact ⟨N3,q3,[],_,none,0,0,0,rfl,rfl,by simp,TR3.out,Used.nil_ ts,by simp,G3.out⟩
      case round =>
       obtain ⟨j,r3,acc3,X3,a3,n3,c3,nt,rfl,rfl,hN,hf,hu,hnt,hD⟩:=hrel;have DD:=Lib.hid hD;have HF:=Lib.hid hf;have HN:=Lib.hid hN;have HU:=Lib.hid hu
       have haN3:acc3.length≤N3:=by omega
       have hjN:j≤N3:=by omega
       have cb:=hD.de.tp.cells;clear hD hf hu G3 TR3 hN
       by_cases hgo:0 < j∧r3.bad=false
       rotate_left
       ·skip
        have hk:j=0∨r3.bad=true:=by
         rcases Nat.eq_zero_or_pos j with h|h
         ·exact Or.inl h
         ·right
          cases hb:r3.bad
          ·exact absurd ⟨h,hb⟩ hgo
          ·rfl
        have HE:Hid (LQEnd w b g po B3 F2 #[.slice a1 acc1.length c1,.slice a2 acc2.length c2,.slice none 0 0,.slice none 0 0,.slice none 0 0,.slice none 0 0,.slice none 0 0,.slice ad p.dares.length cd,.slice aa p.answers.length ca] r2 N3 ts (.int .i64 (nt:Int)) wr):=⟨r3,acc3,X3,a3,n3,c3,nt,rfl,haN3,HF.out.done hk,HU.out,hnt,DD.out⟩;clear hgo
        by_cases hlt:0 < j
        ·have hb:r3.bad=true:=by
          rcases hk with h|h
          ·omega
          ·exact h
         rw [hb] at cb;clear hb hk;go_wp2_with fail
         go_meet
         case rel=>exact HE.out
        ·obtain rfl:j=0:=by omega
         clear hk;go_wp2_with fail
         go_meet
         case rel=>exact HE.out
       ·obtain ⟨hj,hbd⟩:=hgo;obtain ⟨j,rfl⟩:∃ k,j=k+1:=⟨j - 1,by omega⟩;rw [hbd] at cb;have HBD:=Lib.hid hbd;clear hbd hj;have HCi:=Lib.hid (q6_count b g r3 wr DD.out.de.tp);go_wp2_with (go_at_call 123;refine HCi.out.mono ?_);rintro e yo ⟨Ni,qi,rfl,hst,_,hcl,t,kk⟩
        have hNli:Ni≤100000001:=by have:=t.len;omega
        have TRi:=Lib.hid (TR.start lnk_codec hst);have Do:=Lib.hid (DD.out.read kk t)
        have I0:Hid (LiQ w yo yo b g po B3 X3 F2 #[.slice a1 acc1.length c1,.slice a2 acc2.length c2,.slice none 0 0,.slice none 0 0,.slice none 0 0,.slice none 0 0,.slice none 0 0,.slice ad p.dares.length cd,.slice aa p.answers.length ca] a3 n3 c3 acc3 qi qi none 0 0 []) :=
         ⟨Do.out,Kept.refl _ _,t,rfl,⟨X3,fun _ h=>h,Do.out.de.hX,by simp [obl,Value.ownBlock],Grow.nil_ _ _ _ _ _ _⟩⟩
        clear t kk HCi DD Do hst hcl cb
        go_upto_block 6 with (fail)
        go_cut [12,14,15,16] (fun vt v14 _ _ w2=>InQEnd w yo b g po B3 X3 F2 #[.slice a1 acc1.length c1,.slice a2 acc2.length c2,.slice none 0 0,.slice none 0 0,.slice none 0 0,.slice none 0 0,.slice none 0 0,.slice ad p.dares.length cd,.slice aa p.answers.length ca] a3 n3 c3 acc3 qi r3 Ni ts vt v14 w2)
        case first =>
         go_wp2_with fail
         go_loopw [12,14,15] (fun vt v14 vi w2=>InQ w yo b g po B3 X3 F2 #[.slice a1 acc1.length c1,.slice a2 acc2.length c2,.slice none 0 0,.slice none 0 0,.slice none 0 0,.slice none 0 0,.slice none 0 0,.slice ad p.dares.length cd,.slice aa p.answers.length ca] a3 n3 c3 acc3 qi r3 Ni ts vt v14 vi w2) (fun _ _ vi _=>(intOf vi).toNat)
         case atStart=>exact ⟨Ni,qi,[],none,0,0,nt,rfl,rfl,rfl,by simp,TRi.out,by simpa using HU.out,by simpa using hnt,I0.out⟩
         case round =>
          obtain ⟨j2,r4,acc4,a10,n10,c10,nu,rfl,rfl,rfl,hN2,hf2,hu2,hnu,hI⟩:=hrel;have II:=Lib.hid hI;have HF2:=Lib.hid hf2;have HN2:=Lib.hid hN2;have HU2:=Lib.hid hu2
          have haN4:acc4.length≤Ni:=by omega
          have hjN2:j2≤Ni:=by omega
          have cb:=hI.tp.cells;clear hI hf2 hu2 I0 TRi hN2
          by_cases hgo:0 < j2∧r4.bad=false
          rotate_left
          ·skip
           have hk:j2=0∨r4.bad=true:=by
            rcases Nat.eq_zero_or_pos j2 with h|h
            ·exact Or.inl h
            ·right
             cases hb:r4.bad
             ·exact absurd ⟨h,hb⟩ hgo
             ·rfl
           have HE:Hid (InQEnd w yo b g po B3 X3 F2 #[.slice a1 acc1.length c1,.slice a2 acc2.length c2,.slice none 0 0,.slice none 0 0,.slice none 0 0,.slice none 0 0,.slice none 0 0,.slice ad p.dares.length cd,.slice aa p.answers.length ca] a3 n3 c3 acc3 qi r3 Ni ts (.int .i64 (nu:Int)) (.slice a10 n10 c10) wr):=⟨r4,acc4,a10,n10,c10,nu,rfl,rfl,haN4,HF2.out.done hk,HU2.out,hnu,II.out⟩;clear hgo
           by_cases hlt:0 < j2
           ·have hb:r4.bad=true:=by
             rcases hk with h|h
             ·omega
             ·exact h
            rw [hb] at cb;clear hb hk;go_wp2_with fail
            go_meet
            case rel=>exact HE.out
           ·obtain rfl:j2=0:=by omega
            clear hk;go_wp2_with fail
            go_meet
            case rel=>exact HE.out
          ·obtain ⟨hj,hbd⟩:=hgo;obtain ⟨j2,rfl⟩:∃ k,j2=k+1:=⟨j2 - 1,by omega⟩;rw [hbd] at cb;have HBD2:=Lib.hid hbd;clear hbd hj;obtain ⟨v1,hv1⟩:∃ v,wr.alloc (.cells #[.int .i64 0,.int .i64 0,.int .i64 0,.int .i64 0,.int .i64 0,.int .i64 0,.int .i64 0,.slice none 0 0,.string ⟨#[]⟩] 138)=v:=⟨_,rfl⟩;obtain ⟨lb,hlb⟩:∃ lb,wr.heap.size=lb:=⟨_,rfl⟩
           have BL1:Hid (Blk v1 lb 138 #[.int .i64 0,.int .i64 0,.int .i64 0,.int .i64 0,.int .i64 0,.int .i64 0,.int .i64 0,.slice none 0 0,.string ⟨#[]⟩]):=by show Blk _ _ _ _;rw [←hv1,←hlb];exact Blk.new _ _ _
           have k01:Kept [] wr v1:=hv1▸(Kept.refl _ _).alloc _;have hgl:g < wr.heap.size:=Nat.lt_of_lt_of_le II.out.do_.de.gl II.out.kb.size;have hbl:b < wr.heap.size:=Nat.lt_of_lt_of_le II.out.do_.de.bl II.out.kb.size;have hl1:lb < v1.heap.size:=BL1.out.lt;have I1:=Lib.hid (II.out.keep k01);have KB1:Hid (Kept [b] wr v1):=k01.mono (by simp);have HLB:=Lib.hid hlb;have HV1:=Lib.hid hv1;rw [hlb] at hgl hbl;clear hv1 k01 hlb;go_upto_region 25 with (fail);rw [HV1.out,HLB.out];have HCT:=Lib.hid (q6_ticket b g r4 v1 I1.out.tp (by omega));go_wp2_with (go_at_call 124;refine HCT.out.mono ?_);rintro e v2 ⟨t1,t2,t3,t4,t5,t6,ra,rfl,hst1,tp1,kb1⟩;have I2:=Lib.hid (I1.out.read kb1 tp1);have ST1:=Lib.hid hst1;have BL2:=BL1.out.kept kb1 (by simp;omega);have KB2:=Lib.hid (KB1.out.trans kb1);have hs2:=kb1.size;clear tp1 kb1 hst1 HCT I1 BL1 KB1;have u0:=BL2.cell 0;have f0:=BL2.frozen 0;have u1:=BL2.cell 1;have f1:=BL2.frozen 1;have u2:=BL2.cell 2;have f2:=BL2.frozen 2;have u3:=BL2.cell 3;have f3:=BL2.frozen 3;have u4:=BL2.cell 4;have f4:=BL2.frozen 4;have u5:=BL2.cell 5;have f5:=BL2.frozen 5;go_upto_region 26 with (fail);obtain ⟨v3,hv3⟩:∃ v,((((((v2.setCell ⟨lb,0,none⟩ (.int .i64 t1)).setCell ⟨lb,1,none⟩ (.int .i64 t2)).setCell ⟨lb,2,none⟩ (.int .i64 t3)).setCell ⟨lb,3,none⟩ (.int .i64 t4)).setCell ⟨lb,4,none⟩ (.int .i64 t5)).setCell ⟨lb,5,none⟩ (.int .i64 t6))=v:=⟨_,rfl⟩
           have BL3:Hid (Blk v3 lb 138 #[.int .i64 t1,.int .i64 t2,.int .i64 t3,.int .i64 t4,.int .i64 t5,.int .i64 t6,.int .i64 0,.slice none 0 0,.string ⟨#[]⟩]):=by show Blk _ _ _ _;have:=((((((BL2.set_ 0 (.int .i64 t1)).set_ 1 (.int .i64 t2)).set_ 2 (.int .i64 t3)).set_ 3 (.int .i64 t4)).set_ 4 (.int .i64 t5)).set_ 5 (.int .i64 t6));rw [hv3] at this;simpa using this
           have k23:Kept [lb] v2 v3:=hv3▸(((((((Kept.refl [lb] v2).setCell (by simp) _).setCell (by simp) _).setCell (by simp) _).setCell (by simp) _).setCell (by simp) _).setCell (by simp) _);have KB3:Hid (Kept [b] wr v3):=KB2.out.fresh k23 (by have:=HLB.out;simp;omega);have hs3:=k23.size;have TP3:=Lib.hid (I2.out.tp.keep k23 (by simp;omega) (by simp;omega));have I3:=Lib.hid (II.out.read KB3.out TP3.out);rw [hv3];clear hv3 BL2 k23 KB2 I2 u0 u1 u2 u3 u4 u5 f0 f1 f2 f3 f4 f5;have HCS:=Lib.hid (q6_spend b g ra v3 TP3.out (by omega));go_wp2_with (go_at_call 125;refine HCS.out.mono ?_);rintro e v4 ⟨dare,ans,rb',aa1,cc1,rfl,own,hst2,hal,tp2,kb2⟩;have ST2:Hid (Stg lnk r4 ((t1,t2,t3,t4,t5,t6),(dare,ans)) rb'):=Stg.both spnd_codec ST1.out hst2;have HF4:=Lib.hid (HF2.out.step lnk_codec HBD2.out ST2.out);have BL4:=BL3.out.kept kb2 (by simp;omega);have KB4:=Lib.hid (KB3.out.trans kb2);have hs4:=kb2.size;have TP4:=Lib.hid tp2;have OW4:=Lib.hid own;have u6:=BL4.cell 6;have f6:=BL4.frozen 6;have u7:=BL4.cell 7;have f7:=BL4.frozen 7;clear tp2 kb2 own hst2 HCS BL3 KB3 ST1 ST2 I3 TP3;go_upto_region 27 with (fail);obtain ⟨v5,hv5⟩:∃ v,(v4.setCell ⟨lb,6,none⟩ (.int .i64 dare)).setCell ⟨lb,7,none⟩ (.slice aa1 ans.length cc1)=v:=⟨_,rfl⟩
           have BL5:Hid (Blk v5 lb 138 #[.int .i64 t1,.int .i64 t2,.int .i64 t3,.int .i64 t4,.int .i64 t5,.int .i64 t6,.int .i64 dare,.slice aa1 ans.length cc1,.string ⟨#[]⟩]):=by show Blk _ _ _ _;have:=(BL4.set_ 6 (.int .i64 dare)).set_ 7 (.slice aa1 ans.length cc1);rw [hv5] at this;simpa using this
           have k45:Kept [lb] v4 v5:=hv5▸((Kept.refl [lb] v4).setCell (by simp) _).setCell (by simp) _;have KB5:Hid (Kept [b] wr v5):=KB4.out.fresh k45 (by have:=HLB.out;simp;omega);have hs5:=k45.size;have TP5:=Lib.hid (TP4.out.keep k45 (by simp;omega) (by simp;omega));have OW5:=Lib.hid (own_keep OW4.out k45 (fun z hz hm=>by have:=own_ge OW4.out z hz;rw [List.mem_singleton] at hm;omega));have I5:=Lib.hid (II.out.read KB5.out TP5.out);rw [hv5];clear hv5 BL4 k45 KB4 u6 u7 f6 f7 TP4 OW4;have hnw:nu≤20000000000000000:=used_bound hnu (by omega) (by omega)
           by_cases hlt:nu < ts.length
           ·skip
            have hrow:Row v5 1 (.slice at_ ts.length ct) ts.length (strs ts):=(HI0.out _ (HI1.out _ (HI2.out _ I5.out.fin).1).1).2;obtain ⟨tb,tof,hta,hcell⟩:=Row.at_ (n:=ts.length) (m:=ts.length) hrow (by omega);have hx:=hcell nu _ (strs_get hlt);have HU4:=Lib.hid (HU2.out.hit hlt);obtain ⟨tm,htm⟩:∃ tm,ts[nu]=tm:=⟨_,rfl⟩;rw [htm] at hx HU4;subst hta
            have hcap:ts.length≤ct:=hrow.2.2.elim fun a h=>h.elim fun c h=>by have h1:=h.1;injection h1 with _ _ h3;subst h3;exact h.2.1
            have u8:=BL5.out.cell 8;have f8:=BL5.out.frozen 8;obtain ⟨M,hM⟩:∃ M,ts.length=M:=⟨_,rfl⟩;have HMM:=Lib.hid hM
            have hlt':nu < M:=by omega
            have hM9:M≤9223372036854775807:=by omega
            have hcap':M≤ct:=by omega
            clear hrow hcell htm hlt hcap hM;rw [HMM.out];go_upto_region 29 with (fail);obtain ⟨v6,hv6⟩:∃ v,v5.setCell ⟨lb,8,none⟩ (.string ⟨tm.toArray⟩)=v:=⟨_,rfl⟩
            have BL6:Hid (Blk v6 lb 138 #[.int .i64 t1,.int .i64 t2,.int .i64 t3,.int .i64 t4,.int .i64 t5,.int .i64 t6,.int .i64 dare,.slice aa1 ans.length cc1,.string ⟨tm.toArray⟩]):=by show Blk _ _ _ _;have:=BL5.out.set_ 8 (.string ⟨tm.toArray⟩);rw [hv6] at this;simpa using this
            have k56:Kept [lb] v5 v6:=hv6▸(Kept.refl [lb] v5).setCell (by simp) _;rw [hv6,←HMM.out];clear hv6 u8 f8 hx;have KB6:Hid (Kept [b] wr v6):=KB5.out.fresh k56 (by have:=HLB.out;simp;omega);have hs6:=k56.size;have TP6:=Lib.hid (TP5.out.keep k56 (by simp;omega) (by simp;omega));have OW6:=Lib.hid (own_keep OW5.out k56 (fun z hz hm=>by have:=own_ge OW5.out z hz;rw [List.mem_singleton] at hm;omega));have kc0:=BL6.out.cell 0;have kc1:=BL6.out.cell 1;have kc2:=BL6.out.cell 2;have kc3:=BL6.out.cell 3;have kc4:=BL6.out.cell 4;have kc5:=BL6.out.cell 5;have kc6:=BL6.out.cell 6;have kc7:=BL6.out.cell 7;have kc8:=BL6.out.cell 8;obtain ⟨X2,x1,x2,x3,G4⟩:=II.out.gr;have ka:Kept [] v6 (v6.alloc (.cells #[.int .i64 t1,.int .i64 t2,.int .i64 t3,.int .i64 t4,.int .i64 t5,.int .i64 t6,.int .i64 dare,.slice aa1 ans.length cc1,.string ⟨tm.toArray⟩] 138)):=(Kept.refl [] _).alloc _;have kall:Kept [b] wr (v6.alloc (.cells #[.int .i64 t1,.int .i64 t2,.int .i64 t3,.int .i64 t4,.int .i64 t5,.int .i64 t6,.int .i64 dare,.slice aa1 ans.length cc1,.string ⟨tm.toArray⟩] 138)):=KB6.out.trans (ka.mono (by simp))
            have hSb:∀ z∈[b],z < wr.heap.size→z∈X2:=fun z hz _=>by rw [List.mem_singleton] at hz;subst hz;exact x1 _ II.out.do_.de.bX
            have hgb:=II.out.ge;have hbyo:=II.out.do_.de.bl
            have EL:Hid (Stable X2 (fun w=>LnkR w [.int .i64 t1,.int .i64 t2,.int .i64 t3,.int .i64 t4,.int .i64 t5,.int .i64 t6,.int .i64 dare,.slice aa1 ans.length cc1,.string ⟨tm.toArray⟩] (((t1,t2,t3,t4,t5,t6),(dare,ans)),tm)) (v6.alloc (.cells #[.int .i64 t1,.int .i64 t2,.int .i64 t3,.int .i64 t4,.int .i64 t5,.int .i64 t6,.int .i64 dare,.slice aa1 ans.length cc1,.string ⟨tm.toArray⟩] 138))) :=
             (Stable.row (own_keep OW6.out ka (by simp)) (fun z hz hm=>by have h1:=(own_ge OW6.out z hz).1;have h2:=x2 z hm;have:=HLB.out;omega) (by omega)).imp fun _ h=>⟨_,rfl,h⟩
            have GA:Hid (Grow LnkR 9 138 yo.heap.size X2 (v6.alloc (.cells #[.int .i64 t1,.int .i64 t2,.int .i64 t3,.int .i64 t4,.int .i64 t5,.int .i64 t6,.int .i64 dare,.slice aa1 ans.length cc1,.string ⟨tm.toArray⟩] 138)) (.slice a10 n10 c10) acc4):=G4.step kall (fun z hz hm=>by have:=hgb z hz;rw [List.mem_singleton] at hm;omega) hSb (fun z hz=>Or.inl hz);have IA:=Lib.hid (II.out.read kall (TP6.out.keep ka (by simp) (by simp)));have XA:=Lib.hid x1;have XB:=Lib.hid (fun z hz=>Nat.lt_of_lt_of_le (x2 z hz) kall.size);have XC:=Lib.hid x3;have hle:=Lib.hid (show yo.heap.size≤(v6.alloc (.cells #[.int .i64 t1,.int .i64 t2,.int .i64 t3,.int .i64 t4,.int .i64 t5,.int .i64 t6,.int .i64 dare,.slice aa1 ans.length cc1,.string ⟨tm.toArray⟩] 138)).heap.size by have:=IA.out.kb.size;exact this);have HE10:=Lib.hid II.out.e10;obtain ⟨i0,hi,hz0,hz1,hz2⟩:=info_parts infoLk;clear ka kall hSb hgb hbyo G4 x1 x2 x3 II I5 k56 KB5 TP5 OW5 BL5 KB6 TP6 OW6;go_wp2_with (at_builtin;refine wpList_append_grow rfl _ _ 112 rfl i0 (.agg #[.int .i64 0,.int .i64 0,.int .i64 0,.int .i64 0,.int .i64 0,.int .i64 0,.int .i64 0,.slice none 0 0,.string ⟨#[]⟩]) 96 Tryz.underlying112 hi hz0 hz1 hz2 rfl (by decide) (by decide) rfl GA.out _ [.int .i64 t1,.int .i64 t2,.int .i64 t3,.int .i64 t4,.int .i64 t5,.int .i64 t6,.int .i64 dare,.slice aa1 ans.length cc1,.string ⟨tm.toArray⟩] (((t1,t2,t3,t4,t5,t6),(dare,ans)),tm) rfl (rowS rfl _ _ _ rfl) EL.out (by simp [Value.oneCell']) (by omega) hle.out XC.out ?_);intro p9 q9 y9 G9 k9 t9;have IP:=Lib.hid (IA.out.push XA.out XB.out k9 (by rw [HE10.out]) G9)
            have HRn:Hid (InQ w yo b g po B3 X3 F2 #[.slice a1 acc1.length c1,.slice a2 acc2.length c2,.slice none 0 0,.slice none 0 0,.slice none 0 0,.slice none 0 0,.slice none 0 0,.slice ad p.dares.length cd,.slice aa p.answers.length ca] a3 n3 c3 acc3 qi r3 Ni ts (.int .i64 ((nu:Int)+1)) (.slice p9 (acc4.length+1) q9) (.int .i64 (j2:Int)) y9) :=
             ⟨j2,rb',acc4++[(((t1,t2,t3,t4,t5,t6),(dare,ans)),tm)],p9,acc4.length+1,q9,nu+1,by simp,rfl,rfl,by have:=HN2.out;simp;omega,by rw [List.map_append];exact HF4.out,by rw [List.map_append,←List.append_assoc];exact HU4.out,by simp;omega,IP.out⟩
            clear G9 k9 t9 IP kc0 kc1 kc2 kc3 kc4 kc5 kc6 kc7 kc8 hi hz0 hz1 hz2 GA EL;go_wp2_with fail
            go_roundw
            case rel=>exact HRn.out
            case measure=>simp [intOf] <;> omega
           ·skip
            have HU4:=Lib.hid (HU2.out.miss (Nat.le_of_not_lt hlt) []);obtain ⟨M,hM⟩:∃ M,ts.length=M:=⟨_,rfl⟩;have HMM:=Lib.hid hM
            have hlt':¬ (nu:Int) < (M:Int):=by omega
            have hM9:M≤9223372036854775807:=by omega
            clear hlt hM;rw [HMM.out];go_upto_region 29 with (fail);obtain ⟨v6,hv6⟩:∃ v,v5=v:=⟨_,rfl⟩;have BL6:Hid (Blk v6 lb 138 #[.int .i64 t1,.int .i64 t2,.int .i64 t3,.int .i64 t4,.int .i64 t5,.int .i64 t6,.int .i64 dare,.slice aa1 ans.length cc1,.string ⟨#[]⟩]):=hv6▸BL5;have k56:Kept [lb] v5 v6:=hv6▸Kept.refl _ _;rw [hv6,←HMM.out];clear hv6;have KB6:Hid (Kept [b] wr v6):=KB5.out.fresh k56 (by have:=HLB.out;simp;omega);have hs6:=k56.size;have TP6:=Lib.hid (TP5.out.keep k56 (by simp;omega) (by simp;omega));have OW6:=Lib.hid (own_keep OW5.out k56 (fun z hz hm=>by have:=own_ge OW5.out z hz;rw [List.mem_singleton] at hm;omega));have kc0:=BL6.out.cell 0;have kc1:=BL6.out.cell 1;have kc2:=BL6.out.cell 2;have kc3:=BL6.out.cell 3;have kc4:=BL6.out.cell 4;have kc5:=BL6.out.cell 5;have kc6:=BL6.out.cell 6;have kc7:=BL6.out.cell 7;have kc8:=BL6.out.cell 8;obtain ⟨X2,x1,x2,x3,G4⟩:=II.out.gr;have ka:Kept [] v6 (v6.alloc (.cells #[.int .i64 t1,.int .i64 t2,.int .i64 t3,.int .i64 t4,.int .i64 t5,.int .i64 t6,.int .i64 dare,.slice aa1 ans.length cc1,.string ⟨#[]⟩] 138)):=(Kept.refl [] _).alloc _;have kall:Kept [b] wr (v6.alloc (.cells #[.int .i64 t1,.int .i64 t2,.int .i64 t3,.int .i64 t4,.int .i64 t5,.int .i64 t6,.int .i64 dare,.slice aa1 ans.length cc1,.string ⟨#[]⟩] 138)):=KB6.out.trans (ka.mono (by simp))
            have hSb:∀ z∈[b],z < wr.heap.size→z∈X2:=fun z hz _=>by rw [List.mem_singleton] at hz;subst hz;exact x1 _ II.out.do_.de.bX
            have hgb:=II.out.ge;have hbyo:=II.out.do_.de.bl
            have EL:Hid (Stable X2 (fun w=>LnkR w [.int .i64 t1,.int .i64 t2,.int .i64 t3,.int .i64 t4,.int .i64 t5,.int .i64 t6,.int .i64 dare,.slice aa1 ans.length cc1,.string ⟨#[]⟩] (((t1,t2,t3,t4,t5,t6),(dare,ans)),[])) (v6.alloc (.cells #[.int .i64 t1,.int .i64 t2,.int .i64 t3,.int .i64 t4,.int .i64 t5,.int .i64 t6,.int .i64 dare,.slice aa1 ans.length cc1,.string ⟨#[]⟩] 138))) :=
             (Stable.row (own_keep OW6.out ka (by simp)) (fun z hz hm=>by have h1:=(own_ge OW6.out z hz).1;have h2:=x2 z hm;have:=HLB.out;omega) (by omega)).imp fun _ h=>⟨_,rfl,h⟩
            have GA:Hid (Grow LnkR 9 138 yo.heap.size X2 (v6.alloc (.cells #[.int .i64 t1,.int .i64 t2,.int .i64 t3,.int .i64 t4,.int .i64 t5,.int .i64 t6,.int .i64 dare,.slice aa1 ans.length cc1,.string ⟨#[]⟩] 138)) (.slice a10 n10 c10) acc4):=G4.step kall (fun z hz hm=>by have:=hgb z hz;rw [List.mem_singleton] at hm;omega) hSb (fun z hz=>Or.inl hz);have IA:=Lib.hid (II.out.read kall (TP6.out.keep ka (by simp) (by simp)));have XA:=Lib.hid x1;have XB:=Lib.hid (fun z hz=>Nat.lt_of_lt_of_le (x2 z hz) kall.size);have XC:=Lib.hid x3;have hle:=Lib.hid (show yo.heap.size≤(v6.alloc (.cells #[.int .i64 t1,.int .i64 t2,.int .i64 t3,.int .i64 t4,.int .i64 t5,.int .i64 t6,.int .i64 dare,.slice aa1 ans.length cc1,.string ⟨#[]⟩] 138)).heap.size by have:=IA.out.kb.size;exact this);have HE10:=Lib.hid II.out.e10;obtain ⟨i0,hi,hz0,hz1,hz2⟩:=info_parts infoLk;clear ka kall hSb hgb hbyo G4 x1 x2 x3 II I5 k56 KB5 TP5 OW5 BL5 KB6 TP6 OW6;go_wp2_with (at_builtin;refine wpList_append_grow rfl _ _ 112 rfl i0 (.agg #[.int .i64 0,.int .i64 0,.int .i64 0,.int .i64 0,.int .i64 0,.int .i64 0,.int .i64 0,.slice none 0 0,.string ⟨#[]⟩]) 96 Tryz.underlying112 hi hz0 hz1 hz2 rfl (by decide) (by decide) rfl GA.out _ [.int .i64 t1,.int .i64 t2,.int .i64 t3,.int .i64 t4,.int .i64 t5,.int .i64 t6,.int .i64 dare,.slice aa1 ans.length cc1,.string ⟨#[]⟩] (((t1,t2,t3,t4,t5,t6),(dare,ans)),[]) rfl (rowS rfl _ _ _ rfl) EL.out (by simp [Value.oneCell']) (by omega) hle.out XC.out ?_);intro p9 q9 y9 G9 k9 t9;have IP:=Lib.hid (IA.out.push XA.out XB.out k9 (by rw [HE10.out]) G9)
            have HRn:Hid (InQ w yo b g po B3 X3 F2 #[.slice a1 acc1.length c1,.slice a2 acc2.length c2,.slice none 0 0,.slice none 0 0,.slice none 0 0,.slice none 0 0,.slice none 0 0,.slice ad p.dares.length cd,.slice aa p.answers.length ca] a3 n3 c3 acc3 qi r3 Ni ts (.int .i64 ((nu:Int)+1)) (.slice p9 (acc4.length+1) q9) (.int .i64 (j2:Int)) y9) :=
             ⟨j2,rb',acc4++[(((t1,t2,t3,t4,t5,t6),(dare,ans)),[])],p9,acc4.length+1,q9,nu+1,by simp,rfl,rfl,by have:=HN2.out;simp;omega,by rw [List.map_append];exact HF4.out,by rw [List.map_append,←List.append_assoc];exact HU4.out,by simp;omega,IP.out⟩
            clear G9 k9 t9 IP kc0 kc1 kc2 kc3 kc4 kc5 kc6 kc7 kc8 hi hz0 hz1 hz2 GA EL;go_wp2_with fail
            go_roundw
            case rel=>exact HRn.out
            case measure=>simp [intOf] <;> omega
        case rest =>
         obtain ⟨r4,acc4,a10,n10,c10,nu,rfl,rfl,hN4,hS4,hu4,hnu,hI⟩:=hcut;have DD:=Lib.hid hI.dg;have HE:=Lib.hid (hI.done (by omega));have HF3:=Lib.hid (HF.out.step (many_codec lnk_codec) HBD.out hS4);have HU4:=Lib.hid hu4;clear hI hS4 hu4 HF I0 TRi;have z2:=DD.out.cell (by simp) wc (Kept.refl _ _);have GA:Hid (Grow LnksR 1 112 B3 X3 (wc.alloc (.cells #[.slice a10 n10 c10] 112)) (.slice a3 n3 c3) acc3):=DD.out.gr.step ((Kept.refl [] _).alloc _) (by simp) (by simp) (fun z hz=>Or.inl hz);have EA:Hid (Stable X3 (fun w=>LnksR w [.slice a10 n10 c10] acc4) (wc.alloc (.cells #[.slice a10 n10 c10] 112))):=HE.out.step ((Kept.refl [] _).alloc _) (by simp) (fun z hz=>Or.inl hz);have hle:=Lib.hid (show B3≤(wc.alloc (.cells #[.slice a10 n10 c10] 112)).heap.size by have:=DD.out.lB;simp only [World.size_alloc];omega);obtain ⟨i0,hi,hz0,hz1,hz2⟩:=info_parts infoLks;go_wp2_with (at_builtin;refine wpList_append_grow rfl _ _ 61 rfl i0 (.slice none 0 0) 24 Tryz.underlying61 hi hz0 hz1 hz2 rfl (by decide) (by decide) rfl GA.out _ [.slice a10 n10 c10] acc4 rfl (rowS rfl _ _ _ rfl) EA.out (by simp [Value.oneCell']) (by omega) hle.out DD.out.vX ?_);intro p9 q9 y9 G9 k9 t9;obtain ⟨kk9,X9,D9',h9⟩:=DD.out.pushed ((Kept.refl [] wc).alloc _) G9 k9 (fun z hz=>by first|exact t9 z hz|(rw [World.size_alloc];exact t9 z hz));have zz2:=DD.out.cell (by simp) y9 (kk9.mono fun z _ hz=>List.mem_cons_of_mem _ hz);have ff2:=DD.out.frozen y9 (kk9.mono fun z _ hz=>List.mem_cons_of_mem _ hz);have HRn:=Lib.hid (LQRel.next ⟨X9,D9'⟩ HN.out HF3.out HU4.out (by omega) (by omega))
         clear G9 k9 t9 kk9 D9' h9 DD GA EA hi hz0 hz1 hz2 z2 HE;go_wp2_with fail
         go_roundw
         case rel=>exact HRn.out
         case measure=>simp [intOf] <;> omega
     case rest =>
      obtain ⟨r3,acc3,X3,a3,n3,c3,nt,rfl,haN3,hS,hu,hnt,hD⟩:=hcut;have DD:=Lib.hid hD;have E3:=Lib.hid hS;have HU:=Lib.hid hu;clear hD hS G3 TR3 hu;have hn:=DD.out.nl;subst hn;obtain ⟨Y3,hD',hX',hv'⟩:=DD.out.done (by omega);obtain ⟨F3,hF2⟩:∃ F:World→Prop,(fun w=>F2 w∧RowOf LnksR 1 w (.slice a3 acc3.length c3) acc3)=F:=⟨_,rfl⟩
      have HI3:Hid (∀ w,F3 w→F2 w∧RowOf LnksR 1 w (.slice a3 acc3.length c3) acc3):=fun w h=>by rw [←hF2] at h;exact h
      rw [hF2] at hD';have D3:Hid (Qe w wc b g po Y3 F3 #[.slice a1 acc1.length c1,.slice a2 acc2.length c2,.slice a3 acc3.length c3,.slice none 0 0,.slice none 0 0,.slice none 0 0,.slice none 0 0,.slice ad p.dares.length cd,.slice aa p.answers.length ca] r3):=hD';clear hD' hX' hv' hF2 DD;obtain ⟨x3,hx3⟩:∃ x,wc=x:=⟨_,rfl⟩;rw [hx3] at D3 ⊢;clear hx3 wc;have HL4:=Lib.hid (q6_list b g r3 x3 D3.out.tp D3.out.gl);go_wp2_with (go_at_call 126;refine HL4.out.mono ?_);rintro e u4 ⟨cm,r4,a4,c4,rfl,own4,hst,hll4,tp4,k4⟩;have E4:=Lib.hid hst;have hXlt:=Lib.hid D3.out.hX;have DM:=Lib.hid ((D3.out.read k4 tp4).more (Stable.row own4 (fun z hz hm=>by have h1:=(own_ge own4 z hz).1;have h2:=hXlt.out z hm;omega) (by omega)));obtain ⟨F4,hF4⟩:∃ F:World→Prop,(fun w=>F3 w∧Row w 1 (.slice a4 cm.length c4) cm.length (ints cm))=F:=⟨_,rfl⟩
      have HI4:Hid (∀ w,F4 w→F3 w∧Row w 1 (.slice a4 cm.length c4) cm.length (ints cm)):=fun w h=>by rw [←hF4] at h;exact h
      rw [hF4] at DM;have pz:u4.cell? ⟨po,3,none⟩=some (.slice none 0 0):=DM.out.bp.cell 3;have pf:=DM.out.bp.frozen 3;have D4:Hid (Qe w (u4.setCell ⟨po,3,none⟩ (.slice a4 cm.length c4)) b g po _ F4 #[.slice a1 acc1.length c1,.slice a2 acc2.length c2,.slice a3 acc3.length c3,.slice a4 cm.length c4,.slice none 0 0,.slice none 0 0,.slice none 0 0,.slice ad p.dares.length cd,.slice aa p.answers.length ca] r4):=DM.out.store 3 (.slice a4 cm.length c4);clear own4 tp4 k4 HL4 D3 hXlt DM hF4 hst;go_upto_region 33 with (fail);obtain ⟨x4,hx4⟩:∃ x,u4.setCell ⟨po,3,none⟩ (.slice a4 cm.length c4)=x:=⟨_,rfl⟩;rw [hx4] at D4 ⊢;clear hx4 pz pf;have HL5:=Lib.hid (q6_list b g r4 x4 D4.out.tp D4.out.gl);go_wp2_with (go_at_call 126;refine HL5.out.mono ?_);rintro e u5 ⟨ch,r5,a5,c5,rfl,own5,hst,hll5,tp5,k5⟩;have E5:=Lib.hid hst;have hXlt:=Lib.hid D4.out.hX;have DM:=Lib.hid ((D4.out.read k5 tp5).more (Stable.row own5 (fun z hz hm=>by have h1:=(own_ge own5 z hz).1;have h2:=hXlt.out z hm;omega) (by omega)));obtain ⟨F5,hF5⟩:∃ F:World→Prop,(fun w=>F4 w∧Row w 1 (.slice a5 ch.length c5) ch.length (ints ch))=F:=⟨_,rfl⟩
      have HI5:Hid (∀ w,F5 w→F4 w∧Row w 1 (.slice a5 ch.length c5) ch.length (ints ch)):=fun w h=>by rw [←hF5] at h;exact h
      rw [hF5] at DM;have pz:u5.cell? ⟨po,4,none⟩=some (.slice none 0 0):=DM.out.bp.cell 4;have pf:=DM.out.bp.frozen 4;have D5:Hid (Qe w (u5.setCell ⟨po,4,none⟩ (.slice a5 ch.length c5)) b g po _ F5 #[.slice a1 acc1.length c1,.slice a2 acc2.length c2,.slice a3 acc3.length c3,.slice a4 cm.length c4,.slice a5 ch.length c5,.slice none 0 0,.slice none 0 0,.slice ad p.dares.length cd,.slice aa p.answers.length ca] r5):=DM.out.store 4 (.slice a5 ch.length c5);clear own5 tp5 k5 HL5 D4 hXlt DM hF5 hst;go_upto_region 34 with (fail);obtain ⟨x5,hx5⟩:∃ x,u5.setCell ⟨po,4,none⟩ (.slice a5 ch.length c5)=x:=⟨_,rfl⟩;rw [hx5] at D5 ⊢;clear hx5 pz pf;have HC6:=Lib.hid (q6_count b g r5 x5 D5.out.tp);go_wp2_with (go_at_call 123;refine HC6.out.mono ?_);rintro e y6 ⟨N6,q6,rfl,hst,_,hcl,t,kk⟩
      have hNl6:N6≤100000001:=by have:=t.len;omega
      have TR6:=Lib.hid (TR.start list_codec hst);have G6:Hid (Qg ListR 1 24 5 w y6 b g po y6.heap.size _ F5 #[.slice a1 acc1.length c1,.slice a2 acc2.length c2,.slice a3 acc3.length c3,.slice a4 cm.length c4,.slice a5 ch.length c5,.slice none 0 0,.slice none 0 0,.slice ad p.dares.length cd,.slice aa p.answers.length ca] none 0 0 [] q6):=Qg.start (D5.out.read kk t) rfl;clear t kk HC6 D5 hst hcl;obtain ⟨B6,hB6⟩:∃ B,y6.heap.size=B:=⟨_,rfl⟩;rw [hB6] at G6;clear hB6
      go_upto_block 8 with (fail)
      go_cut [17] (fun _ wc=>QEnd ListR 1 24 5 list w b g po B6 F5 #[.slice a1 acc1.length c1,.slice a2 acc2.length c2,.slice a3 acc3.length c3,.slice a4 cm.length c4,.slice a5 ch.length c5,.slice none 0 0,.slice none 0 0,.slice ad p.dares.length cd,.slice aa p.answers.length ca] r5 N6 wc)
      case first =>
       go_wp2_with fail
       go_loopw [17] (fun vi wr=>QRel ListR 1 24 5 list w b g po B6 F5 #[.slice a1 acc1.length c1,.slice a2 acc2.length c2,.slice a3 acc3.length c3,.slice a4 cm.length c4,.slice a5 ch.length c5,.slice none 0 0,.slice none 0 0,.slice ad p.dares.length cd,.slice aa p.answers.length ca] (many list r5) N6 vi wr) (fun vi _=>(intOf vi).toNat)
       case atStart=>exact ⟨N6,q6,[],_,_,_,_,rfl,by simp,TR6.out,G6.out⟩
       case round =>
        obtain ⟨j,r6,acc6,X6,a6,n6,c6,rfl,hN,hf,hD⟩:=hrel;have DD:=Lib.hid hD;have HF:=Lib.hid hf;have HN:=Lib.hid hN
        have haN6:acc6.length≤N6:=by omega
        have hjN:j≤N6:=by omega
        have cb:=hD.de.tp.cells;clear hD hf G6 TR6 hN
        by_cases hgo:0 < j∧r6.bad=false
        rotate_left
        ·skip
         have hk:j=0∨r6.bad=true:=by
          rcases Nat.eq_zero_or_pos j with h|h
          ·exact Or.inl h
          ·right
           cases hb:r6.bad
           ·exact absurd ⟨h,hb⟩ hgo
           ·rfl
         have HE:Hid (QEnd ListR 1 24 5 list w b g po B6 F5 #[.slice a1 acc1.length c1,.slice a2 acc2.length c2,.slice a3 acc3.length c3,.slice a4 cm.length c4,.slice a5 ch.length c5,.slice none 0 0,.slice none 0 0,.slice ad p.dares.length cd,.slice aa p.answers.length ca] r5 N6 wr):=⟨r6,acc6,X6,a6,n6,c6,haN6,HF.out.done hk,DD.out⟩;clear hgo
         by_cases hlt:0 < j
         ·have hb:r6.bad=true:=by
           rcases hk with h|h
           ·omega
           ·exact h
          rw [hb] at cb;clear hb hk;go_wp2_with fail
          go_meet
          case rel=>exact HE.out
         ·obtain rfl:j=0:=by omega
          clear hk;go_wp2_with fail
          go_meet
          case rel=>exact HE.out
        ·obtain ⟨hj,hbd⟩:=hgo;obtain ⟨j,rfl⟩:∃ k,j=k+1:=⟨j - 1,by omega⟩;rw [hbd] at cb;have HBD:=Lib.hid hbd;clear hbd hj;have HCALL:Hid (∀ u,RwAt 152 u b g r6→g < u.heap.size→Calls Tryz.prog 126 #[.pointer (some ⟨b,0,none⟩)] u (ListQ b g r6 u)):=fun u h1 h2=>q6_list b g r6 u h1 h2;have q0:=DD.out.cell (by simp);have qf:=Lib.hid DD.out.frozen;have hgs:g < wr.drew.heap.size:=DD.out.de.gl;have hTd:RwAt 152 wr.drew b g r6:=DD.out.de.tp.keep (S:=[]) (Kept.refl _ _).drew (by simp) (by simp);obtain ⟨i0,hi,hz0,hz1,hz2⟩:=info_parts infoL;go_upto_region 37 with (fail);refine wp_region_T [6,7] (fun w'=>Kept (b::obl (.slice a6 n6 c6)) wr w') (by kernel_rfl) (Kept.refl _ _).drew (fun hH=>?_);refine takeT [1,5,6,7] (i:=0) (v:=?tv7) rfl (by kernel_rfl) (by kernel_rfl) (by kernel_rfl) (by kernel_rfl) (fun _ _ _ h=>h) (Or.inl ⟨by rfl,?ty7⟩) hH ?tr7
         case ty7=>intro w' hSw;(try dsimp only at hSw);go_simp;first|done|with_reducible rfl
         simp only [Act.put,List.setIfInBounds_toArray,List.set_cons_zero,List.set_cons_succ];refine takeT [5,6,7] (i:=1) (v:=?tv8) rfl (by kernel_rfl) (by kernel_rfl) (by kernel_rfl) (by kernel_rfl) (fun _ _ _ h=>h) (Or.inl ⟨by rfl,?ty8⟩) hH ?tr8
         case ty8=>intro w' hSw;(try dsimp only at hSw);go_simp;first|done|with_reducible rfl
         simp only [Act.put,List.setIfInBounds_toArray,List.set_cons_zero,List.set_cons_succ];refine takeT [3,4,5,6,7] (i:=2) (v:=?tv9) rfl (by kernel_rfl) (by kernel_rfl) (by kernel_rfl) (by kernel_rfl) (fun _ _ _ h=>h) (Or.inl ⟨by rfl,?ty9⟩) hH ?tr9
         case ty9=>intro w' hSw;(try dsimp only at hSw);go_simp;first|done|with_reducible rfl
         simp only [Act.put,List.setIfInBounds_toArray,List.set_cons_zero,List.set_cons_succ];refine wpAnyT_ready (rs:=[3]) (by kernel_rfl) (by simp) ?_;refine AllReadyT.cons rfl (fun K hK=>?_) AllReadyT.nil;go_simp;refine (HCALL.out wr.drew hTd hgs).mono ?_;rintro e y ⟨bl,r',aa1,cc1,rfl,own,hst,hal,tpy,kb⟩;have HF2:=Lib.hid (HF.out.step list_codec HBD.out hst);have kby:Kept [b] wr y:=(Kept.refl [b] wr).drew.trans kb
         have hSy:Kept (b::obl (.slice a6 n6 c6)) wr y:=kby.mono fun z _ hz=>by rw [List.mem_singleton] at hz;subst hz;exact List.mem_cons_self
         have hX2:=DD.out.de.hX
         have hRR:Hid (Stable X6 (fun w=>ListR w [.slice aa1 bl.length cc1] bl) y) :=
          (Stable.row own (fun z hz hm=>by have h1:=(own_ge own z hz).1;have h2:=hX2 z hm;have h3:wr.drew.heap.size=wr.heap.size:=rfl;omega) (by omega)).imp fun _ h=>⟨_,rfl,h⟩
         clear hX2;refine hK.out _ _ hSy (fun hH=>?_);clear hK K
         (try skip)
         refine wpAnyT_ready (rs:=[4]) (by kernel_rfl) (by simp) ?_;refine AllReadyT.cons rfl (fun K hK=>?_) AllReadyT.nil;go_simp;refine hK.out _ _ (hH.alloc _) (fun hH=>?_);clear hK K
         (try simp only [Act.put,List.setIfInBounds_toArray,List.set_cons_zero,List.set_cons_succ])
         refine wpAnyT_ready (rs:=[5]) (by kernel_rfl) (by simp) ?_;refine AllReadyT.cons rfl (fun K hK=>?_) AllReadyT.nil;refine qstep_push (DD.out.read kby tpy) rfl _ _ 62 rfl i0 (.slice none 0 0) 24 Tryz.underlying62 hi hz0 hz1 hz2 rfl (by decide) (by decide) rfl _ rfl [.slice aa1 bl.length cc1] bl (rowS rfl _ _ _ rfl) ((Kept.refl _ _).alloc _) hRR.out (by simp [Value.oneCell']) (by omega) ?_;intro p q y2 ks HX;have hS2:Kept (b::obl (.slice a6 n6 c6)) wr y2:=hSy.trans (ks.mono fun z _ hz=>List.mem_cons_of_mem _ hz);have z0:=q0 _ hS2;have f0:=qf.out _ hS2;refine hK.out _ _ hS2 (fun hH=>?_);clear hK K
         (try simp only [Act.put,List.setIfInBounds_toArray])
         refine wpAnyT_ready (rs:=[6]) (by kernel_rfl) (by simp) ?_;refine AllReadyT.last rfl (by kernel_rfl) (fun K hK=>?_);go_simp;refine hK.out _ _ ?_;clear hK K
         (try simp only [Act.put,List.setIfInBounds_toArray,List.set_cons_zero,List.set_cons_succ])
         refine wpAnyT_ready (rs:=[7]) (by kernel_rfl) (by simp) ?_;refine AllReadyT.last rfl (by kernel_rfl) (fun K hK=>?_);go_simp;refine hK.out _ _ ?_;clear hK K
         (try simp only [Act.put,List.setIfInBounds_toArray,List.set_cons_zero,List.set_cons_succ])
         refine wpAnyT_done (by kernel_rfl) ?_ _;have HRn:=Lib.hid (QRel.next (one:=list) (fin:=many list r5) HX HN.out HF2.out);clear HX hS2 hSy q0 hH;go_wp2_with fail
         go_roundw
         case rel=>exact HRn.out
         case measure=>simp [intOf] <;> omega
      case rest =>
       obtain ⟨r6,acc6,X6,a6,n6,c6,haN6,hS,hD⟩:=hcut;have DD:=Lib.hid hD;have E6:=Lib.hid hS;clear hD hS G6 TR6;have hn:=DD.out.nl;subst hn;obtain ⟨Y6,hD',hX',hv'⟩:=DD.out.done (by omega);obtain ⟨F6,hF2⟩:∃ F:World→Prop,(fun w=>F5 w∧RowOf ListR 1 w (.slice a6 acc6.length c6) acc6)=F:=⟨_,rfl⟩
       have HI6:Hid (∀ w,F6 w→F5 w∧RowOf ListR 1 w (.slice a6 acc6.length c6) acc6):=fun w h=>by rw [←hF2] at h;exact h
       rw [hF2] at hD';have D6:Hid (Qe w wc b g po Y6 F6 #[.slice a1 acc1.length c1,.slice a2 acc2.length c2,.slice a3 acc3.length c3,.slice a4 cm.length c4,.slice a5 ch.length c5,.slice a6 acc6.length c6,.slice none 0 0,.slice ad p.dares.length cd,.slice aa p.answers.length ca] r6):=hD';clear hD' hX' hv' hF2 DD;obtain ⟨x6,hx6⟩:∃ x,wc=x:=⟨_,rfl⟩;rw [hx6] at D6 ⊢;clear hx6 wc;have HL7:=Lib.hid (q6_list b g r6 x6 D6.out.tp D6.out.gl);go_wp2_with (go_at_call 126;refine HL7.out.mono ?_);rintro e u7 ⟨es,r7,a7,c7,rfl,own7,hst,hll7,tp7,k7⟩;have E7:=Lib.hid hst;have hXlt:=Lib.hid D6.out.hX;have DM:=Lib.hid ((D6.out.read k7 tp7).more (Stable.row own7 (fun z hz hm=>by have h1:=(own_ge own7 z hz).1;have h2:=hXlt.out z hm;omega) (by omega)));obtain ⟨F7,hF7⟩:∃ F:World→Prop,(fun w=>F6 w∧Row w 1 (.slice a7 es.length c7) es.length (ints es))=F:=⟨_,rfl⟩
       have HI7:Hid (∀ w,F7 w→F6 w∧Row w 1 (.slice a7 es.length c7) es.length (ints es)):=fun w h=>by rw [←hF7] at h;exact h
       rw [hF7] at DM;have pz:u7.cell? ⟨po,6,none⟩=some (.slice none 0 0):=DM.out.bp.cell 6;have pf:=DM.out.bp.frozen 6;have D7:Hid (Qe w (u7.setCell ⟨po,6,none⟩ (.slice a7 es.length c7)) b g po _ F7 #[.slice a1 acc1.length c1,.slice a2 acc2.length c2,.slice a3 acc3.length c3,.slice a4 cm.length c4,.slice a5 ch.length c5,.slice a6 acc6.length c6,.slice a7 es.length c7,.slice ad p.dares.length cd,.slice aa p.answers.length ca] r7):=DM.out.store 6 (.slice a7 es.length c7);clear own7 tp7 k7 HL7 D6 hXlt DM hF7 hst;go_upto_region 39 with (fail);obtain ⟨x7,hx7⟩:∃ x,u7.setCell ⟨po,6,none⟩ (.slice a7 es.length c7)=x:=⟨_,rfl⟩;rw [hx7] at D7 ⊢;clear hx7 pz pf
       have HS7:Hid (Stg nums7 (⟨ns,false⟩:Tp) (acc1,acc2,strip acc3,cm,ch,acc6,es) r7) :=
        Stg.both (both_codec (many_codec spnd_codec) (both_codec (many_codec (many_codec lnk_codec)) (both_codec list_codec (both_codec list_codec (both_codec (many_codec list_codec) list_codec))))) E1.out
         (Stg.both (both_codec (many_codec (many_codec lnk_codec)) (both_codec list_codec (both_codec list_codec (both_codec (many_codec list_codec) list_codec)))) E2.out
          (Stg.both (both_codec list_codec (both_codec list_codec (both_codec (many_codec list_codec) list_codec))) E3.out
           (Stg.both (both_codec list_codec (both_codec (many_codec list_codec) list_codec)) E4.out
            (Stg.both (both_codec (many_codec list_codec) list_codec) E5.out (Stg.both list_codec E6.out E7.out)))))
       obtain ⟨a8,c8,xs,pp,hb8,hs8,hp8,hx8,hg8,hd8⟩:=D7.out.tp.st;have b0:x7.cell? ⟨b,0,none⟩=some (.slice a8 xs.length c8):=hb8.cell 0;have b1:x7.cell? ⟨b,1,none⟩=some (.int .i64 (pp:Int)):=hb8.cell 1;have b2:x7.cell? ⟨b,2,none⟩=some (.bool r7.bad):=hb8.cell 2;have BQ:=Lib.hid D7.out.bq;have KQ:=Lib.hid D7.out.k0;have HST:Hid (total (strip acc3)=nt):=(total_strip acc3).trans HU.out.1.symm
       have hfail:Hid ((r7.bad=true∨pp≠xs.length∨nt≠ts.length)→readR s=(zeroR,false)):=fun h=>by
        rw [HR1.out,if_neg];intro h2;rw [Bool.and_eq_true,ended_iff,decide_eq_true_eq] at h2;obtain ⟨⟨g1,g2⟩,g3⟩:=h2
        cases hb:r7.bad
        ·rw [HS7.out.good hb] at g2 g3;have g4:total (strip acc3)=ts.length:=g3;rw [HST.out] at g4
         rcases h with h|h|h
         ·rw [hb] at h;cases h
         ·have g5:r7.left=[]:=g2;rw [hg8 hb] at g5;have:=congrArg List.length g5;rw [List.length_drop] at this;simp at this;omega
         ·exact h g4
        ·rw [(HS7.out.bad hb).1] at g1;cases g1
       have hgood:Hid (r7.bad=false→pp=xs.length→nt=ts.length→readR s=(⟨acc1,acc2,acc3,cm,ch,acc6,es,p⟩,true)):=fun h1 h2 h3=>by
        have h5:terms acc3=ts:=by have:=HU.out.2 (by omega);rw [this,h3];exact List.take_length
        obtain ⟨h6,h7⟩:=attach_of (accL:=acc3) rfl h5;rw [HR1.out,HS7.out.good h1,if_pos]
        ·unfold mkR
         simp only
         rw [h6]
        ·rw [Bool.and_eq_true,ended_iff,decide_eq_true_eq];exact ⟨⟨h1,by show r7.left=[];rw [hg8 h1,h2];simp⟩,h7⟩
       obtain ⟨L,hL⟩:∃ L,xs.length=L:=⟨_,rfl⟩;obtain ⟨M,hM⟩:∃ M,ts.length=M:=⟨_,rfl⟩;rw [hL] at b0 hfail hgood hp8 hx8;have HMM:=Lib.hid hM;rw [hM] at hfail hgood
       have hM9:M≤9223372036854775807:=by omega
       clear hb8 hs8 hg8 hd8 HR1 HS7 hL hM;rw [HMM.out]
       cases hbd:r7.bad
       ·rw [hbd] at b2
        by_cases hpl:pp=L
        ·by_cases hnt2:nt=M
         ·have HR:=Lib.hid (hgood.out hbd hpl hnt2)
          have hq:((pp:Int) != (L:Int))=false:=by simp [hpl]
          have hq2:((nt:Int) != (M:Int))=false:=by simp [hnt2]
          clear hfail hgood hpl hnt2;go_upto_region 39 with (fail)
          go_quiet (fail)
          obtain ⟨y,hy⟩:∃ y,x7.drewN nq=y:=⟨_,rfl⟩;have ky:Kept [] x7 y:=hy▸(Kept.refl _ _).drewN nq;rw [hy];have BY:=Lib.hid (BQ.out.kept ky (by simp));have KY:=Lib.hid (KQ.out.trans ky);clear hy b0 b1 b2;have pc0:y.cell? ⟨po,0,none⟩=some (.slice a1 acc1.length c1):=(D7.out.bp.kept ky (by simp)).cell 0;have pc1:y.cell? ⟨po,1,none⟩=some (.slice a2 acc2.length c2):=(D7.out.bp.kept ky (by simp)).cell 1;have pc2:y.cell? ⟨po,2,none⟩=some (.slice a3 acc3.length c3):=(D7.out.bp.kept ky (by simp)).cell 2;have pc3:y.cell? ⟨po,3,none⟩=some (.slice a4 cm.length c4):=(D7.out.bp.kept ky (by simp)).cell 3;have pc4:y.cell? ⟨po,4,none⟩=some (.slice a5 ch.length c5):=(D7.out.bp.kept ky (by simp)).cell 4;have pc5:y.cell? ⟨po,5,none⟩=some (.slice a6 acc6.length c6):=(D7.out.bp.kept ky (by simp)).cell 5;have pc6:y.cell? ⟨po,6,none⟩=some (.slice a7 es.length c7):=(D7.out.bp.kept ky (by simp)).cell 6;have pc7:y.cell? ⟨po,7,none⟩=some (.slice ad p.dares.length cd):=(D7.out.bp.kept ky (by simp)).cell 7;have pc8:y.cell? ⟨po,8,none⟩=some (.slice aa p.answers.length ca):=(D7.out.bp.kept ky (by simp)).cell 8;have z0:y.cell? ⟨w.heap.size,0,none⟩=some (.slice none 0 0):=BY.out.cell 0;have y0:=BY.out.frozen 0;have z1:y.cell? ⟨w.heap.size,1,none⟩=some (.slice none 0 0):=BY.out.cell 1;have y1:=BY.out.frozen 1;have z2:y.cell? ⟨w.heap.size,2,none⟩=some (.slice none 0 0):=BY.out.cell 2;have y2:=BY.out.frozen 2;have z3:y.cell? ⟨w.heap.size,3,none⟩=some (.slice none 0 0):=BY.out.cell 3;have y3:=BY.out.frozen 3;have z4:y.cell? ⟨w.heap.size,4,none⟩=some (.slice none 0 0):=BY.out.cell 4
          have y4:=BY.out.frozen 4;have z5:y.cell? ⟨w.heap.size,5,none⟩=some (.slice none 0 0):=BY.out.cell 5;have y5:=BY.out.frozen 5;have z6:y.cell? ⟨w.heap.size,6,none⟩=some (.slice none 0 0):=BY.out.cell 6;have y6:=BY.out.frozen 6;have z7:y.cell? ⟨w.heap.size,7,none⟩=some (.slice none 0 0):=BY.out.cell 7;have y7:=BY.out.frozen 7;have z8:y.cell? ⟨w.heap.size,8,none⟩=some (.slice none 0 0):=BY.out.cell 8;have y8:=BY.out.frozen 8
          have hpq:po≠w.heap.size:=by have:=D7.out.wp;omega
          have hqp:w.heap.size≠po:=fun h=>hpq h.symm;go_wp2_with fail;obtain ⟨wf,hwf⟩:∃ wf,(((((((((y.setCell ⟨w.heap.size,0,none⟩ (.slice a1 acc1.length c1)).setCell ⟨w.heap.size,1,none⟩ (.slice a2 acc2.length c2)).setCell ⟨w.heap.size,2,none⟩ (.slice a3 acc3.length c3)).setCell ⟨w.heap.size,3,none⟩ (.slice a4 cm.length c4)).setCell ⟨w.heap.size,4,none⟩ (.slice a5 ch.length c5)).setCell ⟨w.heap.size,5,none⟩ (.slice a6 acc6.length c6)).setCell ⟨w.heap.size,6,none⟩ (.slice a7 es.length c7)).setCell ⟨w.heap.size,7,none⟩ (.slice ad p.dares.length cd)).setCell ⟨w.heap.size,8,none⟩ (.slice aa p.answers.length ca))=wf:=⟨_,rfl⟩;have kk:Kept [w.heap.size] x7 wf:=hwf▸(((((((((((ky.mono (by simp)):Kept [w.heap.size] x7 y).setCell (by simp) _).setCell (by simp) _).setCell (by simp) _).setCell (by simp) _).setCell (by simp) _).setCell (by simp) _).setCell (by simp) _).setCell (by simp) _).setCell (by simp) _);have kq:Kept [] w wf:=hwf▸(((((((((KY.out.setCell (Or.inr (Nat.le_refl _)) _).setCell (Or.inr (Nat.le_refl _)) _).setCell (Or.inr (Nat.le_refl _)) _).setCell (Or.inr (Nat.le_refl _)) _).setCell (Or.inr (Nat.le_refl _)) _).setCell (Or.inr (Nat.le_refl _)) _).setCell (Or.inr (Nat.le_refl _)) _).setCell (Or.inr (Nat.le_refl _)) _).setCell (Or.inr (Nat.le_refl _)) _)
          have BB:Blk wf w.heap.size 67 #[.slice a1 acc1.length c1,.slice a2 acc2.length c2,.slice a3 acc3.length c3,.slice a4 cm.length c4,.slice a5 ch.length c5,.slice a6 acc6.length c6,.slice a7 es.length c7,.slice ad p.dares.length cd,.slice aa p.answers.length ca]:=by have:=(((((((((BY.out.set_ 0 (.slice a1 acc1.length c1)).set_ 1 (.slice a2 acc2.length c2)).set_ 2 (.slice a3 acc3.length c3)).set_ 3 (.slice a4 cm.length c4)).set_ 4 (.slice a5 ch.length c5)).set_ 5 (.slice a6 acc6.length c6)).set_ 6 (.slice a7 es.length c7)).set_ 7 (.slice ad p.dares.length cd)).set_ 8 (.slice aa p.answers.length ca));rw [hwf] at this;simpa [zeros9] using this
          have zz0:=BB.cell 0;have zz1:=BB.cell 1;have zz2:=BB.cell 2;have zz3:=BB.cell 3;have zz4:=BB.cell 4;have zz5:=BB.cell 5;have zz6:=BB.cell 6;have zz7:=BB.cell 7;have zz8:=BB.cell 8;rw [hwf];have hF:=D7.out.fin [w.heap.size] wf kk (fun z hz _=>by rw [List.mem_singleton] at hz;subst hz;exact D7.out.qX);refine bodyPost_ret (v:=.tuple #[.agg #[.slice a1 acc1.length c1,.slice a2 acc2.length c2,.slice a3 acc3.length c3,.slice a4 cm.length c4,.slice a5 ch.length c5,.slice a6 acc6.length c6,.slice a7 es.length c7,.slice ad p.dares.length cd,.slice aa p.answers.length ca],.bool true]) (by simp [results,Tryz.results46,go_sem,zz0,zz1,zz2,zz3,zz4,zz5,zz6,zz7,zz8]) rfl ?_;rw [HR.out];obtain ⟨hF,h7⟩:=HI7.out _ hF;obtain ⟨hF,h6⟩:=HI6.out _ hF;obtain ⟨hF,h5⟩:=HI5.out _ hF;obtain ⟨hF,h4⟩:=HI4.out _ hF;obtain ⟨hF,h3⟩:=HI3.out _ hF;obtain ⟨hF,h2⟩:=HI2.out _ hF;obtain ⟨hF,h1⟩:=HI1.out _ hF;obtain ⟨⟨h8,h9⟩,_⟩:=HI0.out _ hF;exact ⟨_,rfl,⟨_,_,_,_,_,_,_,_,_,rfl,h1,h2,h3,h4,h5,h6,h7,h8,h9⟩,kq⟩
         ·have HR:=Lib.hid (hfail.out (Or.inr (Or.inr hnt2)))
          have hq:((pp:Int) != (L:Int))=false:=by simp [hpl]
          have hq2:((nt:Int) != (M:Int))=true:=by simp;omega
          clear hfail hgood hpl hnt2 D7;go_upto_region 39 with (fail)
          go_quiet (fail)
          obtain ⟨y,hy⟩:∃ y,x7.drewN nq=y:=⟨_,rfl⟩;have ky:Kept [] x7 y:=hy▸(Kept.refl _ _).drewN nq;rw [hy];have BY:=Lib.hid (BQ.out.kept ky (by simp));have KY:=Lib.hid (KQ.out.trans ky);clear hy b0 b1 b2;have z0:y.cell? ⟨w.heap.size,0,none⟩=some (.slice none 0 0):=BY.out.cell 0;have y0:=BY.out.frozen 0;have z1:y.cell? ⟨w.heap.size,1,none⟩=some (.slice none 0 0):=BY.out.cell 1;have y1:=BY.out.frozen 1;have z2:y.cell? ⟨w.heap.size,2,none⟩=some (.slice none 0 0):=BY.out.cell 2;have y2:=BY.out.frozen 2;have z3:y.cell? ⟨w.heap.size,3,none⟩=some (.slice none 0 0):=BY.out.cell 3;have y3:=BY.out.frozen 3;have z4:y.cell? ⟨w.heap.size,4,none⟩=some (.slice none 0 0):=BY.out.cell 4;have y4:=BY.out.frozen 4;have z5:y.cell? ⟨w.heap.size,5,none⟩=some (.slice none 0 0):=BY.out.cell 5;have y5:=BY.out.frozen 5;have z6:y.cell? ⟨w.heap.size,6,none⟩=some (.slice none 0 0):=BY.out.cell 6;have y6:=BY.out.frozen 6;have z7:y.cell? ⟨w.heap.size,7,none⟩=some (.slice none 0 0):=BY.out.cell 7;have y7:=BY.out.frozen 7;have z8:y.cell? ⟨w.heap.size,8,none⟩=some (.slice none 0 0):=BY.out.cell 8;have y8:=BY.out.frozen 8;go_wp2_with fail;refine bodyPost_ret (v:=.tuple #[.agg zeros9,.bool false]) (by simp [results,Tryz.results46,go_sem,zeros9,z0,z1,z2,z3,z4,z5,z6,z7,z8]) rfl ?_;rw [HR.out];refine ⟨_,rfl,recV_zero _,?_⟩
          repeat (refine Kept.setCell ?_ (Or.inr (Nat.le_refl _)) _)
          exact KY.out
        ·have HR:=Lib.hid (hfail.out (Or.inr (Or.inl hpl)))
         have hq:((pp:Int) != (L:Int))=true:=by simp;omega
         clear hfail hgood hpl D7;go_upto_region 39 with (fail)
         go_quiet (fail)
         obtain ⟨y,hy⟩:∃ y,x7.drewN nq=y:=⟨_,rfl⟩;have ky:Kept [] x7 y:=hy▸(Kept.refl _ _).drewN nq;rw [hy];have BY:=Lib.hid (BQ.out.kept ky (by simp));have KY:=Lib.hid (KQ.out.trans ky);clear hy b0 b1 b2;have z0:y.cell? ⟨w.heap.size,0,none⟩=some (.slice none 0 0):=BY.out.cell 0;have y0:=BY.out.frozen 0;have z1:y.cell? ⟨w.heap.size,1,none⟩=some (.slice none 0 0):=BY.out.cell 1;have y1:=BY.out.frozen 1;have z2:y.cell? ⟨w.heap.size,2,none⟩=some (.slice none 0 0):=BY.out.cell 2;have y2:=BY.out.frozen 2;have z3:y.cell? ⟨w.heap.size,3,none⟩=some (.slice none 0 0):=BY.out.cell 3;have y3:=BY.out.frozen 3;have z4:y.cell? ⟨w.heap.size,4,none⟩=some (.slice none 0 0):=BY.out.cell 4;have y4:=BY.out.frozen 4;have z5:y.cell? ⟨w.heap.size,5,none⟩=some (.slice none 0 0):=BY.out.cell 5;have y5:=BY.out.frozen 5;have z6:y.cell? ⟨w.heap.size,6,none⟩=some (.slice none 0 0):=BY.out.cell 6;have y6:=BY.out.frozen 6;have z7:y.cell? ⟨w.heap.size,7,none⟩=some (.slice none 0 0):=BY.out.cell 7;have y7:=BY.out.frozen 7;have z8:y.cell? ⟨w.heap.size,8,none⟩=some (.slice none 0 0):=BY.out.cell 8;have y8:=BY.out.frozen 8;go_wp2_with fail;refine bodyPost_ret (v:=.tuple #[.agg zeros9,.bool false]) (by simp [results,Tryz.results46,go_sem,zeros9,z0,z1,z2,z3,z4,z5,z6,z7,z8]) rfl ?_;rw [HR.out];refine ⟨_,rfl,recV_zero _,?_⟩
         repeat (refine Kept.setCell ?_ (Or.inr (Nat.le_refl _)) _)
         exact KY.out
       ·rw [hbd] at b2;have HR:=Lib.hid (hfail.out (Or.inl hbd));clear hfail hgood D7;go_upto_region 39 with (fail)
        go_quiet (fail)
        obtain ⟨y,hy⟩:∃ y,x7.drewN nq=y:=⟨_,rfl⟩;have ky:Kept [] x7 y:=hy▸(Kept.refl _ _).drewN nq;rw [hy];have BY:=Lib.hid (BQ.out.kept ky (by simp));have KY:=Lib.hid (KQ.out.trans ky);clear hy b0 b1 b2;have z0:y.cell? ⟨w.heap.size,0,none⟩=some (.slice none 0 0):=BY.out.cell 0;have y0:=BY.out.frozen 0;have z1:y.cell? ⟨w.heap.size,1,none⟩=some (.slice none 0 0):=BY.out.cell 1;have y1:=BY.out.frozen 1;have z2:y.cell? ⟨w.heap.size,2,none⟩=some (.slice none 0 0):=BY.out.cell 2;have y2:=BY.out.frozen 2;have z3:y.cell? ⟨w.heap.size,3,none⟩=some (.slice none 0 0):=BY.out.cell 3;have y3:=BY.out.frozen 3;have z4:y.cell? ⟨w.heap.size,4,none⟩=some (.slice none 0 0):=BY.out.cell 4;have y4:=BY.out.frozen 4;have z5:y.cell? ⟨w.heap.size,5,none⟩=some (.slice none 0 0):=BY.out.cell 5;have y5:=BY.out.frozen 5;have z6:y.cell? ⟨w.heap.size,6,none⟩=some (.slice none 0 0):=BY.out.cell 6;have y6:=BY.out.frozen 6;have z7:y.cell? ⟨w.heap.size,7,none⟩=some (.slice none 0 0):=BY.out.cell 7;have y7:=BY.out.frozen 7;have z8:y.cell? ⟨w.heap.size,8,none⟩=some (.slice none 0 0):=BY.out.cell 8;have y8:=BY.out.frozen 8;go_wp2_with fail;refine bodyPost_ret (v:=.tuple #[.agg zeros9,.bool false]) (by simp [results,Tryz.results46,go_sem,zeros9,z0,z1,z2,z3,z4,z5,z6,z7,z8]) rfl ?_;rw [HR.out];refine ⟨_,rfl,recV_zero _,?_⟩
        repeat (refine Kept.setCell ?_ (Or.inr (Nat.le_refl _)) _)
        exact KY.out
end Go.Proofs.YtpcdfepndmconaaGreatDoor
