/- A record is read: the walk of show.Decode. -/
import Derived.Test.YtcidfldeiklcjaaGreatDoorDecT
import Derived.Test.YtcidfldeiklcjaaGreatDoorDeL
namespace Go.Proofs.YtcidfldeiklcjaaGreatDoor
open Go.RowKit Tape

set_option maxRecDepth 100000 in
set_option maxHeartbeats 32000000 in
theorem dec_any (s : List UInt8) (w : World) (hE : Env w) (hs : s.length ≤ 100000000) :
    Calls Tryz.prog 83 #[.string ⟨s.toArray⟩] w (DecRet (readR s) w) := by
  obtain ⟨ts, rd1, hts⟩ : ∃ ts rd, Wire.texts ⟨s, false⟩ = (ts, rd) := ⟨_, _, rfl⟩
  obtain ⟨ns, rd2, hns⟩ : ∃ ns rd, Wire.nums rd1 = (ns, rd) := ⟨_, _, rfl⟩
  obtain ⟨tx, rd3, htx⟩ : ∃ tx rd, Wire.text rd2 = (tx, rd) := ⟨_, _, rfl⟩
  obtain ⟨p, ok, hpf⟩ : ∃ p ok, readPf tx = (p, ok) := ⟨_, _, rfl⟩
  have HEQ := Lib.hid (readR_eq hts hns htx hpf)
  have fit0 : Fits ⟨s, false⟩ := hs
  have fit1 : Fits rd1 := fits_texts' hts fit0
  have fit2 : Fits rd2 := fits_nums' hns fit1
  have hnl : ns.length ≤ 100000001 := by have := nums_len rd1 fit1; rw [hns] at this; exact this
  have htl : tx.length ≤ 100000000 := by have := (fits_text fit2).2; rw [htx] at this; exact this
  obtain ⟨W, hW⟩ : ∃ W, w.alloc (.cells zeros9 135) = W := ⟨_, rfl⟩
  have hbW : Blk W w.heap.size 135 zeros9 := hW ▸ Blk.new _ _ _
  have hkW : Kept [] w W := hW ▸ (Kept.refl _ _).alloc _
  have hwW : w.heap.size < W.heap.size := by rw [← hW]; simp
  have hw0 : 0 < w.heap.size := by have := hE.size; have : 0 < NG := (by decide); omega
  have HEW := Lib.hid (hE.kept0 hkW)
  have HO := Lib.hid (rd_open s W HEW.out)
  have HW := Lib.hid hW
  have HTS := Lib.hid hts
  have HNS := Lib.hid hns
  have HTX := Lib.hid htx
  have HPF := Lib.hid hpf
  clear hts hns htx hpf hW hE
  go_enter Tryz.func83, Tryz.ntmps83
  go_upto_region 1 with (fail)
  rw [show w.alloc (.cells #[.slice none 0 0, .slice none 0 0, .slice none 0 0, .slice none 0 0, .slice none 0 0, .slice none 0 0, .slice none 0 0, .slice none 0 0, .slice none 0 0] 135) = W from HW.out]
  go_wp2_with (go_at_call 124; refine HO.out.mono ?_)
  first | rintro e w1 rfl h1 k1 | rintro e w1 ⟨rfl, h1, k1⟩
  have E1 := Lib.hid (HEW.out.kept0 k1)
  have HT := Lib.hid (rd_textsP W.heap.size ⟨s, false⟩ HTS.out w1 h1 E1.out fit0)
  have K1 := Lib.hid (hkW.trans k1)
  have hs1 := k1.size
  have h1l := h1.2.lt
  have B1 := Lib.hid (hbW.kept k1 (by simp))
  obtain ⟨rb, hrb⟩ : ∃ rb, W.heap.size = rb := ⟨_, rfl⟩
  rw [hrb] at HT hs1 h1l hwW ⊢
  clear h1 k1 HO hbW HEW HTS hkW HW hrb
  go_upto_region 2 with (fail)
  go_wp2_with (go_at_call 130; refine HT.out.mono ?_)
  rintro e w2 ⟨at_, ct, rfl, ownT, h2, k2⟩
  have E2 := Lib.hid (E1.out.kept k2 (by intro z hz; rw [List.mem_singleton] at hz; subst hz; exact h2.1))
  have HN := Lib.hid (rd_numsP rb rd1 HNS.out w2 h2 E2.out fit1)
  have K2 := Lib.hid (K1.out.fresh k2 (by simp; omega))
  have B2 := Lib.hid (B1.out.kept k2 (by simp; omega))
  have hs2 := k2.size
  have OT2 := Lib.hid ownT
  have HT2 := Lib.hid (own_ge ownT)
  clear h2 k2 HT K1 B1 E1 HNS ownT
  go_upto_region 3 with (fail)
  go_wp2_with (go_at_call 125; refine HN.out.mono ?_)
  rintro e w3 ⟨av, cv, rfl, ownN, h3, k3⟩
  have E3 := Lib.hid (E2.out.kept k3 (by intro z hz; rw [List.mem_singleton] at hz; subst hz; exact h3.1))
  have K3 := Lib.hid (K2.out.fresh k3 (by simp; omega))
  have B3 := Lib.hid (B2.out.kept k3 (by simp; omega))
  have hs3 := k3.size
  have OT3 := Lib.hid (own_keep OT2.out k3 (fun z hz hm => by have := own_ge OT2.out z hz; rw [List.mem_singleton] at hm; omega))
  obtain ⟨g, hsrc, hg⟩ := Src.of_own ownN (by omega)
  have hg3 : g = 0 ∨ w2.heap.size ≤ g ∧ g < w3.heap.size := hg
  have HS3 := Lib.hid hsrc
  have H3 := Lib.hid h3
  clear h3 k3 HN K2 B2 E2 OT2 ownN hsrc hg
  go_upto_region 4 with (fail)
  obtain ⟨w4, hw4⟩ : ∃ w4, w3.alloc (.cells #[.slice av ns.length cv, .bool false] 174) = w4 := ⟨_, rfl⟩
  have k34 : Kept [] w3 w4 := hw4 ▸ (Kept.refl _ _).alloc _
  have hs4 : w3.heap.size < w4.heap.size := by rw [← hw4]; simp
  have T4 : Hid (TpAt 174 w4 w3.heap.size g ⟨ns, false⟩) := ⟨⟨av, cv, hw4 ▸ Blk.new _ _ _, HS3.out.keep k34 (by simp)⟩, by omega⟩
  have K4 := Lib.hid (K3.out.trans k34)
  have B4 := Lib.hid (B3.out.kept k34 (by simp))
  have E4 := Lib.hid (E3.out.kept0 k34)
  have OT4 := Lib.hid (own_keep OT3.out k34 (by simp))
  have h4 : RdAt w4 rb rd2 := ⟨H3.out.1, H3.out.2.kept k34 (by simp)⟩
  have HX : Hid (Calls Tryz.prog 126 #[.pointer (some ⟨rb, 0, none⟩)] w4 (TextP rb tx rd3 w4)) := rd_text' rb rd2 HTX.out w4 h4 E4.out fit2
  rw [hw4]
  obtain ⟨b, hb⟩ : ∃ b, w3.heap.size = b := ⟨_, rfl⟩
  rw [hb] at T4 hs4 hg3 hs3 ⊢
  clear hw4 k34 K3 B3 E3 OT3 h4 H3 HS3 HTX hb
  go_wp2_with (go_at_call 126; refine HX.out.mono ?_)
  rintro e w5 ⟨rfl, h5, k5⟩
  have E5 := Lib.hid (E4.out.kept k5 (by intro z hz; rw [List.mem_singleton] at hz; subst hz; exact h5.1))
  have K5 := Lib.hid (K4.out.fresh k5 (by simp; omega))
  have B5 := Lib.hid (B4.out.kept k5 (by simp; omega))
  have T5 := Lib.hid (T4.out.keep k5 (by simp; omega) (by simp; omega))
  have OT5 := Lib.hid (own_keep OT4.out k5 (fun z hz hm => by have := own_ge OT4.out z hz; rw [List.mem_singleton] at hm; omega))
  have hs5 := k5.size
  have HP : Hid (Calls Tryz.prog 133 #[.string ⟨tx.toArray⟩] w5 (PfDP (p, ok) w5)) := by have := pfDec_any tx w5 E5.out htl; rwa [HPF.out] at this
  have H5 := Lib.hid h5
  clear h5 k5 HX K4 B4 E4 OT4 T4 HPF
  go_wp2_with (go_at_call 133; refine HP.out.mono ?_)
  rintro e w6 ⟨ad, cd, aa, ca, rfl, hda, han, k6⟩
  obtain ⟨w7, hw7⟩ : ∃ w7, w6.alloc (.cells #[.slice ad p.dares.length cd, .slice aa p.answers.length ca] 133) = w7 := ⟨_, rfl⟩
  have k67 : Kept [] w6 w7 := hw7 ▸ (Kept.refl _ _).alloc _
  have hs7 : w6.heap.size < w7.heap.size := by rw [← hw7]; simp
  have BP7 : Hid (Blk w7 w6.heap.size 133 #[.slice ad p.dares.length cd, .slice aa p.answers.length ca]) := hw7 ▸ Blk.new _ _ _
  have hs6 := k6.size
  have K7 := Lib.hid (K5.out.trans (k6.trans k67))
  have B7 := Lib.hid (B5.out.kept (k6.trans k67) (by simp))
  have T7 := Lib.hid (T5.out.keep (k6.trans k67) (by simp) (by simp))
  have OT7 := Lib.hid (own_keep OT5.out (k6.trans k67) (by simp))
  have HDA := Lib.hid hda
  have HAN := Lib.hid han
  have HD : Hid (Calls Tryz.prog 131 #[.pointer (some ⟨rb, 0, none⟩)] w7 (BoolP (done rd3) w7)) := rd_done rb rd3 w7 ⟨H5.out.1, H5.out.2.kept (k6.trans k67) (by simp)⟩
  have hK67 := Lib.hid k67
  go_upto_region 5 with (fail)
  obtain ⟨pb, hpb⟩ : ∃ pb, w6.heap.size = pb := ⟨_, rfl⟩
  rw [hpb] at BP7 hs7 hs6 ⊢
  have hpb6 := Lib.hid hpb
  clear hda han k67 hw7 k6 K5 B5 T5 OT5 H5 E5 HP hpb
  obtain ⟨dn, hdn⟩ : ∃ dn, done rd3 = dn := ⟨_, rfl⟩
  rw [hdn] at HD
  have hjr : Hid (readR s = joinR ts ns rd3 (p, ok)) := HEQ.out
  have hfail : Hid ((dn && ok) = false → readR s = (zeroR, false)) := fun h => by
    rw [hjr.out]; unfold joinR; rw [if_neg (by rw [hdn]; simp only [Bool.and_eq_true]; intro h2; rw [h2.1.1.1, h2.1.1.2] at h; cases h)]
  have hgo : Hid (dn = true → ok = true → readR s = if ended (nums7 ⟨ns, false⟩).2 && decide (total (nums7 ⟨ns, false⟩).1.2.2.1 = ts.length) then (mkR (nums7 ⟨ns, false⟩).1 ts p, true) else (zeroR, false)) := fun h1 h2 => by
    rw [hjr.out]; unfold joinR; rw [hdn, h1, h2]; simp only [Bool.true_and]
  clear hdn HEQ hjr
  go_wp2_with (go_at_call 131; refine HD.out.mono ?_)
  rintro e w8 ⟨rfl, k8⟩
  have B8 := Lib.hid (B7.out.kept k8 (by simp))
  have K8 := Lib.hid (K7.out.trans k8)
  clear HD
  cases hdd : dn
  · have HR := Lib.hid (hfail.out (by rw [hdd]; rfl))
    clear hfail hgo
    have z0 : w8.cell? ⟨w.heap.size, 0, none⟩ = some (.slice none 0 0) := B8.out.cell 0
    have y0 := B8.out.frozen 0
    have z1 : w8.cell? ⟨w.heap.size, 1, none⟩ = some (.slice none 0 0) := B8.out.cell 1
    have y1 := B8.out.frozen 1
    have z2 : w8.cell? ⟨w.heap.size, 2, none⟩ = some (.slice none 0 0) := B8.out.cell 2
    have y2 := B8.out.frozen 2
    have z3 : w8.cell? ⟨w.heap.size, 3, none⟩ = some (.slice none 0 0) := B8.out.cell 3
    have y3 := B8.out.frozen 3
    have z4 : w8.cell? ⟨w.heap.size, 4, none⟩ = some (.slice none 0 0) := B8.out.cell 4
    have y4 := B8.out.frozen 4
    have z5 : w8.cell? ⟨w.heap.size, 5, none⟩ = some (.slice none 0 0) := B8.out.cell 5
    have y5 := B8.out.frozen 5
    have z6 : w8.cell? ⟨w.heap.size, 6, none⟩ = some (.slice none 0 0) := B8.out.cell 6
    have y6 := B8.out.frozen 6
    have z7 : w8.cell? ⟨w.heap.size, 7, none⟩ = some (.slice none 0 0) := B8.out.cell 7
    have y7 := B8.out.frozen 7
    have z8 : w8.cell? ⟨w.heap.size, 8, none⟩ = some (.slice none 0 0) := B8.out.cell 8
    have y8 := B8.out.frozen 8
    go_wp2_with fail
    refine bodyPost_ret (v := .tuple #[.agg zeros9, .bool false]) (by simp [results, Tryz.results83, go_sem, zeros9, z0, z1, z2, z3, z4, z5, z6, z7, z8]) rfl ?_
    rw [HR.out]
    refine ⟨_, rfl, recV_zero _, ?_⟩
    repeat (refine Kept.setCell ?_ (Or.inr (Nat.le_refl _)) _)
    exact K8.out
  · cases hok : ok
    · have HR := Lib.hid (hfail.out (by rw [hdd, hok]; rfl))
      clear hfail hgo
      have z0 : w8.cell? ⟨w.heap.size, 0, none⟩ = some (.slice none 0 0) := B8.out.cell 0
      have y0 := B8.out.frozen 0
      have z1 : w8.cell? ⟨w.heap.size, 1, none⟩ = some (.slice none 0 0) := B8.out.cell 1
      have y1 := B8.out.frozen 1
      have z2 : w8.cell? ⟨w.heap.size, 2, none⟩ = some (.slice none 0 0) := B8.out.cell 2
      have y2 := B8.out.frozen 2
      have z3 : w8.cell? ⟨w.heap.size, 3, none⟩ = some (.slice none 0 0) := B8.out.cell 3
      have y3 := B8.out.frozen 3
      have z4 : w8.cell? ⟨w.heap.size, 4, none⟩ = some (.slice none 0 0) := B8.out.cell 4
      have y4 := B8.out.frozen 4
      have z5 : w8.cell? ⟨w.heap.size, 5, none⟩ = some (.slice none 0 0) := B8.out.cell 5
      have y5 := B8.out.frozen 5
      have z6 : w8.cell? ⟨w.heap.size, 6, none⟩ = some (.slice none 0 0) := B8.out.cell 6
      have y6 := B8.out.frozen 6
      have z7 : w8.cell? ⟨w.heap.size, 7, none⟩ = some (.slice none 0 0) := B8.out.cell 7
      have y7 := B8.out.frozen 7
      have z8 : w8.cell? ⟨w.heap.size, 8, none⟩ = some (.slice none 0 0) := B8.out.cell 8
      have y8 := B8.out.frozen 8
      go_wp2_with fail
      refine bodyPost_ret (v := .tuple #[.agg zeros9, .bool false]) (by simp [results, Tryz.results83, go_sem, zeros9, z0, z1, z2, z3, z4, z5, z6, z7, z8]) rfl ?_
      rw [HR.out]
      refine ⟨_, rfl, recV_zero _, ?_⟩
      repeat (refine Kept.setCell ?_ (Or.inr (Nat.le_refl _)) _)
      exact K8.out
    · have HR1 := Lib.hid (hgo.out hdd hok)
      clear hfail hgo
      have pc0 := (BP7.out.kept k8 (by simp)).cell 0
      have pc1 := (BP7.out.kept k8 (by simp)).cell 1
      have T8 := Lib.hid (T7.out.keep k8 (by simp) (by simp))
      have OT8 := Lib.hid (own_keep OT7.out k8 (by simp))
      have hs8 := k8.size
      have K68 := Lib.hid (hK67.out.trans k8)
      clear K7 B7 T7 OT7 k8 BP7 hK67
      go_upto_region 8 with (fail)
      obtain ⟨w9, hw9⟩ : ∃ w9, w8.alloc (.cells #[.slice none 0 0, .slice none 0 0, .slice none 0 0, .slice none 0 0, .slice none 0 0, .slice none 0 0, .slice none 0 0, .slice ad p.dares.length cd, .slice aa p.answers.length ca] 135) = w9 := ⟨_, rfl⟩
      have k89 : Kept [] w8 w9 := hw9 ▸ (Kept.refl _ _).alloc _
      have hs9 : w8.heap.size < w9.heap.size := by rw [← hw9]; simp
      obtain ⟨po, hpo⟩ : ∃ po, w8.heap.size = po := ⟨_, rfl⟩
      have hbp : Blk w9 po 135 #[.slice none 0 0, .slice none 0 0, .slice none 0 0, .slice none 0 0, .slice none 0 0, .slice none 0 0, .slice none 0 0, .slice ad p.dares.length cd, .slice aa p.answers.length ca] := by rw [← hpo, ← hw9]; exact Blk.new _ _ _
      have hfin : Stable [b, po, w.heap.size] (fun w => (RowOf ListR 1 w (.slice ad p.dares.length cd) p.dares ∧ RowOf ListsR 1 w (.slice aa p.answers.length ca) p.answers) ∧ Row w 1 (.slice at_ ts.length ct) ts.length (strs ts)) w9 :=
        ((HDA.out.and HAN.out).step (K68.out.trans k89) (by simp) (fun z hz => by
          have h6 := hpb6.out
          simp only [List.mem_cons, List.not_mem_nil, or_false] at hz
          rw [List.mem_range]
          rcases hz with rfl | rfl | rfl <;> omega)).and (Stable.row (own_keep OT8.out k89 (by simp)) (fun z hz hm => by
          have := HT2.out z hz
          simp only [List.mem_cons, List.not_mem_nil, or_false] at hm
          rcases hm with rfl | rfl | rfl <;> omega) (own_max OT8.out (by decide)))
      obtain ⟨F0, hF0⟩ : ∃ F : World → Prop, (fun w => (RowOf ListR 1 w (.slice ad p.dares.length cd) p.dares ∧ RowOf ListsR 1 w (.slice aa p.answers.length ca) p.answers) ∧ Row w 1 (.slice at_ ts.length ct) ts.length (strs ts)) = F := ⟨_, rfl⟩
      have HI0 : Hid (∀ w, F0 w → (RowOf ListR 1 w (.slice ad p.dares.length cd) p.dares ∧ RowOf ListsR 1 w (.slice aa p.answers.length ca) p.answers) ∧ Row w 1 (.slice at_ ts.length ct) ts.length (strs ts)) := fun w h => by rw [← hF0] at h; exact h
      rw [hF0] at hfin
      have D9 : Hid (De w w9 b g po [b, po, w.heap.size] F0 #[.slice none 0 0, .slice none 0 0, .slice none 0 0, .slice none 0 0, .slice none 0 0, .slice none 0 0, .slice none 0 0, .slice ad p.dares.length cd, .slice aa p.answers.length ca] ⟨ns, false⟩) :=
        ⟨T8.out.keep k89 (by simp) (by simp), hbp, hfin, by simp, by simp, by simp, fun z hz => by simp only [List.mem_cons, List.not_mem_nil, or_false] at hz; rcases hz with rfl | rfl | rfl <;> omega, by omega, by omega, by omega, by omega, by omega, B8.out.kept k89 (by simp), K8.out.trans k89⟩
      rw [hw9]
      rw [hpo]
      clear hbp hfin hF0 k89 hw9 hpo T8 OT8 B8 K8 K68 HDA HAN pc0 pc1 HT2
      clear hs1 h1l hwW hs2 hs3 hs4 hs5 hs6 hs7 hs8 hs9 hg3
      have rl0 : (⟨ns, false⟩ : Tp).left.length ≤ 100000001 := hnl
      have HC1 := Lib.hid (srow_count b g (⟨ns, false⟩ : Tp) w9 D9.out.tp)
      obtain ⟨N1, q1, hq1⟩ : ∃ N q, count (⟨ns, false⟩ : Tp) = (N, q) := ⟨_, _, rfl⟩
      have hcl1 := count_le (⟨ns, false⟩ : Tp)
      have hm1 : many tick (⟨ns, false⟩ : Tp) = times tick (count (⟨ns, false⟩ : Tp)).1 (count (⟨ns, false⟩ : Tp)).2 [] := rfl
      rw [hq1] at HC1 hcl1 hm1
      replace hcl1 : N1 ≤ q1.left.length ∧ q1.left.length ≤ ((⟨ns, false⟩ : Tp)).left.length := hcl1
      have hql1 : q1.left.length ≤ 100000001 := Nat.le_trans hcl1.2 rl0
      obtain ⟨fin1, hfin1⟩ : ∃ fin, times tick N1 q1 [] = fin := ⟨_, rfl⟩
      have HM1 : Hid (many tick (⟨ns, false⟩ : Tp) = fin1) := hm1.trans hfin1
      have HFN1 := Lib.hid hfin1
      clear hq1 hm1 hfin1
      go_wp2_with (go_at_call 134; refine HC1.out.mono ?_)
      rintro e y1 ⟨rfl, t, kk⟩
      have G1 : Hid (Dg TickR 6 178 0 w y1 b g po y1.heap.size _ F0 #[.slice none 0 0, .slice none 0 0, .slice none 0 0, .slice none 0 0, .slice none 0 0, .slice none 0 0, .slice none 0 0, .slice ad p.dares.length cd, .slice aa p.answers.length ca] none 0 0 [] q1) := Dg.start (D9.out.read kk t) rfl
      clear t kk HC1 D9
      obtain ⟨B1, hB1⟩ : ∃ B, y1.heap.size = B := ⟨_, rfl⟩
      rw [hB1] at G1
      clear hB1
      go_wp2_with fail
      go_loopw [38] (fun vi wr => GRel TickR 6 178 0 tick w b g po B1 F0 #[.slice none 0 0, .slice none 0 0, .slice none 0 0, .slice none 0 0, .slice none 0 0, .slice none 0 0, .slice none 0 0, .slice ad p.dares.length cd, .slice aa p.answers.length ca] fin1 N1 vi wr) (fun vi _ => N1 - (intOf vi).toNat)
      case atStart => exact ⟨N1, q1, [], _, _, _, _, rfl, by simp, HFN1.out, hql1, G1.out⟩
      case round =>
        obtain ⟨j, r1, acc1, X1, a1, n1, c1, rfl, hN, hf, hrl1, hD⟩ := hrel
        have DD := Lib.hid hD
        have HF := Lib.hid hf
        have HN := Lib.hid hN
        have haN1 : acc1.length ≤ N1 := by omega
        clear hD hf G1 HFN1
        rcases j with _ | j
        rotate_left
        · have hlt : acc1.length < N1 := by have := HN.out; omega
          obtain ⟨⟨t1, t2, t3, t4, t5, t6⟩, r', hone'⟩ : ∃ t r', tick r1 = (t, r') := ⟨_, _, rfl⟩
          have hone := Lib.hid hone'
          have HCALL : Hid (∀ u, TpAt 174 u b g r1 → g ≠ u.heap.size → Calls Tryz.prog 135 #[.pointer (some ⟨b, 0, none⟩)] u (TickP b g (t1, t2, t3, t4, t5, t6) r' u)) := fun u h1 h2 => by have := srow_ticket b g r1 u h1 h2; rwa [hone'] at this
          have HF2 : Hid (times tick j r' (acc1 ++ [(t1, t2, t3, t4, t5, t6)]) = fin1) := by show _ = _; rw [← HF.out, times_succ, hone']
          clear hone'
          have q0 := DD.out.cell (by simp)
          have qf := Lib.hid DD.out.frozen
          have hgs : g ≠ wr.drew.heap.size := by have := DD.out.lg; have := DD.out.lB; show g ≠ wr.heap.size; omega
          have hTd : TpAt 174 wr.drew b g r1 := DD.out.de.tp.keep (S := []) (Kept.refl _ _).drew (by simp) (by simp)
          have hrl2 : r'.left.length ≤ 100000001 := by have := tick_codec.le r1; rw [hone.out] at this; have : r'.left.length ≤ r1.left.length := this; omega
          obtain ⟨i0, hi, hz0, hz1, hz2⟩ := info_parts infoTk
          go_upto_region 10 with (fail)
          refine wp_region_T [6, 7] (fun w' => Kept (b :: obl (.slice a1 n1 c1)) wr w') (by kernel_rfl) (Kept.refl _ _).drew (fun hH => ?_)
          refine takeT [1, 5, 6, 7] (i := 0) (v := ?tv1) rfl (by kernel_rfl) (by kernel_rfl) (by kernel_rfl) (by kernel_rfl) (fun _ _ _ h => h) (Or.inl ⟨by rfl, ?ty1⟩) hH ?tr1
          case ty1 => intro w' hSw; (try dsimp only at hSw); go_simp; first | done | with_reducible rfl
          simp only [Act.put, List.setIfInBounds_toArray, List.set_cons_zero, List.set_cons_succ]
          refine takeT [5, 6, 7] (i := 1) (v := ?tv2) rfl (by kernel_rfl) (by kernel_rfl) (by kernel_rfl) (by kernel_rfl) (fun _ _ _ h => h) (Or.inl ⟨by rfl, ?ty2⟩) hH ?tr2
          case ty2 => intro w' hSw; (try dsimp only at hSw); go_simp; first | done | with_reducible rfl
          simp only [Act.put, List.setIfInBounds_toArray, List.set_cons_zero, List.set_cons_succ]
          refine takeT [3, 4, 5, 6, 7] (i := 2) (v := ?tv3) rfl (by kernel_rfl) (by kernel_rfl) (by kernel_rfl) (by kernel_rfl) (fun _ _ _ h => h) (Or.inl ⟨by rfl, ?ty3⟩) hH ?tr3
          case ty3 => intro w' hSw; (try dsimp only at hSw); go_simp; first | done | with_reducible rfl
          simp only [Act.put, List.setIfInBounds_toArray, List.set_cons_zero, List.set_cons_succ]
          refine wpAnyT_ready (rs := [3]) (by kernel_rfl) (by simp) ?_
          refine AllReadyT.cons rfl (fun K hK => ?_) AllReadyT.nil
          go_simp
          refine (HCALL.out wr.drew hTd hgs).mono ?_
          rintro e y ⟨rfl, tpy, kb⟩
          have kby : Kept [b] wr y := (Kept.refl [b] wr).drew.trans kb
          have hSy : Kept (b :: obl (.slice a1 n1 c1)) wr y := kby.mono fun z _ hz => by rw [List.mem_singleton] at hz; subst hz; exact List.mem_cons_self
          refine hK.out _ _ hSy (fun hH => ?_)
          clear hK K
          (try simp only [Act.put, List.setIfInBounds_toArray, List.set_cons_zero, List.set_cons_succ])
          refine wpAnyT_ready (rs := [4]) (by kernel_rfl) (by simp) ?_
          refine AllReadyT.cons rfl (fun K hK => ?_) AllReadyT.nil
          go_simp
          refine hK.out _ _ (hH.alloc _) (fun hH => ?_)
          clear hK K
          (try simp only [Act.put, List.setIfInBounds_toArray, List.set_cons_zero, List.set_cons_succ])
          refine wpAnyT_ready (rs := [5]) (by kernel_rfl) (by simp) ?_
          refine AllReadyT.cons rfl (fun K hK => ?_) AllReadyT.nil
          refine step_push (DD.out.read kby tpy) rfl _ _ 128 rfl i0 (.agg #[.int .i64 0, .int .i64 0, .int .i64 0, .int .i64 0, .int .i64 0, .int .i64 0]) 48 Tryz.underlying128 hi hz0 hz1 hz2 rfl (by decide) (by decide) rfl _ rfl [.int .i64 t1, .int .i64 t2, .int .i64 t3, .int .i64 t4, .int .i64 t5, .int .i64 t6] (t1, t2, t3, t4, t5, t6) (rowS rfl _ _ _ rfl) ((Kept.refl _ _).alloc _) (Stable.const rfl) (by simp [Value.oneCell']) (by omega) ?_
          intro p q y2 ks HX
          have hS2 : Kept (b :: obl (.slice a1 n1 c1)) wr y2 := hSy.trans (ks.mono fun z _ hz => List.mem_cons_of_mem _ hz)
          have z0 := q0 _ hS2
          have f0 := qf.out _ hS2
          refine hK.out _ _ hS2 (fun hH => ?_)
          clear hK K
          (try simp only [Act.put, List.setIfInBounds_toArray])
          refine wpAnyT_ready (rs := [6]) (by kernel_rfl) (by simp) ?_
          refine AllReadyT.last rfl (by kernel_rfl) (fun K hK => ?_)
          go_simp
          refine hK.out _ _ ?_
          clear hK K
          (try simp only [Act.put, List.setIfInBounds_toArray, List.set_cons_zero, List.set_cons_succ])
          refine wpAnyT_ready (rs := [7]) (by kernel_rfl) (by simp) ?_
          refine AllReadyT.last rfl (by kernel_rfl) (fun K hK => ?_)
          go_simp
          refine hK.out _ _ ?_
          clear hK K
          (try simp only [Act.put, List.setIfInBounds_toArray, List.set_cons_zero, List.set_cons_succ])
          refine wpAnyT_done (by kernel_rfl) ?_ _
          have HRn := Lib.hid (GRel.next (one := tick) (fin := fin1) HX HN.out HF2.out hrl2)
          clear HX hS2 hSy q0 hH
          go_wp2_with fail
          go_roundw
          case rel => exact HRn.out
          case measure => simp [intOf]; omega
        · have e1 : Hid (acc1.length = N1) := by show _ = _; have := HN.out; omega
          have E1 : Hid (many tick (⟨ns, false⟩ : Tp) = (acc1, r1)) := by show _ = _; rw [HM1.out, ← HF.out]; rfl
          have hn := DD.out.nl
          subst hn
          obtain ⟨Y1, hD', hX', hv'⟩ := DD.out.done (by omega)
          obtain ⟨F1, hF2⟩ : ∃ F : World → Prop, (fun w => F0 w ∧ RowOf TickR 6 w (.slice a1 acc1.length c1) acc1) = F := ⟨_, rfl⟩
          have HI1 : Hid (∀ w, F1 w → F0 w ∧ RowOf TickR 6 w (.slice a1 acc1.length c1) acc1) := fun w h => by rw [← hF2] at h; exact h
          rw [hF2] at hD'
          have D1 : Hid (De w wr b g po Y1 F1 #[.slice a1 acc1.length c1, .slice none 0 0, .slice none 0 0, .slice none 0 0, .slice none 0 0, .slice none 0 0, .slice none 0 0, .slice ad p.dares.length cd, .slice aa p.answers.length ca] r1) := hD'
          rw [e1.out]
          clear hD' hX' hv' hF2 DD HF HN HM1
          obtain ⟨x1, hx1⟩ : ∃ x, wr = x := ⟨_, rfl⟩
          rw [hx1] at D1 ⊢
          clear hx1
          have HC2 := Lib.hid (srow_count b g r1 x1 D1.out.tp)
          obtain ⟨N2, q2, hq2⟩ : ∃ N q, count r1 = (N, q) := ⟨_, _, rfl⟩
          have hcl2 := count_le r1
          have hm2 : many spnd r1 = times spnd (count r1).1 (count r1).2 [] := rfl
          rw [hq2] at HC2 hcl2 hm2
          replace hcl2 : N2 ≤ q2.left.length ∧ q2.left.length ≤ (r1).left.length := hcl2
          have hql2 : q2.left.length ≤ 100000001 := Nat.le_trans hcl2.2 hrl1
          obtain ⟨fin2, hfin2⟩ : ∃ fin, times spnd N2 q2 [] = fin := ⟨_, rfl⟩
          have HM2 : Hid (many spnd r1 = fin2) := hm2.trans hfin2
          have HFN2 := Lib.hid hfin2
          clear hq2 hm2 hfin2
          go_wp2_with (go_at_call 134; refine HC2.out.mono ?_)
          rintro e y2 ⟨rfl, t, kk⟩
          have G2 : Hid (Dg SpndR 2 181 1 w y2 b g po y2.heap.size _ F1 #[.slice a1 acc1.length c1, .slice none 0 0, .slice none 0 0, .slice none 0 0, .slice none 0 0, .slice none 0 0, .slice none 0 0, .slice ad p.dares.length cd, .slice aa p.answers.length ca] none 0 0 [] q2) := Dg.start (D1.out.read kk t) rfl
          clear t kk HC2 D1
          obtain ⟨B2, hB2⟩ : ∃ B, y2.heap.size = B := ⟨_, rfl⟩
          rw [hB2] at G2
          clear hB2
          go_wp2_with fail
          go_loopw [50] (fun vi wr => GRel SpndR 2 181 1 spnd w b g po B2 F1 #[.slice a1 acc1.length c1, .slice none 0 0, .slice none 0 0, .slice none 0 0, .slice none 0 0, .slice none 0 0, .slice none 0 0, .slice ad p.dares.length cd, .slice aa p.answers.length ca] fin2 N2 vi wr) (fun vi _ => N2 - (intOf vi).toNat)
          case atStart => exact ⟨N2, q2, [], _, _, _, _, rfl, by simp, HFN2.out, hql2, G2.out⟩
          case round =>
            obtain ⟨j, r2, acc2, X2, a2, n2, c2, rfl, hN, hf, hrl2, hD⟩ := hrel
            have DD := Lib.hid hD
            have HF := Lib.hid hf
            have HN := Lib.hid hN
            have haN2 : acc2.length ≤ N2 := by omega
            clear hD hf G2 HFN2
            rcases j with _ | j
            rotate_left
            · have hlt : acc2.length < N2 := by have := HN.out; omega
              obtain ⟨⟨dare, ans⟩, r', hone'⟩ : ∃ t r', spnd r2 = (t, r') := ⟨_, _, rfl⟩
              have hone := Lib.hid hone'
              have HCALL : Hid (∀ u, TpAt 174 u b g r2 → g ≠ u.heap.size → Calls Tryz.prog 136 #[.pointer (some ⟨b, 0, none⟩)] u (SpndP b g (dare, ans) r' u)) := fun u h1 h2 => by have := srow_spend b g r2 u h1 h2 (by omega); rwa [hone'] at this
              have HF2 : Hid (times spnd j r' (acc2 ++ [(dare, ans)]) = fin2) := by show _ = _; rw [← HF.out, times_succ, hone']
              have hal : ans.length ≤ 9223372036854775807 := by have h1 := list_len (next r2).2; have h2 := next_le r2; have h3 : (list (next r2).2).1 = ans := congrArg (fun x => x.1.2) hone'; rw [h3] at h1; omega
              have hX2 := Lib.hid DD.out.de.hX
              clear hone'
              have q0 := DD.out.cell (by simp)
              have qf := Lib.hid DD.out.frozen
              have hgs : g ≠ wr.drew.heap.size := by have := DD.out.lg; have := DD.out.lB; show g ≠ wr.heap.size; omega
              have hTd : TpAt 174 wr.drew b g r2 := DD.out.de.tp.keep (S := []) (Kept.refl _ _).drew (by simp) (by simp)
              have hrl2 : r'.left.length ≤ 100000001 := by have := spnd_codec.le r2; rw [hone.out] at this; have : r'.left.length ≤ r2.left.length := this; omega
              obtain ⟨i0, hi, hz0, hz1, hz2⟩ := info_parts infoSp
              go_upto_region 14 with (fail)
              refine wp_region_T [6, 7] (fun w' => Kept (b :: obl (.slice a2 n2 c2)) wr w') (by kernel_rfl) (Kept.refl _ _).drew (fun hH => ?_)
              refine takeT [1, 5, 6, 7] (i := 0) (v := ?tv4) rfl (by kernel_rfl) (by kernel_rfl) (by kernel_rfl) (by kernel_rfl) (fun _ _ _ h => h) (Or.inl ⟨by rfl, ?ty4⟩) hH ?tr4
              case ty4 => intro w' hSw; (try dsimp only at hSw); go_simp; first | done | with_reducible rfl
              simp only [Act.put, List.setIfInBounds_toArray, List.set_cons_zero, List.set_cons_succ]
              refine takeT [5, 6, 7] (i := 1) (v := ?tv5) rfl (by kernel_rfl) (by kernel_rfl) (by kernel_rfl) (by kernel_rfl) (fun _ _ _ h => h) (Or.inl ⟨by rfl, ?ty5⟩) hH ?tr5
              case ty5 => intro w' hSw; (try dsimp only at hSw); go_simp; first | done | with_reducible rfl
              simp only [Act.put, List.setIfInBounds_toArray, List.set_cons_zero, List.set_cons_succ]
              refine takeT [3, 4, 5, 6, 7] (i := 2) (v := ?tv6) rfl (by kernel_rfl) (by kernel_rfl) (by kernel_rfl) (by kernel_rfl) (fun _ _ _ h => h) (Or.inl ⟨by rfl, ?ty6⟩) hH ?tr6
              case ty6 => intro w' hSw; (try dsimp only at hSw); go_simp; first | done | with_reducible rfl
              simp only [Act.put, List.setIfInBounds_toArray, List.set_cons_zero, List.set_cons_succ]
              refine wpAnyT_ready (rs := [3]) (by kernel_rfl) (by simp) ?_
              refine AllReadyT.cons rfl (fun K hK => ?_) AllReadyT.nil
              go_simp
              refine (HCALL.out wr.drew hTd hgs).mono ?_
              rintro e y ⟨aa1, cc1, rfl, own, tpy, kb⟩
              have kby : Kept [b] wr y := (Kept.refl [b] wr).drew.trans kb
              have hSy : Kept (b :: obl (.slice a2 n2 c2)) wr y := kby.mono fun z _ hz => by rw [List.mem_singleton] at hz; subst hz; exact List.mem_cons_self
              have hRR : Hid (Stable X2 (fun w => SpndR w [.int .i64 dare, .slice aa1 ans.length cc1] (dare, ans)) y) :=
                (Stable.row own (fun z hz hm => by have h1 := (own_ge own z hz).1; have h2 := hX2.out z hm; have h3 : wr.drew.heap.size = wr.heap.size := rfl; omega) hal).imp fun _ h => ⟨_, rfl, h⟩
              refine hK.out _ _ hSy (fun hH => ?_)
              clear hK K
              (try skip)
              refine wpAnyT_ready (rs := [4]) (by kernel_rfl) (by simp) ?_
              refine AllReadyT.cons rfl (fun K hK => ?_) AllReadyT.nil
              go_simp
              refine hK.out _ _ (hH.alloc _) (fun hH => ?_)
              clear hK K
              (try simp only [Act.put, List.setIfInBounds_toArray, List.set_cons_zero, List.set_cons_succ])
              refine wpAnyT_ready (rs := [5]) (by kernel_rfl) (by simp) ?_
              refine AllReadyT.cons rfl (fun K hK => ?_) AllReadyT.nil
              refine step_push (DD.out.read kby tpy) rfl _ _ 129 rfl i0 (.agg #[.int .i64 0, .slice none 0 0]) 32 Tryz.underlying129 hi hz0 hz1 hz2 rfl (by decide) (by decide) rfl _ rfl [.int .i64 dare, .slice aa1 ans.length cc1] (dare, ans) (rowS rfl _ _ _ rfl) ((Kept.refl _ _).alloc _) hRR.out (by simp [Value.oneCell']) (by omega) ?_
              intro p q y2 ks HX
              have hS2 : Kept (b :: obl (.slice a2 n2 c2)) wr y2 := hSy.trans (ks.mono fun z _ hz => List.mem_cons_of_mem _ hz)
              have z0 := q0 _ hS2
              have f0 := qf.out _ hS2
              refine hK.out _ _ hS2 (fun hH => ?_)
              clear hK K
              (try simp only [Act.put, List.setIfInBounds_toArray])
              refine wpAnyT_ready (rs := [6]) (by kernel_rfl) (by simp) ?_
              refine AllReadyT.last rfl (by kernel_rfl) (fun K hK => ?_)
              go_simp
              refine hK.out _ _ ?_
              clear hK K
              (try simp only [Act.put, List.setIfInBounds_toArray, List.set_cons_zero, List.set_cons_succ])
              refine wpAnyT_ready (rs := [7]) (by kernel_rfl) (by simp) ?_
              refine AllReadyT.last rfl (by kernel_rfl) (fun K hK => ?_)
              go_simp
              refine hK.out _ _ ?_
              clear hK K
              (try simp only [Act.put, List.setIfInBounds_toArray, List.set_cons_zero, List.set_cons_succ])
              refine wpAnyT_done (by kernel_rfl) ?_ _
              have HRn := Lib.hid (GRel.next (one := spnd) (fin := fin2) HX HN.out HF2.out hrl2)
              clear HX hS2 hSy q0 hH
              go_wp2_with fail
              go_roundw
              case rel => exact HRn.out
              case measure => simp [intOf]; omega
            · have e1 : Hid (acc2.length = N2) := by show _ = _; have := HN.out; omega
              have E2 : Hid (many spnd r1 = (acc2, r2)) := by show _ = _; rw [HM2.out, ← HF.out]; rfl
              have hn := DD.out.nl
              subst hn
              obtain ⟨Y2, hD', hX', hv'⟩ := DD.out.done (by omega)
              obtain ⟨F2, hF2⟩ : ∃ F : World → Prop, (fun w => F1 w ∧ RowOf SpndR 2 w (.slice a2 acc2.length c2) acc2) = F := ⟨_, rfl⟩
              have HI2 : Hid (∀ w, F2 w → F1 w ∧ RowOf SpndR 2 w (.slice a2 acc2.length c2) acc2) := fun w h => by rw [← hF2] at h; exact h
              rw [hF2] at hD'
              have D2 : Hid (De w wr b g po Y2 F2 #[.slice a1 acc1.length c1, .slice a2 acc2.length c2, .slice none 0 0, .slice none 0 0, .slice none 0 0, .slice none 0 0, .slice none 0 0, .slice ad p.dares.length cd, .slice aa p.answers.length ca] r2) := hD'
              rw [e1.out]
              clear hD' hX' hv' hF2 DD HF HN HM2
              obtain ⟨x2, hx2⟩ : ∃ x, wr = x := ⟨_, rfl⟩
              rw [hx2] at D2 ⊢
              clear hx2
              have HC3 := Lib.hid (srow_count b g r2 x2 D2.out.tp)
              obtain ⟨N3, q3, hq3⟩ : ∃ N q, count r2 = (N, q) := ⟨_, _, rfl⟩
              have hcl3 := count_le r2
              have hm3 : many (many lnk) r2 = times (many lnk) (count r2).1 (count r2).2 [] := rfl
              rw [hq3] at HC3 hcl3 hm3
              replace hcl3 : N3 ≤ q3.left.length ∧ q3.left.length ≤ (r2).left.length := hcl3
              have hql3 : q3.left.length ≤ 100000001 := Nat.le_trans hcl3.2 hrl2
              obtain ⟨fin3, hfin3⟩ : ∃ fin, times (many lnk) N3 q3 [] = fin := ⟨_, rfl⟩
              have HM3 : Hid (many (many lnk) r2 = fin3) := hm3.trans hfin3
              have HFN3 := Lib.hid hfin3
              clear hq3 hm3 hfin3
              go_wp2_with (go_at_call 134; refine HC3.out.mono ?_)
              rintro e y3 ⟨rfl, t, kk⟩
              have G3 : Hid (Dg LnksR 1 183 2 w y3 b g po y3.heap.size _ F2 #[.slice a1 acc1.length c1, .slice a2 acc2.length c2, .slice none 0 0, .slice none 0 0, .slice none 0 0, .slice none 0 0, .slice none 0 0, .slice ad p.dares.length cd, .slice aa p.answers.length ca] none 0 0 [] q3) := Dg.start (D2.out.read kk t) rfl
              clear t kk HC3 D2
              obtain ⟨B3, hB3⟩ : ∃ B, y3.heap.size = B := ⟨_, rfl⟩
              rw [hB3] at G3
              clear hB3
              go_wp2_with fail
              have TR3 : Hid (Stable _ (fun w => Row w 1 (.slice at_ ts.length ct) ts.length (strs ts)) y3) := G3.out.de.fin.imp fun w h => (HI0.out w (HI1.out w (HI2.out w h).1).1).2
              go_loopw [5, 62] (fun vt vi wr => LRel w b g po B3 F2 #[.slice a1 acc1.length c1, .slice a2 acc2.length c2, .slice none 0 0, .slice none 0 0, .slice none 0 0, .slice none 0 0, .slice none 0 0, .slice ad p.dares.length cd, .slice aa p.answers.length ca] fin3 N3 ts vt vi wr) (fun _ vi _ => N3 - (intOf vi).toNat)
              case atStart => exact ⟨N3, q3, [], _, none, 0, 0, ts, at_, ts.length, ct, rfl, rfl, by simp, HFN3.out, by simp [terms], hql3, rfl, G3.out, TR3.out⟩
              case round =>
                obtain ⟨j, r3, acc3, X3, a3, n3, c3, tsl, ta, nt, tc, rfl, rfl, hN, hf, ht, hrl3, hnt, hD, hT⟩ := hrel
                have DD := Lib.hid hD
                have HF := Lib.hid hf
                have HN := Lib.hid hN
                have HTT := Lib.hid ht
                have HTR := Lib.hid hT
                have HNT := Lib.hid hnt
                have haN3 : acc3.length ≤ N3 := by omega
                clear hD hf ht hT hnt G3 HFN3 TR3
                rcases j with _ | j
                rotate_left
                · have hlt : acc3.length < N3 := by have := HN.out; omega
                  have HCi := Lib.hid (srow_count b g r3 wr DD.out.de.tp)
                  obtain ⟨Ni, qi, hqi⟩ : ∃ N q, count r3 = (N, q) := ⟨_, _, rfl⟩
                  have hcli := count_le r3
                  have hmi : many lnk r3 = times lnk (count r3).1 (count r3).2 [] := rfl
                  rw [hqi] at HCi hcli hmi
                  replace hcli : Ni ≤ qi.left.length ∧ qi.left.length ≤ r3.left.length := hcli
                  have hqli : qi.left.length ≤ 100000001 := by omega
                  obtain ⟨fini, hfini⟩ : ∃ fin, times lnk Ni qi [] = fin := ⟨_, rfl⟩
                  have HMi : Hid (many lnk r3 = fini) := hmi.trans hfini
                  have HFNi := Lib.hid hfini
                  clear hqi hmi hfini
                  go_wp2_with (go_at_call 134; refine HCi.out.mono ?_)
                  rintro e yo ⟨rfl, t, kk⟩
                  have Do := Lib.hid (DD.out.read kk t)
                  have I0 : Hid (Li w yo yo b g po B3 X3 F2 #[.slice a1 acc1.length c1, .slice a2 acc2.length c2, .slice none 0 0, .slice none 0 0, .slice none 0 0, .slice none 0 0, .slice none 0 0, .slice ad p.dares.length cd, .slice aa p.answers.length ca] a3 n3 c3 acc3 qi qi none 0 0 [] ta nt tc tsl) :=
                    ⟨Do.out, Kept.refl _ _, t, rfl, HNT.out, ⟨X3, fun _ h => h, Do.out.de.hX, by simp [obl, Value.ownBlock], Grow.nil_ _ _ _ _ _ _, HTR.out.step kk (fun z hz _ => by rw [List.mem_singleton] at hz; subst hz; exact DD.out.de.bX) (fun z hz => Or.inl hz)⟩⟩
                  clear t kk HCi DD HTR Do
                  go_wp2_with fail
                  go_loopw [5, 10, 66] (fun vt v10 vi wr => InL w yo b g po B3 X3 F2 #[.slice a1 acc1.length c1, .slice a2 acc2.length c2, .slice none 0 0, .slice none 0 0, .slice none 0 0, .slice none 0 0, .slice none 0 0, .slice ad p.dares.length cd, .slice aa p.answers.length ca] a3 n3 c3 acc3 qi fini Ni ts vt v10 vi wr) (fun _ _ vi _ => Ni - (intOf vi).toNat)
                  case atStart => exact ⟨Ni, qi, [], none, 0, 0, tsl, ta, nt, tc, rfl, rfl, rfl, by simp, HFNi.out, HTT.out, hqli, I0.out⟩
                  case round =>
                    obtain ⟨j2, r4, acc4, a10, n10, c10, tsl2, ta2, nt2, tc2, rfl, rfl, rfl, hN2, hf2, ht2, hrl4, hI⟩ := hrel
                    have II := Lib.hid hI
                    have HF2 := Lib.hid hf2
                    have HN2 := Lib.hid hN2
                    have HT2' := Lib.hid ht2
                    have haN4 : acc4.length ≤ Ni := by omega
                    clear hI hf2 ht2 I0 HFNi
                    rcases j2 with _ | j2
                    · have e1 : Hid (acc4.length = Ni) := by show _ = _; have := HN2.out; omega
                      have Ei : Hid (many lnk r3 = (acc4.map Prod.fst, r4)) := by show _ = _; rw [HMi.out, ← HF2.out]; rfl
                      have HF3 : Hid (times (many lnk) j r4 (strip (acc3 ++ [acc4])) = fin3) := by show _ = _; rw [← HF.out, times_succ, Ei.out, strip_snoc]
                      rw [e1.out]
                      have DD := Lib.hid II.out.dg
                      have HE := Lib.hid (II.out.done (by omega))
                      have TR : Hid (Stable X3 (fun w => Row w 1 (.slice ta2 nt2 tc2) tsl2.length (strs tsl2)) wr) := by
                        obtain ⟨X2, x1, x2, x3, G, T⟩ := II.out.gr
                        exact T.less fun z hz => Or.inl (x1 z hz)
                      have HET := Lib.hid II.out.et
                      clear II HF HMi e1 HF2
                      have z2 := DD.out.cell (by simp) wr (Kept.refl _ _)
                      have GA : Hid (Grow LnksR 1 183 B3 X3 (wr.alloc (.cells #[.slice a10 n10 c10] 183)) (.slice a3 n3 c3) acc3) := DD.out.gr.step ((Kept.refl [] _).alloc _) (by simp) (by simp) (fun z hz => Or.inl hz)
                      have EA : Hid (Stable X3 (fun w => LnksR w [.slice a10 n10 c10] acc4) (wr.alloc (.cells #[.slice a10 n10 c10] 183))) := HE.out.step ((Kept.refl [] _).alloc _) (by simp) (fun z hz => Or.inl hz)
                      have hle := Lib.hid (show B3 ≤ (wr.alloc (.cells #[.slice a10 n10 c10] 183)).heap.size by have := DD.out.lB; simp only [World.size_alloc]; omega)
                      obtain ⟨i0, hi, hz0, hz1, hz2⟩ := info_parts infoLks
                      go_wp2_with (at_builtin; refine wpList_append_grow rfl _ _ 130 rfl i0 (.slice none 0 0) 24 Tryz.underlying130 hi hz0 hz1 hz2 rfl (by decide) (by decide) rfl GA.out _ [.slice a10 n10 c10] acc4 rfl (rowS rfl _ _ _ rfl) EA.out (by simp [Value.oneCell']) (by omega) hle.out DD.out.vX ?_)
                      intro p9 q9 y9 G9 k9 t9
                      obtain ⟨kk9, X9, D9', h9⟩ := DD.out.pushed ((Kept.refl [] wr).alloc _) G9 k9 (fun z hz => by first | exact t9 z hz | (rw [World.size_alloc]; exact t9 z hz))
                      have zz2 := DD.out.cell (by simp) y9 (kk9.mono fun z _ hz => List.mem_cons_of_mem _ hz)
                      have ff2 := DD.out.frozen y9 (kk9.mono fun z _ hz => List.mem_cons_of_mem _ hz)
                      have T9 : Stable X9 (fun w => Row w 1 (.slice ta2 nt2 tc2) tsl2.length (strs tsl2)) (y9.setCell ⟨po, 2, none⟩ (.slice p9 (acc3.length + 1) q9)) :=
                        (TR.out.step kk9 (fun z hz _ => DD.out.vX z hz) h9).step (X' := X9) ((Kept.refl [po] _).setCell (by simp) _) (fun z hz _ => by rw [List.mem_singleton] at hz; subst hz; exact D9'.de.pX) (fun z hz => Or.inl hz)
                      have HRn := Lib.hid (LRel.next ⟨X9, D9', T9⟩ HN.out HF3.out HT2'.out hrl4 HET.out)
                      clear G9 k9 t9 kk9 D9' h9 T9 DD GA EA hi hz0 hz1 hz2 z2
                      go_wp2_with fail
                      go_roundw
                      case rel => exact HRn.out
                      case measure => simp [intOf]; omega
                    · have hlt2 : acc4.length < Ni := by have := HN2.out; omega
                      obtain ⟨⟨t1, t2, t3, t4, t5, t6⟩, ra, hone'⟩ : ∃ t r', tick r4 = (t, r') := ⟨_, _, rfl⟩
                      obtain ⟨⟨dare, ans⟩, rb', hone2'⟩ : ∃ t r', spnd ra = (t, r') := ⟨_, _, rfl⟩
                      have hlk : lnk r4 = (((t1, t2, t3, t4, t5, t6), (dare, ans)), rb') := by simp only [lnk, both, hone', hone2']
                      have hra : ra.left.length ≤ 100000001 := by have := tick_codec.le r4; rw [hone'] at this; have : ra.left.length ≤ r4.left.length := this; omega
                      have hrb : rb'.left.length ≤ 100000001 := by have := spnd_codec.le ra; rw [hone2'] at this; have : rb'.left.length ≤ ra.left.length := this; omega
                      have hal : ans.length ≤ 9223372036854775807 := by have h1 := list_len (next ra).2; have h2 := next_le ra; have h3 : (list (next ra).2).1 = ans := congrArg (fun x => x.1.2) hone2'; rw [h3] at h1; omega
                      have HF4 : Hid (times lnk j2 rb' (acc4.map Prod.fst ++ [((t1, t2, t3, t4, t5, t6), (dare, ans))]) = fini) := by show _ = _; rw [← HF2.out, times_succ, hlk]
                      have hgl : g < yo.heap.size := II.out.do_.de.gl
                      have hys := II.out.kb.size
                      have HCT : Hid (Calls Tryz.prog 135 #[.pointer (some ⟨b, 0, none⟩)] wr (TickP6 b g t1 t2 t3 t4 t5 t6 ra wr)) := by have := srow_ticket b g r4 wr II.out.tp (by omega); rw [hone'] at this; exact this
                      have H2' := Lib.hid hone2'
                      clear hone' hone2' hlk
                      go_wp2_with (go_at_call 135; refine HCT.out.mono ?_)
                      rintro e v1 ⟨rfl, tp1, kb1⟩
                      have I1 := Lib.hid (II.out.read kb1 tp1)
                      have hs1 := kb1.size
                      have HCS : Hid (Calls Tryz.prog 136 #[.pointer (some ⟨b, 0, none⟩)] v1 (SpndP b g (dare, ans) rb' v1)) := by have := srow_spend b g ra v1 tp1 (by omega) (by omega); rwa [H2'.out] at this
                      obtain ⟨X2, x1, x2, x3, G4, T4⟩ := II.out.gr
                      have XA := Lib.hid x1
                      have XB0 := Lib.hid x2
                      have XC := Lib.hid x3
                      have HG4 := Lib.hid G4
                      have HT4 := Lib.hid T4
                      have KB1 := Lib.hid kb1
                      have hbX := Lib.hid (x1 b II.out.do_.de.bX)
                      have hgb := Lib.hid (fun z hz => (II.out.ge z hz).1)
                      have hbl := II.out.do_.de.bl
                      clear tp1 kb1 HCT II x1 x2 x3 G4 T4 H2'
                      go_wp2_with (go_at_call 136; refine HCS.out.mono ?_)
                      rintro e v2 ⟨aa1, cc1, rfl, own, tp2, kb2⟩
                      have I2 := Lib.hid (I1.out.read kb2 tp2)
                      have hs2 := kb2.size
                      have HOW := Lib.hid own
                      have KB2 := Lib.hid (KB1.out.trans kb2)
                      have HET := Lib.hid I2.out.et
                      clear tp2 kb2 HCS I1 own KB1
                      go_upto_region 22 with (fail)
                      obtain ⟨v3, hv3⟩ : ∃ v3, v2.alloc (.cells #[.int .i64 t1, .int .i64 t2, .int .i64 t3, .int .i64 t4, .int .i64 t5, .int .i64 t6, .int .i64 dare, .slice aa1 ans.length cc1, .string ⟨#[]⟩] 185) = v3 := ⟨_, rfl⟩
                      have k23 : Kept [] v2 v3 := hv3 ▸ (Kept.refl _ _).alloc _
                      have hs3 : v2.heap.size < v3.heap.size := by rw [← hv3]; simp
                      have BL : Hid (Blk v3 v2.heap.size 185 #[.int .i64 t1, .int .i64 t2, .int .i64 t3, .int .i64 t4, .int .i64 t5, .int .i64 t6, .int .i64 dare, .slice aa1 ans.length cc1, .string ⟨#[]⟩]) := hv3 ▸ Blk.new _ _ _
                      have I3 := Lib.hid (I2.out.keep k23)
                      have HK23 := Lib.hid k23
                      have HV3 := Lib.hid hv3
                      clear k23 hv3
                      rw [HV3.out]
                      obtain ⟨lb, hlb⟩ : ∃ lb, v2.heap.size = lb := ⟨_, rfl⟩
                      rw [hlb] at BL hs3 ⊢
                      have HLB := Lib.hid hlb
                      clear hlb HV3
                      rcases tsl2 with _ | ⟨t, tl⟩
                      · have hn0 : nt2 = 0 := HET.out
                        subst hn0
                        have HR : Hid (readR s = (zeroR, false)) := by
                          have h1 := total_out (m := j) (m' := j2) (r' := r4) (accL := acc3) (acc := acc4) (fin := fin3) (ts := ts) (li := fini) HF2.out (by rw [← HF.out, times_succ, HMi.out]) (by simpa using HT2'.out)
                          have h2 : (nums7 (⟨ns, false⟩ : Tp)).1.2.2.1 = fin3.1 := by
                            show (many (many lnk) (many spnd (many tick _).2).2).1 = _
                            rw [E1.out]
                            show (many (many lnk) (many spnd r1).2).1 = _
                            rw [E2.out]
                            show (many (many lnk) r2).1 = _
                            rw [HM3.out]
                          show _ = _
                          rw [HR1.out, h2, decide_eq_false (by omega), Bool.and_false]
                          rfl
                        have BQ := Lib.hid I3.out.dg.de.bq
                        have KQ := Lib.hid I3.out.dg.de.k0
                        have z0 : v3.cell? ⟨w.heap.size, 0, none⟩ = some (.slice none 0 0) := BQ.out.cell 0
                        have y0 := BQ.out.frozen 0
                        have z1 : v3.cell? ⟨w.heap.size, 1, none⟩ = some (.slice none 0 0) := BQ.out.cell 1
                        have y1 := BQ.out.frozen 1
                        have z2 : v3.cell? ⟨w.heap.size, 2, none⟩ = some (.slice none 0 0) := BQ.out.cell 2
                        have y2 := BQ.out.frozen 2
                        have z3 : v3.cell? ⟨w.heap.size, 3, none⟩ = some (.slice none 0 0) := BQ.out.cell 3
                        have y3 := BQ.out.frozen 3
                        have z4 : v3.cell? ⟨w.heap.size, 4, none⟩ = some (.slice none 0 0) := BQ.out.cell 4
                        have y4 := BQ.out.frozen 4
                        have z5 : v3.cell? ⟨w.heap.size, 5, none⟩ = some (.slice none 0 0) := BQ.out.cell 5
                        have y5 := BQ.out.frozen 5
                        have z6 : v3.cell? ⟨w.heap.size, 6, none⟩ = some (.slice none 0 0) := BQ.out.cell 6
                        have y6 := BQ.out.frozen 6
                        have z7 : v3.cell? ⟨w.heap.size, 7, none⟩ = some (.slice none 0 0) := BQ.out.cell 7
                        have y7 := BQ.out.frozen 7
                        have z8 : v3.cell? ⟨w.heap.size, 8, none⟩ = some (.slice none 0 0) := BQ.out.cell 8
                        have y8 := BQ.out.frozen 8
                        go_wp2_with fail
                        refine bodyPost_ret (v := .tuple #[.agg zeros9, .bool false]) (by simp [results, Tryz.results83, go_sem, zeros9, z0, z1, z2, z3, z4, z5, z6, z7, z8]) rfl ?_
                        rw [HR.out]
                        refine ⟨_, rfl, recV_zero _, ?_⟩
                        repeat (refine Kept.setCell ?_ (Or.inr (Nat.le_refl _)) _)
                        exact KQ.out
                      · have hn1 : nt2 = tl.length + 1 := HET.out
                        subst hn1
                        have hrow := I2.out.row
                        obtain ⟨tb, tof, hta, hcell⟩ := Row.at_ (n := tl.length + 1) (m := (t :: tl).length) hrow (by simp)
                        have hx2 : v2.cell? ⟨tb, tof, none⟩ = some (.string ⟨t.toArray⟩) := by simpa using hcell 0 _ rfl
                        have hx0 : v3.cell? ⟨tb, tof, none⟩ = some (.string ⟨t.toArray⟩) := Kept.cellOf hx2 v3 HK23.out
                        have hcap : tl.length + 1 ≤ tc2 := hrow.2.2.elim fun a h => h.elim fun c h => by have h1 := h.1; injection h1 with _ _ h3; subst h3; exact h.2.1
                        have hmx : tl.length + 1 ≤ 9223372036854775807 := hrow.2.1
                        subst hta
                        have htb : tb ≠ lb := fun e => by have h1 := World.block_lt_of_cell? v2 _ hx2; have h2 := HLB.out; simp only at h1; omega
                        have q0 : ∀ w', Kept [lb] v3 w' → w'.cell? ⟨tb, tof, none⟩ = some (.string ⟨t.toArray⟩) := fun w' k => (k.cell (World.block_lt_of_cell? v3 _ hx0) (by simp; exact htb)).trans hx0
                        have qf := BL.out.frozen 8
                        have ql : v3.cell? ⟨lb, 8, none⟩ = some (.string ⟨#[]⟩) := BL.out.cell 8
                        clear hrow hcell hx0 hx2
                        obtain ⟨L, hL⟩ : ∃ L, tl.length = L := ⟨_, rfl⟩
                        have HL := Lib.hid hL
                        rw [hL] at I2 hcap hmx HT4 ⊢
                        clear hL I3
                        have hb1 : (1 : Int) ≤ (L : Int) + 1 := by omega
                        have hcut : ∀ (x : Option Addr) (cc : Nat), (tc2 = 1 → x = some ⟨tb, tof, none⟩ ∧ cc = 0) → (tc2 ≠ 1 → x = some ⟨tb, tof + 1, none⟩ ∧ cc = tc2 - 1) → ∀ w, Row w 1 (.slice (some ⟨tb, tof, none⟩) (L + 1) tc2) (t :: tl).length (strs (t :: tl)) → Row w 1 (.slice x L cc) tl.length (strs tl) := fun x cc h1 h2 w hr => by
                          have hl := HL.out
                          by_cases hc : tc2 = 1
                          · obtain ⟨rfl, rfl⟩ := h1 hc
                            have ht0 : tl = [] := List.eq_nil_of_length_eq_zero (by omega)
                            subst ht0
                            obtain rfl : L = 0 := hl.symm
                            exact Row.none1 _ _
                          · obtain ⟨rfl, rfl⟩ := h2 hc
                            subst hl
                            exact Row.tail (n := tl.length + 1) hr rfl
                        have HCUT := Lib.hid hcut
                        clear hcut
                        by_cases hc1 : tc2 = 1
                        · subst hc1
                          obtain rfl : L = 0 := by omega
                          go_upto_region 24 with (fail)
                          refine wp_region_T [] (fun w' => Kept [lb] v3 w') (by kernel_rfl) (Kept.refl _ _).drew (fun hH => ?_)
                          refine takeT [1, 2, 5, 6, 7] (i := 0) (v := ?tv7) rfl (by kernel_rfl) (by kernel_rfl) (by kernel_rfl) (by kernel_rfl) (fun _ _ _ h => h) (Or.inl ⟨by rfl, ?ty7⟩) hH ?tr7
                          case ty7 => intro w' hSw; (try dsimp only at hSw); go_simp; first | done | with_reducible rfl
                          simp only [Act.put, List.setIfInBounds_toArray, List.set_cons_zero, List.set_cons_succ]
                          refine takeT [2, 5, 6, 7] (i := 1) (v := ?tv8) rfl (by kernel_rfl) (by kernel_rfl) (by kernel_rfl) (by kernel_rfl) (fun _ _ _ h => h) (Or.inl ⟨by rfl, ?ty8⟩) hH ?tr8
                          case ty8 => intro w' hSw; (try dsimp only at hSw); go_simp; first | done | with_reducible rfl
                          simp only [Act.put, List.setIfInBounds_toArray, List.set_cons_zero, List.set_cons_succ]
                          refine takeT [5, 6, 7] (i := 2) (v := ?tv9) rfl (by kernel_rfl) (by kernel_rfl) (by kernel_rfl) (by kernel_rfl) (fun _ _ _ h => h) (Or.inl ⟨by rfl, ?ty9⟩) hH ?tr9
                          case ty9 => intro w' hSw; (try dsimp only at hSw); go_simp; first | done | with_reducible rfl
                          simp only [Act.put, List.setIfInBounds_toArray, List.set_cons_zero, List.set_cons_succ]
                          refine takeT [4, 7] (i := 3) (v := ?tv10) rfl (by kernel_rfl) (by kernel_rfl) (by kernel_rfl) (by kernel_rfl) (fun _ _ _ h => h) (Or.inl ⟨by rfl, ?ty10⟩) hH ?tr10
                          case ty10 => intro w' hSw; (try dsimp only at hSw); go_simp; first | done | with_reducible rfl
                          simp only [Act.put, List.setIfInBounds_toArray, List.set_cons_zero, List.set_cons_succ]
                          refine takeT [7] (i := 4) (v := ?tv11) rfl (by kernel_rfl) (by kernel_rfl) (by kernel_rfl) (by kernel_rfl) (fun _ _ _ h => h) (Or.inl ⟨by rfl, ?ty11⟩) hH ?tr11
                          case ty11 => intro w' hSw; (try dsimp only at hSw); go_simp; first | done | with_reducible rfl
                          simp only [Act.put, List.setIfInBounds_toArray, List.set_cons_zero, List.set_cons_succ]
                          refine takeT [6, 7] (i := 5) (v := ?tv12) rfl (by kernel_rfl) (by kernel_rfl) (by kernel_rfl) (by kernel_rfl) (fun _ _ _ h => h) (Or.inl ⟨by rfl, ?ty12⟩) hH ?tr12
                          case ty12 => intro w' hSw; (try dsimp only at hSw); go_simp; first | done | with_reducible rfl
                          simp only [Act.put, List.setIfInBounds_toArray, List.set_cons_zero, List.set_cons_succ]
                          refine wpAnyT_ready (rs := [6]) (by kernel_rfl) (by simp) ?_
                          refine AllReadyT.cons rfl (fun K hK => ?_) AllReadyT.nil
                          go_simp
                          refine hK.out _ _ (hH.setCell (Or.inl (by simp)) _) (fun hH => ?_)
                          clear hK K
                          (try skip)
                          refine wpAnyT_ready (rs := [7]) (by kernel_rfl) (by simp) ?_
                          refine AllReadyT.cons rfl (fun K hK => ?_) AllReadyT.nil
                          go_simp
                          refine hK.out _ _ hH (fun hH => ?_)
                          clear hK K
                          (try simp only [Act.put, List.setIfInBounds_toArray, List.set_cons_zero, List.set_cons_succ])
                          refine wpAnyT_done (by kernel_rfl) ?_ _
                          obtain ⟨v4, hv4⟩ : ∃ v4, (v3.setCell ⟨lb, 8, none⟩ (.string ⟨t.toArray⟩)).drew = v4 := ⟨_, rfl⟩
                          have k24 : Kept [] v2 v4 := hv4 ▸ (HK23.out.setCell (p := ⟨lb, 8, none⟩) (Or.inr (by have := HLB.out; show v2.heap.size ≤ lb; omega)) _).drew
                          have BL4 : Hid (Blk v4 lb 185 #[.int .i64 t1, .int .i64 t2, .int .i64 t3, .int .i64 t4, .int .i64 t5, .int .i64 t6, .int .i64 dare, .slice aa1 ans.length cc1, .string ⟨t.toArray⟩]) := by show Blk _ _ _ _; have := (BL.out.set_ 8 (.string ⟨t.toArray⟩)).drew; rw [hv4] at this; simpa using this
                          have I4 := Lib.hid ((I2.out.keep k24).terms (tsl' := tl) (ta' := (some ⟨tb, tof, none⟩)) (nt' := 0) (tc' := 0) HL.out.symm (HCUT.out _ _ (fun h => ⟨rfl, rfl⟩) (fun h => absurd rfl h)))
                          have OW4 := Lib.hid (own_keep HOW.out k24 (by simp))
                          rw [hv4]
                          have hs24 := k24.size
                          have k24' := k24
                          clear q0 qf ql hH hv4 k24 HK23 BL HOW
                          have kc0 := BL4.out.cell 0
                          have kc1 := BL4.out.cell 1
                          have kc2 := BL4.out.cell 2
                          have kc3 := BL4.out.cell 3
                          have kc4 := BL4.out.cell 4
                          have kc5 := BL4.out.cell 5
                          have kc6 := BL4.out.cell 6
                          have kc7 := BL4.out.cell 7
                          have kc8 := BL4.out.cell 8
                          have ka : Kept [] v4 (v4.alloc (.cells #[.int .i64 t1, .int .i64 t2, .int .i64 t3, .int .i64 t4, .int .i64 t5, .int .i64 t6, .int .i64 dare, .slice aa1 ans.length cc1, .string ⟨t.toArray⟩] 185)) := (Kept.refl [] _).alloc _
                          have kall : Kept [b] wr (v4.alloc (.cells #[.int .i64 t1, .int .i64 t2, .int .i64 t3, .int .i64 t4, .int .i64 t5, .int .i64 t6, .int .i64 dare, .slice aa1 ans.length cc1, .string ⟨t.toArray⟩] 185)) := KB2.out.trans ((k24'.trans ka).mono (by simp))
                          have hSb : ∀ z ∈ [b], z < wr.heap.size → z ∈ X2 := fun z hz _ => by rw [List.mem_singleton] at hz; subst hz; exact hbX.out
                          have EL : Hid (Stable X2 (fun w => LnkR w [.int .i64 t1, .int .i64 t2, .int .i64 t3, .int .i64 t4, .int .i64 t5, .int .i64 t6, .int .i64 dare, .slice aa1 ans.length cc1, .string ⟨t.toArray⟩] (((t1, t2, t3, t4, t5, t6), (dare, ans)), t)) (v4.alloc (.cells #[.int .i64 t1, .int .i64 t2, .int .i64 t3, .int .i64 t4, .int .i64 t5, .int .i64 t6, .int .i64 dare, .slice aa1 ans.length cc1, .string ⟨t.toArray⟩] 185))) :=
                            (Stable.row (own_keep OW4.out ka (by simp)) (fun z hz hm => by have h1 := (own_ge OW4.out z hz).1; have h2 := XB0.out z hm; omega) hal).imp fun _ h => ⟨_, rfl, h⟩
                          have GA : Hid (Grow LnkR 9 185 yo.heap.size X2 (v4.alloc (.cells #[.int .i64 t1, .int .i64 t2, .int .i64 t3, .int .i64 t4, .int .i64 t5, .int .i64 t6, .int .i64 dare, .slice aa1 ans.length cc1, .string ⟨t.toArray⟩] 185)) (.slice a10 n10 c10) acc4) := HG4.out.step kall (fun z hz hm => by have := hgb.out z hz; rw [List.mem_singleton] at hm; omega) hSb (fun z hz => Or.inl hz)
                          have IA := Lib.hid (I4.out.keep ka)
                          have TA : Hid (Stable X2 (fun w => Row w 1 (.slice (some ⟨tb, tof, none⟩) 0 0) tl.length (strs tl)) (v4.alloc (.cells #[.int .i64 t1, .int .i64 t2, .int .i64 t3, .int .i64 t4, .int .i64 t5, .int .i64 t6, .int .i64 dare, .slice aa1 ans.length cc1, .string ⟨t.toArray⟩] 185))) := (HT4.out.step kall hSb (fun z hz => Or.inl hz)).imp (HCUT.out _ _ (fun h => ⟨rfl, rfl⟩) (fun h => absurd rfl h))
                          have XB := Lib.hid (fun z hz => Nat.lt_of_lt_of_le (XB0.out z hz) kall.size)
                          have hle := Lib.hid (show yo.heap.size ≤ (v4.alloc (.cells #[.int .i64 t1, .int .i64 t2, .int .i64 t3, .int .i64 t4, .int .i64 t5, .int .i64 t6, .int .i64 dare, .slice aa1 ans.length cc1, .string ⟨t.toArray⟩] 185)).heap.size by have := IA.out.kb.size; exact this)
                          have HE10 := Lib.hid I4.out.e10
                          obtain ⟨i0, hi, hz0, hz1, hz2⟩ := info_parts infoLk
                          clear ka kall hSb OW4 k24' HG4 HT4
                          go_wp2_with (at_builtin; refine wpList_append_grow rfl _ _ 183 rfl i0 (.agg #[.int .i64 0, .int .i64 0, .int .i64 0, .int .i64 0, .int .i64 0, .int .i64 0, .int .i64 0, .slice none 0 0, .string ⟨#[]⟩]) 96 Tryz.underlying183 hi hz0 hz1 hz2 rfl (by decide) (by decide) rfl GA.out _ [.int .i64 t1, .int .i64 t2, .int .i64 t3, .int .i64 t4, .int .i64 t5, .int .i64 t6, .int .i64 dare, .slice aa1 ans.length cc1, .string ⟨t.toArray⟩] (((t1, t2, t3, t4, t5, t6), (dare, ans)), t) rfl (rowS rfl _ _ _ rfl) EL.out (by simp [Value.oneCell']) (by omega) hle.out XC.out ?_)
                          intro p9 q9 y9 G9 k9 t9
                          have IP := Lib.hid (IA.out.push XA.out XB.out TA.out XC.out k9 (by rw [HE10.out]) G9 (fun z hz => by first | exact t9 z hz | (rw [World.size_alloc]; exact t9 z hz)))
                          have HRn : Hid (InL w yo b g po B3 X3 F2 #[.slice a1 acc1.length c1, .slice a2 acc2.length c2, .slice none 0 0, .slice none 0 0, .slice none 0 0, .slice none 0 0, .slice none 0 0, .slice ad p.dares.length cd, .slice aa p.answers.length ca] a3 n3 c3 acc3 qi fini Ni ts (.slice (some ⟨tb, tof, none⟩) 0 0) (.slice p9 (acc4.length + 1) q9) (.int .i64 ((acc4.length : Int) + 1)) y9) :=
                            ⟨j2, rb', acc4 ++ [(((t1, t2, t3, t4, t5, t6), (dare, ans)), t)], p9, acc4.length + 1, q9, tl, (some ⟨tb, tof, none⟩), 0, 0, rfl, rfl, by simp, by have := HN2.out; simp; omega, by rw [List.map_append]; exact HF4.out, by have := HT2'.out; simpa using this, hrb, IP.out⟩
                          clear G9 k9 t9 IP kc0 kc1 kc2 kc3 kc4 kc5 kc6 kc7 kc8 hi hz0 hz1 hz2 GA EL
                          go_wp2_with fail
                          go_roundw
                          case rel => exact HRn.out
                          case measure => simp [intOf]; omega
                        · go_upto_region 24 with (fail)
                          refine wp_region_T [] (fun w' => Kept [lb] v3 w') (by kernel_rfl) (Kept.refl _ _).drew (fun hH => ?_)
                          refine takeT [1, 2, 5, 6, 7] (i := 0) (v := ?tv13) rfl (by kernel_rfl) (by kernel_rfl) (by kernel_rfl) (by kernel_rfl) (fun _ _ _ h => h) (Or.inl ⟨by rfl, ?ty13⟩) hH ?tr13
                          case ty13 => intro w' hSw; (try dsimp only at hSw); go_simp; first | done | with_reducible rfl
                          simp only [Act.put, List.setIfInBounds_toArray, List.set_cons_zero, List.set_cons_succ]
                          refine takeT [2, 5, 6, 7] (i := 1) (v := ?tv14) rfl (by kernel_rfl) (by kernel_rfl) (by kernel_rfl) (by kernel_rfl) (fun _ _ _ h => h) (Or.inl ⟨by rfl, ?ty14⟩) hH ?tr14
                          case ty14 => intro w' hSw; (try dsimp only at hSw); go_simp; first | done | with_reducible rfl
                          simp only [Act.put, List.setIfInBounds_toArray, List.set_cons_zero, List.set_cons_succ]
                          refine takeT [5, 6, 7] (i := 2) (v := ?tv15) rfl (by kernel_rfl) (by kernel_rfl) (by kernel_rfl) (by kernel_rfl) (fun _ _ _ h => h) (Or.inl ⟨by rfl, ?ty15⟩) hH ?tr15
                          case ty15 => intro w' hSw; (try dsimp only at hSw); go_simp; first | done | with_reducible rfl
                          simp only [Act.put, List.setIfInBounds_toArray, List.set_cons_zero, List.set_cons_succ]
                          refine takeT [4, 7] (i := 3) (v := ?tv16) rfl (by kernel_rfl) (by kernel_rfl) (by kernel_rfl) (by kernel_rfl) (fun _ _ _ h => h) (Or.inl ⟨by rfl, ?ty16⟩) hH ?tr16
                          case ty16 => intro w' hSw; (try dsimp only at hSw); go_simp; first | done | with_reducible rfl
                          simp only [Act.put, List.setIfInBounds_toArray, List.set_cons_zero, List.set_cons_succ]
                          refine takeT [7] (i := 4) (v := ?tv17) rfl (by kernel_rfl) (by kernel_rfl) (by kernel_rfl) (by kernel_rfl) (fun _ _ _ h => h) (Or.inl ⟨by rfl, ?ty17⟩) hH ?tr17
                          case ty17 => intro w' hSw; (try dsimp only at hSw); go_simp; first | done | with_reducible rfl
                          simp only [Act.put, List.setIfInBounds_toArray, List.set_cons_zero, List.set_cons_succ]
                          refine takeT [6, 7] (i := 5) (v := ?tv18) rfl (by kernel_rfl) (by kernel_rfl) (by kernel_rfl) (by kernel_rfl) (fun _ _ _ h => h) (Or.inl ⟨by rfl, ?ty18⟩) hH ?tr18
                          case ty18 => intro w' hSw; (try dsimp only at hSw); go_simp; first | done | with_reducible rfl
                          simp only [Act.put, List.setIfInBounds_toArray, List.set_cons_zero, List.set_cons_succ]
                          refine wpAnyT_ready (rs := [6]) (by kernel_rfl) (by simp) ?_
                          refine AllReadyT.cons rfl (fun K hK => ?_) AllReadyT.nil
                          go_simp
                          refine hK.out _ _ (hH.setCell (Or.inl (by simp)) _) (fun hH => ?_)
                          clear hK K
                          (try skip)
                          refine wpAnyT_ready (rs := [7]) (by kernel_rfl) (by simp) ?_
                          refine AllReadyT.cons rfl (fun K hK => ?_) AllReadyT.nil
                          go_simp
                          refine hK.out _ _ hH (fun hH => ?_)
                          clear hK K
                          (try simp only [Act.put, List.setIfInBounds_toArray, List.set_cons_zero, List.set_cons_succ])
                          refine wpAnyT_done (by kernel_rfl) ?_ _
                          obtain ⟨v4, hv4⟩ : ∃ v4, (v3.setCell ⟨lb, 8, none⟩ (.string ⟨t.toArray⟩)).drew = v4 := ⟨_, rfl⟩
                          have k24 : Kept [] v2 v4 := hv4 ▸ (HK23.out.setCell (p := ⟨lb, 8, none⟩) (Or.inr (by have := HLB.out; show v2.heap.size ≤ lb; omega)) _).drew
                          have BL4 : Hid (Blk v4 lb 185 #[.int .i64 t1, .int .i64 t2, .int .i64 t3, .int .i64 t4, .int .i64 t5, .int .i64 t6, .int .i64 dare, .slice aa1 ans.length cc1, .string ⟨t.toArray⟩]) := by show Blk _ _ _ _; have := (BL.out.set_ 8 (.string ⟨t.toArray⟩)).drew; rw [hv4] at this; simpa using this
                          have I4 := Lib.hid ((I2.out.keep k24).terms (tsl' := tl) (ta' := (some ⟨tb, tof + 1, none⟩)) (nt' := L) (tc' := (tc2 - 1)) HL.out.symm (HCUT.out _ _ (fun h => absurd h hc1) (fun h => ⟨rfl, rfl⟩)))
                          have OW4 := Lib.hid (own_keep HOW.out k24 (by simp))
                          rw [hv4]
                          have hs24 := k24.size
                          have k24' := k24
                          clear q0 qf ql hH hv4 k24 HK23 BL HOW
                          have kc0 := BL4.out.cell 0
                          have kc1 := BL4.out.cell 1
                          have kc2 := BL4.out.cell 2
                          have kc3 := BL4.out.cell 3
                          have kc4 := BL4.out.cell 4
                          have kc5 := BL4.out.cell 5
                          have kc6 := BL4.out.cell 6
                          have kc7 := BL4.out.cell 7
                          have kc8 := BL4.out.cell 8
                          have ka : Kept [] v4 (v4.alloc (.cells #[.int .i64 t1, .int .i64 t2, .int .i64 t3, .int .i64 t4, .int .i64 t5, .int .i64 t6, .int .i64 dare, .slice aa1 ans.length cc1, .string ⟨t.toArray⟩] 185)) := (Kept.refl [] _).alloc _
                          have kall : Kept [b] wr (v4.alloc (.cells #[.int .i64 t1, .int .i64 t2, .int .i64 t3, .int .i64 t4, .int .i64 t5, .int .i64 t6, .int .i64 dare, .slice aa1 ans.length cc1, .string ⟨t.toArray⟩] 185)) := KB2.out.trans ((k24'.trans ka).mono (by simp))
                          have hSb : ∀ z ∈ [b], z < wr.heap.size → z ∈ X2 := fun z hz _ => by rw [List.mem_singleton] at hz; subst hz; exact hbX.out
                          have EL : Hid (Stable X2 (fun w => LnkR w [.int .i64 t1, .int .i64 t2, .int .i64 t3, .int .i64 t4, .int .i64 t5, .int .i64 t6, .int .i64 dare, .slice aa1 ans.length cc1, .string ⟨t.toArray⟩] (((t1, t2, t3, t4, t5, t6), (dare, ans)), t)) (v4.alloc (.cells #[.int .i64 t1, .int .i64 t2, .int .i64 t3, .int .i64 t4, .int .i64 t5, .int .i64 t6, .int .i64 dare, .slice aa1 ans.length cc1, .string ⟨t.toArray⟩] 185))) :=
                            (Stable.row (own_keep OW4.out ka (by simp)) (fun z hz hm => by have h1 := (own_ge OW4.out z hz).1; have h2 := XB0.out z hm; omega) hal).imp fun _ h => ⟨_, rfl, h⟩
                          have GA : Hid (Grow LnkR 9 185 yo.heap.size X2 (v4.alloc (.cells #[.int .i64 t1, .int .i64 t2, .int .i64 t3, .int .i64 t4, .int .i64 t5, .int .i64 t6, .int .i64 dare, .slice aa1 ans.length cc1, .string ⟨t.toArray⟩] 185)) (.slice a10 n10 c10) acc4) := HG4.out.step kall (fun z hz hm => by have := hgb.out z hz; rw [List.mem_singleton] at hm; omega) hSb (fun z hz => Or.inl hz)
                          have IA := Lib.hid (I4.out.keep ka)
                          have TA : Hid (Stable X2 (fun w => Row w 1 (.slice (some ⟨tb, tof + 1, none⟩) L (tc2 - 1)) tl.length (strs tl)) (v4.alloc (.cells #[.int .i64 t1, .int .i64 t2, .int .i64 t3, .int .i64 t4, .int .i64 t5, .int .i64 t6, .int .i64 dare, .slice aa1 ans.length cc1, .string ⟨t.toArray⟩] 185))) := (HT4.out.step kall hSb (fun z hz => Or.inl hz)).imp (HCUT.out _ _ (fun h => absurd h hc1) (fun h => ⟨rfl, rfl⟩))
                          have XB := Lib.hid (fun z hz => Nat.lt_of_lt_of_le (XB0.out z hz) kall.size)
                          have hle := Lib.hid (show yo.heap.size ≤ (v4.alloc (.cells #[.int .i64 t1, .int .i64 t2, .int .i64 t3, .int .i64 t4, .int .i64 t5, .int .i64 t6, .int .i64 dare, .slice aa1 ans.length cc1, .string ⟨t.toArray⟩] 185)).heap.size by have := IA.out.kb.size; exact this)
                          have HE10 := Lib.hid I4.out.e10
                          obtain ⟨i0, hi, hz0, hz1, hz2⟩ := info_parts infoLk
                          clear ka kall hSb OW4 k24' HG4 HT4
                          go_wp2_with (at_builtin; refine wpList_append_grow rfl _ _ 183 rfl i0 (.agg #[.int .i64 0, .int .i64 0, .int .i64 0, .int .i64 0, .int .i64 0, .int .i64 0, .int .i64 0, .slice none 0 0, .string ⟨#[]⟩]) 96 Tryz.underlying183 hi hz0 hz1 hz2 rfl (by decide) (by decide) rfl GA.out _ [.int .i64 t1, .int .i64 t2, .int .i64 t3, .int .i64 t4, .int .i64 t5, .int .i64 t6, .int .i64 dare, .slice aa1 ans.length cc1, .string ⟨t.toArray⟩] (((t1, t2, t3, t4, t5, t6), (dare, ans)), t) rfl (rowS rfl _ _ _ rfl) EL.out (by simp [Value.oneCell']) (by omega) hle.out XC.out ?_)
                          intro p9 q9 y9 G9 k9 t9
                          have IP := Lib.hid (IA.out.push XA.out XB.out TA.out XC.out k9 (by rw [HE10.out]) G9 (fun z hz => by first | exact t9 z hz | (rw [World.size_alloc]; exact t9 z hz)))
                          have HRn : Hid (InL w yo b g po B3 X3 F2 #[.slice a1 acc1.length c1, .slice a2 acc2.length c2, .slice none 0 0, .slice none 0 0, .slice none 0 0, .slice none 0 0, .slice none 0 0, .slice ad p.dares.length cd, .slice aa p.answers.length ca] a3 n3 c3 acc3 qi fini Ni ts (.slice (some ⟨tb, tof + 1, none⟩) L (tc2 - 1)) (.slice p9 (acc4.length + 1) q9) (.int .i64 ((acc4.length : Int) + 1)) y9) :=
                            ⟨j2, rb', acc4 ++ [(((t1, t2, t3, t4, t5, t6), (dare, ans)), t)], p9, acc4.length + 1, q9, tl, (some ⟨tb, tof + 1, none⟩), L, (tc2 - 1), rfl, rfl, by simp, by have := HN2.out; simp; omega, by rw [List.map_append]; exact HF4.out, by have := HT2'.out; simpa using this, hrb, IP.out⟩
                          clear G9 k9 t9 IP kc0 kc1 kc2 kc3 kc4 kc5 kc6 kc7 kc8 hi hz0 hz1 hz2 GA EL
                          go_wp2_with fail
                          go_roundw
                          case rel => exact HRn.out
                          case measure => simp [intOf]; omega
                · have e1 : Hid (acc3.length = N3) := by show _ = _; have := HN.out; omega
                  have E3 : Hid (many (many lnk) r2 = (strip acc3, r3)) := by show _ = _; rw [HM3.out, ← HF.out]; rfl
                  have hn := DD.out.nl
                  subst hn
                  obtain ⟨Y3, hD', hX', hv'⟩ := DD.out.done (by omega)
                  obtain ⟨F3, hF2⟩ : ∃ F : World → Prop, (fun w => F2 w ∧ RowOf LnksR 1 w (.slice a3 acc3.length c3) acc3) = F := ⟨_, rfl⟩
                  have HI3 : Hid (∀ w, F3 w → F2 w ∧ RowOf LnksR 1 w (.slice a3 acc3.length c3) acc3) := fun w h => by rw [← hF2] at h; exact h
                  rw [hF2] at hD'
                  have D3 : Hid (De w wr b g po Y3 F3 #[.slice a1 acc1.length c1, .slice a2 acc2.length c2, .slice a3 acc3.length c3, .slice none 0 0, .slice none 0 0, .slice none 0 0, .slice none 0 0, .slice ad p.dares.length cd, .slice aa p.answers.length ca] r3) := hD'
                  have HLEN := Lib.hid (show nt = tsl.length from HNT.out)
                  have hnt9 : nt ≤ 9223372036854775807 := by have := HTR.out.get.2.1; have := HNT.out; omega
                  rw [e1.out]
                  clear hD' hX' hv' hF2 DD HF HN HM3 HTR
                  obtain ⟨x3, hx3⟩ : ∃ x, wr = x := ⟨_, rfl⟩
                  rw [hx3] at D3 ⊢
                  clear hx3
                  obtain ⟨cm, r4, hq4⟩ : ∃ l r, list r3 = (l, r) := ⟨_, _, rfl⟩
                  have hr4 : r4.left.length ≤ 100000001 := by have := list_le r3; rw [hq4] at this; have : r4.left.length ≤ r3.left.length := this; omega
                  have hcm : cm.length ≤ 100000001 := by have := list_len r3; rw [hq4] at this; have : cm.length ≤ r3.left.length := this; omega
                  have HL4 : Hid (Calls Tryz.prog 137 #[.pointer (some ⟨b, 0, none⟩)] x3 (ListP b g cm r4 x3)) := by have := srow_list b g r3 x3 D3.out.tp (by omega); rwa [hq4] at this
                  have E4 := Lib.hid hq4
                  clear hq4
                  go_wp2_with (go_at_call 137; refine HL4.out.mono ?_)
                  rintro e x4 ⟨a4, c4, rfl, own4, tp4, k4⟩
                  have hXlt := Lib.hid D3.out.hX
                  have D4 := Lib.hid ((D3.out.read k4 tp4).more (Stable.row own4 (fun z hz hm => by have h1 := (own_ge own4 z hz).1; have h2 := hXlt.out z hm; omega) (by omega)))
                  clear own4 tp4 k4 HL4 D3 hXlt
                  obtain ⟨F4, hF4⟩ : ∃ F : World → Prop, (fun w => F3 w ∧ Row w 1 (.slice a4 cm.length c4) cm.length (ints cm)) = F := ⟨_, rfl⟩
                  have HI4 : Hid (∀ w, F4 w → F3 w ∧ Row w 1 (.slice a4 cm.length c4) cm.length (ints cm)) := fun w h => by rw [← hF4] at h; exact h
                  rw [hF4] at D4
                  clear hF4
                  obtain ⟨ch, r5, hq5⟩ : ∃ l r, list r4 = (l, r) := ⟨_, _, rfl⟩
                  have hr5 : r5.left.length ≤ 100000001 := by have := list_le r4; rw [hq5] at this; have : r5.left.length ≤ r4.left.length := this; omega
                  have hch : ch.length ≤ 100000001 := by have := list_len r4; rw [hq5] at this; have : ch.length ≤ r4.left.length := this; omega
                  have HL5 : Hid (Calls Tryz.prog 137 #[.pointer (some ⟨b, 0, none⟩)] x4 (ListP b g ch r5 x4)) := by have := srow_list b g r4 x4 D4.out.tp (by omega); rwa [hq5] at this
                  have E5 := Lib.hid hq5
                  clear hq5
                  go_wp2_with (go_at_call 137; refine HL5.out.mono ?_)
                  rintro e x5 ⟨a5, c5, rfl, own5, tp5, k5⟩
                  have hXlt := Lib.hid D4.out.hX
                  have D5 := Lib.hid ((D4.out.read k5 tp5).more (Stable.row own5 (fun z hz hm => by have h1 := (own_ge own5 z hz).1; have h2 := hXlt.out z hm; omega) (by omega)))
                  clear own5 tp5 k5 HL5 D4 hXlt
                  obtain ⟨F5, hF5⟩ : ∃ F : World → Prop, (fun w => F4 w ∧ Row w 1 (.slice a5 ch.length c5) ch.length (ints ch)) = F := ⟨_, rfl⟩
                  have HI5 : Hid (∀ w, F5 w → F4 w ∧ Row w 1 (.slice a5 ch.length c5) ch.length (ints ch)) := fun w h => by rw [← hF5] at h; exact h
                  rw [hF5] at D5
                  clear hF5
                  have p3 : x5.cell? ⟨po, 3, none⟩ = some (.slice none 0 0) := D5.out.bp.cell 3
                  have p4 : x5.cell? ⟨po, 4, none⟩ = some (.slice none 0 0) := D5.out.bp.cell 4
                  have f3 := D5.out.bp.frozen 3
                  have f4 := D5.out.bp.frozen 4
                  have D6 : Hid (De w ((x5.setCell ⟨po, 3, none⟩ (.slice a4 cm.length c4)).setCell ⟨po, 4, none⟩ (.slice a5 ch.length c5)) b g po Y3 F5 #[.slice a1 acc1.length c1, .slice a2 acc2.length c2, .slice a3 acc3.length c3, .slice a4 cm.length c4, .slice a5 ch.length c5, .slice none 0 0, .slice none 0 0, .slice ad p.dares.length cd, .slice aa p.answers.length ca] r5) := (D5.out.store 3 (.slice a4 cm.length c4)).store 4 (.slice a5 ch.length c5)
                  clear D5
                  go_upto_region 30 with (fail)
                  obtain ⟨x6, hx6⟩ : ∃ x, (x5.setCell ⟨po, 3, none⟩ (.slice a4 cm.length c4)).setCell ⟨po, 4, none⟩ (.slice a5 ch.length c5) = x := ⟨_, rfl⟩
                  rw [hx6] at D6 ⊢
                  clear hx6 p3 p4 f3 f4
                  have HC6 := Lib.hid (srow_count b g r5 x6 D6.out.tp)
                  obtain ⟨N6, q6, hq6⟩ : ∃ N q, count r5 = (N, q) := ⟨_, _, rfl⟩
                  have hcl6 := count_le r5
                  have hm6 : many list r5 = times list (count r5).1 (count r5).2 [] := rfl
                  rw [hq6] at HC6 hcl6 hm6
                  replace hcl6 : N6 ≤ q6.left.length ∧ q6.left.length ≤ (r5).left.length := hcl6
                  have hql6 : q6.left.length ≤ 100000001 := Nat.le_trans hcl6.2 hr5
                  obtain ⟨fin6, hfin6⟩ : ∃ fin, times list N6 q6 [] = fin := ⟨_, rfl⟩
                  have HM6 : Hid (many list r5 = fin6) := hm6.trans hfin6
                  have HFN6 := Lib.hid hfin6
                  clear hq6 hm6 hfin6
                  go_wp2_with (go_at_call 134; refine HC6.out.mono ?_)
                  rintro e y6 ⟨rfl, t, kk⟩
                  have G6 : Hid (Dg ListR 1 24 5 w y6 b g po y6.heap.size _ F5 #[.slice a1 acc1.length c1, .slice a2 acc2.length c2, .slice a3 acc3.length c3, .slice a4 cm.length c4, .slice a5 ch.length c5, .slice none 0 0, .slice none 0 0, .slice ad p.dares.length cd, .slice aa p.answers.length ca] none 0 0 [] q6) := Dg.start (D6.out.read kk t) rfl
                  clear t kk HC6 D6
                  obtain ⟨B6, hB6⟩ : ∃ B, y6.heap.size = B := ⟨_, rfl⟩
                  rw [hB6] at G6
                  clear hB6
                  go_wp2_with fail
                  go_loopw [103] (fun vi wr => GRel ListR 1 24 5 list w b g po B6 F5 #[.slice a1 acc1.length c1, .slice a2 acc2.length c2, .slice a3 acc3.length c3, .slice a4 cm.length c4, .slice a5 ch.length c5, .slice none 0 0, .slice none 0 0, .slice ad p.dares.length cd, .slice aa p.answers.length ca] fin6 N6 vi wr) (fun vi _ => N6 - (intOf vi).toNat)
                  case atStart => exact ⟨N6, q6, [], _, _, _, _, rfl, by simp, HFN6.out, hql6, G6.out⟩
                  case round =>
                    obtain ⟨j, r6, acc6, X6, a6, n6, c6, rfl, hN, hf, hrl6, hD⟩ := hrel
                    have DD := Lib.hid hD
                    have HF := Lib.hid hf
                    have HN := Lib.hid hN
                    have haN6 : acc6.length ≤ N6 := by omega
                    clear hD hf G6 HFN6
                    rcases j with _ | j
                    rotate_left
                    · have hlt : acc6.length < N6 := by have := HN.out; omega
                      obtain ⟨bl, r', hone'⟩ : ∃ t r', list r6 = (t, r') := ⟨_, _, rfl⟩
                      have hone := Lib.hid hone'
                      have HCALL : Hid (∀ u, TpAt 174 u b g r6 → g ≠ u.heap.size → Calls Tryz.prog 137 #[.pointer (some ⟨b, 0, none⟩)] u (ListP b g bl r' u)) := fun u h1 _ => by have := srow_list b g r6 u h1 (by omega); rwa [hone'] at this
                      have HF2 : Hid (times list j r' (acc6 ++ [bl]) = fin6) := by show _ = _; rw [← HF.out, times_succ, hone']
                      have hal : bl.length ≤ 9223372036854775807 := by have h1 := list_len r6; rw [hone'] at h1; have : bl.length ≤ r6.left.length := h1; omega
                      have hX2 := Lib.hid DD.out.de.hX
                      clear hone'
                      have q0 := DD.out.cell (by simp)
                      have qf := Lib.hid DD.out.frozen
                      have hgs : g ≠ wr.drew.heap.size := by have := DD.out.lg; have := DD.out.lB; show g ≠ wr.heap.size; omega
                      have hTd : TpAt 174 wr.drew b g r6 := DD.out.de.tp.keep (S := []) (Kept.refl _ _).drew (by simp) (by simp)
                      have hrl2 : r'.left.length ≤ 100000001 := by have := list_le r6; rw [hone.out] at this; have : r'.left.length ≤ r6.left.length := this; omega
                      obtain ⟨i0, hi, hz0, hz1, hz2⟩ := info_parts infoL
                      go_upto_region 32 with (fail)
                      refine wp_region_T [6, 7] (fun w' => Kept (b :: obl (.slice a6 n6 c6)) wr w') (by kernel_rfl) (Kept.refl _ _).drew (fun hH => ?_)
                      refine takeT [1, 5, 6, 7] (i := 0) (v := ?tv19) rfl (by kernel_rfl) (by kernel_rfl) (by kernel_rfl) (by kernel_rfl) (fun _ _ _ h => h) (Or.inl ⟨by rfl, ?ty19⟩) hH ?tr19
                      case ty19 => intro w' hSw; (try dsimp only at hSw); go_simp; first | done | with_reducible rfl
                      simp only [Act.put, List.setIfInBounds_toArray, List.set_cons_zero, List.set_cons_succ]
                      refine takeT [5, 6, 7] (i := 1) (v := ?tv20) rfl (by kernel_rfl) (by kernel_rfl) (by kernel_rfl) (by kernel_rfl) (fun _ _ _ h => h) (Or.inl ⟨by rfl, ?ty20⟩) hH ?tr20
                      case ty20 => intro w' hSw; (try dsimp only at hSw); go_simp; first | done | with_reducible rfl
                      simp only [Act.put, List.setIfInBounds_toArray, List.set_cons_zero, List.set_cons_succ]
                      refine takeT [3, 4, 5, 6, 7] (i := 2) (v := ?tv21) rfl (by kernel_rfl) (by kernel_rfl) (by kernel_rfl) (by kernel_rfl) (fun _ _ _ h => h) (Or.inl ⟨by rfl, ?ty21⟩) hH ?tr21
                      case ty21 => intro w' hSw; (try dsimp only at hSw); go_simp; first | done | with_reducible rfl
                      simp only [Act.put, List.setIfInBounds_toArray, List.set_cons_zero, List.set_cons_succ]
                      refine wpAnyT_ready (rs := [3]) (by kernel_rfl) (by simp) ?_
                      refine AllReadyT.cons rfl (fun K hK => ?_) AllReadyT.nil
                      go_simp
                      refine (HCALL.out wr.drew hTd hgs).mono ?_
                      rintro e y ⟨aa1, cc1, rfl, own, tpy, kb⟩
                      have kby : Kept [b] wr y := (Kept.refl [b] wr).drew.trans kb
                      have hSy : Kept (b :: obl (.slice a6 n6 c6)) wr y := kby.mono fun z _ hz => by rw [List.mem_singleton] at hz; subst hz; exact List.mem_cons_self
                      have hRR : Hid (Stable X6 (fun w => ListR w [.slice aa1 bl.length cc1] bl) y) :=
                        (Stable.row own (fun z hz hm => by have h1 := (own_ge own z hz).1; have h2 := hX2.out z hm; have h3 : wr.drew.heap.size = wr.heap.size := rfl; omega) hal).imp fun _ h => ⟨_, rfl, h⟩
                      refine hK.out _ _ hSy (fun hH => ?_)
                      clear hK K
                      (try skip)
                      refine wpAnyT_ready (rs := [4]) (by kernel_rfl) (by simp) ?_
                      refine AllReadyT.cons rfl (fun K hK => ?_) AllReadyT.nil
                      go_simp
                      refine hK.out _ _ (hH.alloc _) (fun hH => ?_)
                      clear hK K
                      (try simp only [Act.put, List.setIfInBounds_toArray, List.set_cons_zero, List.set_cons_succ])
                      refine wpAnyT_ready (rs := [5]) (by kernel_rfl) (by simp) ?_
                      refine AllReadyT.cons rfl (fun K hK => ?_) AllReadyT.nil
                      refine step_push (DD.out.read kby tpy) rfl _ _ 55 rfl i0 (.slice none 0 0) 24 Tryz.underlying55 hi hz0 hz1 hz2 rfl (by decide) (by decide) rfl _ rfl [.slice aa1 bl.length cc1] bl (rowS rfl _ _ _ rfl) ((Kept.refl _ _).alloc _) hRR.out (by simp [Value.oneCell']) (by omega) ?_
                      intro p q y2 ks HX
                      have hS2 : Kept (b :: obl (.slice a6 n6 c6)) wr y2 := hSy.trans (ks.mono fun z _ hz => List.mem_cons_of_mem _ hz)
                      have z0 := q0 _ hS2
                      have f0 := qf.out _ hS2
                      refine hK.out _ _ hS2 (fun hH => ?_)
                      clear hK K
                      (try simp only [Act.put, List.setIfInBounds_toArray])
                      refine wpAnyT_ready (rs := [6]) (by kernel_rfl) (by simp) ?_
                      refine AllReadyT.last rfl (by kernel_rfl) (fun K hK => ?_)
                      go_simp
                      refine hK.out _ _ ?_
                      clear hK K
                      (try simp only [Act.put, List.setIfInBounds_toArray, List.set_cons_zero, List.set_cons_succ])
                      refine wpAnyT_ready (rs := [7]) (by kernel_rfl) (by simp) ?_
                      refine AllReadyT.last rfl (by kernel_rfl) (fun K hK => ?_)
                      go_simp
                      refine hK.out _ _ ?_
                      clear hK K
                      (try simp only [Act.put, List.setIfInBounds_toArray, List.set_cons_zero, List.set_cons_succ])
                      refine wpAnyT_done (by kernel_rfl) ?_ _
                      have HRn := Lib.hid (GRel.next (one := list) (fin := fin6) HX HN.out HF2.out hrl2)
                      clear HX hS2 hSy q0 hH
                      go_wp2_with fail
                      go_roundw
                      case rel => exact HRn.out
                      case measure => simp [intOf]; omega
                    · have e1 : Hid (acc6.length = N6) := by show _ = _; have := HN.out; omega
                      have E6 : Hid (many list r5 = (acc6, r6)) := by show _ = _; rw [HM6.out, ← HF.out]; rfl
                      have hn := DD.out.nl
                      subst hn
                      obtain ⟨Y6, hD', hX', hv'⟩ := DD.out.done (by omega)
                      obtain ⟨F6, hF2⟩ : ∃ F : World → Prop, (fun w => F5 w ∧ RowOf ListR 1 w (.slice a6 acc6.length c6) acc6) = F := ⟨_, rfl⟩
                      have HI6 : Hid (∀ w, F6 w → F5 w ∧ RowOf ListR 1 w (.slice a6 acc6.length c6) acc6) := fun w h => by rw [← hF2] at h; exact h
                      rw [hF2] at hD'
                      have D6 : Hid (De w wr b g po Y6 F6 #[.slice a1 acc1.length c1, .slice a2 acc2.length c2, .slice a3 acc3.length c3, .slice a4 cm.length c4, .slice a5 ch.length c5, .slice a6 acc6.length c6, .slice none 0 0, .slice ad p.dares.length cd, .slice aa p.answers.length ca] r6) := hD'
                      rw [e1.out]
                      clear hD' hX' hv' hF2 DD HF HN HM6
                      obtain ⟨x6, hx6⟩ : ∃ x, wr = x := ⟨_, rfl⟩
                      rw [hx6] at D6 ⊢
                      clear hx6
                      obtain ⟨es, r7, hq7⟩ : ∃ l r, list r6 = (l, r) := ⟨_, _, rfl⟩
                      have hr7 : r7.left.length ≤ 100000001 := by have := list_le r6; rw [hq7] at this; have : r7.left.length ≤ r6.left.length := this; omega
                      have hes : es.length ≤ 100000001 := by have := list_len r6; rw [hq7] at this; have : es.length ≤ r6.left.length := this; omega
                      have HL7 : Hid (Calls Tryz.prog 137 #[.pointer (some ⟨b, 0, none⟩)] x6 (ListP b g es r7 x6)) := by have := srow_list b g r6 x6 D6.out.tp (by omega); rwa [hq7] at this
                      have E7 := Lib.hid hq7
                      clear hq7
                      go_wp2_with (go_at_call 137; refine HL7.out.mono ?_)
                      rintro e x7 ⟨a7, c7, rfl, own7, tp7, k7⟩
                      have hXlt := Lib.hid D6.out.hX
                      have D7 := Lib.hid ((D6.out.read k7 tp7).more (Stable.row own7 (fun z hz hm => by have h1 := (own_ge own7 z hz).1; have h2 := hXlt.out z hm; omega) (by omega)))
                      clear own7 tp7 k7 HL7 D6 hXlt
                      obtain ⟨F7, hF7⟩ : ∃ F : World → Prop, (fun w => F6 w ∧ Row w 1 (.slice a7 es.length c7) es.length (ints es)) = F := ⟨_, rfl⟩
                      have HI7 : Hid (∀ w, F7 w → F6 w ∧ Row w 1 (.slice a7 es.length c7) es.length (ints es)) := fun w h => by rw [← hF7] at h; exact h
                      rw [hF7] at D7
                      have p6 : x7.cell? ⟨po, 6, none⟩ = some (.slice none 0 0) := D7.out.bp.cell 6
                      have f6 := D7.out.bp.frozen 6
                      have D8 : Hid (De w (x7.setCell ⟨po, 6, none⟩ (.slice a7 es.length c7)) b g po Y6 F7 #[.slice a1 acc1.length c1, .slice a2 acc2.length c2, .slice a3 acc3.length c3, .slice a4 cm.length c4, .slice a5 ch.length c5, .slice a6 acc6.length c6, .slice a7 es.length c7, .slice ad p.dares.length cd, .slice aa p.answers.length ca] r7) := D7.out.store 6 (.slice a7 es.length c7)
                      clear D7 hF7
                      go_upto_region 35 with (fail)
                      obtain ⟨x8, hx8⟩ : ∃ x, x7.setCell ⟨po, 6, none⟩ (.slice a7 es.length c7) = x := ⟨_, rfl⟩
                      rw [hx8] at D8 ⊢
                      clear hx8 p6 f6
                      have HN7 := Lib.hid (nums7_eq E1.out E2.out E3.out E4.out E5.out E6.out E7.out)
                      rw [HN7.out] at HR1
                      have hbr := D8.out.tp.st
                      obtain ⟨a8, c8, hb8, hs8⟩ := hbr
                      have hml := hs8.2.1
                      have b0 : x8.cell? ⟨b, 0, none⟩ = some (.slice a8 r7.left.length c8) := hb8.cell 0
                      have b1 : x8.cell? ⟨b, 1, none⟩ = some (.bool r7.bad) := hb8.cell 1
                      have BQ := Lib.hid D8.out.bq
                      have KQ := Lib.hid D8.out.k0
                      have HST : Hid (total (strip acc3) = (terms acc3).length) := total_strip acc3
                      have hfail : Hid ((r7.bad = true ∨ 0 < r7.left.length ∨ 0 < nt) → readR s = (zeroR, false)) := fun h => by
                        rw [HR1.out, if_neg]
                        intro h2
                        rw [Bool.and_eq_true, ended_iff, decide_eq_true_eq] at h2
                        obtain ⟨⟨g1, g2⟩, g3⟩ := h2
                        have g4 : total (strip acc3) = ts.length := g3
                        rw [HST.out, ← HTT.out, List.length_append] at g4
                        rcases h with h | h | h
                        · rw [g1] at h; cases h
                        · rw [g2] at h; simp at h
                        · have := HLEN.out; omega
                      have hgood : Hid (r7.bad = false → r7.left.length = 0 → nt = 0 → readR s = (⟨acc1, acc2, acc3, cm, ch, acc6, es, p⟩, true)) := fun h1 h2 h3 => by
                        have h4 : tsl = [] := List.eq_nil_of_length_eq_zero (by have := HLEN.out; omega)
                        have h5 : terms acc3 = ts := by have := HTT.out; rw [h4, List.append_nil] at this; exact this
                        obtain ⟨h6, h7⟩ := attach_of (accL := acc3) rfl h5
                        rw [HR1.out, if_pos]
                        · unfold mkR
                          simp only
                          rw [h6]
                        · rw [Bool.and_eq_true, ended_iff, decide_eq_true_eq]
                          exact ⟨⟨h1, List.eq_nil_of_length_eq_zero h2⟩, h7⟩
                      clear hb8 hs8 HR1 HN7
                      obtain ⟨L, hL⟩ : ∃ L, r7.left.length = L := ⟨_, rfl⟩
                      rw [hL] at b0 hml hfail hgood
                      clear hL
                      cases hbd : r7.bad
                      · rw [hbd] at b1
                        by_cases hL0 : L = 0
                        · subst hL0
                          by_cases hn0 : nt = 0
                          · subst hn0
                            have HR := Lib.hid (hgood.out hbd rfl rfl)
                            clear hfail hgood
                            have pc0 : x8.cell? ⟨po, 0, none⟩ = some (.slice a1 acc1.length c1) := D8.out.bp.cell 0
                            have pc1 : x8.cell? ⟨po, 1, none⟩ = some (.slice a2 acc2.length c2) := D8.out.bp.cell 1
                            have pc2 : x8.cell? ⟨po, 2, none⟩ = some (.slice a3 acc3.length c3) := D8.out.bp.cell 2
                            have pc3 : x8.cell? ⟨po, 3, none⟩ = some (.slice a4 cm.length c4) := D8.out.bp.cell 3
                            have pc4 : x8.cell? ⟨po, 4, none⟩ = some (.slice a5 ch.length c5) := D8.out.bp.cell 4
                            have pc5 : x8.cell? ⟨po, 5, none⟩ = some (.slice a6 acc6.length c6) := D8.out.bp.cell 5
                            have pc6 : x8.cell? ⟨po, 6, none⟩ = some (.slice a7 es.length c7) := D8.out.bp.cell 6
                            have pc7 : x8.cell? ⟨po, 7, none⟩ = some (.slice ad p.dares.length cd) := D8.out.bp.cell 7
                            have pc8 : x8.cell? ⟨po, 8, none⟩ = some (.slice aa p.answers.length ca) := D8.out.bp.cell 8
                            have z0 : x8.cell? ⟨w.heap.size, 0, none⟩ = some (.slice none 0 0) := BQ.out.cell 0
                            have y0 := BQ.out.frozen 0
                            have z1 : x8.cell? ⟨w.heap.size, 1, none⟩ = some (.slice none 0 0) := BQ.out.cell 1
                            have y1 := BQ.out.frozen 1
                            have z2 : x8.cell? ⟨w.heap.size, 2, none⟩ = some (.slice none 0 0) := BQ.out.cell 2
                            have y2 := BQ.out.frozen 2
                            have z3 : x8.cell? ⟨w.heap.size, 3, none⟩ = some (.slice none 0 0) := BQ.out.cell 3
                            have y3 := BQ.out.frozen 3
                            have z4 : x8.cell? ⟨w.heap.size, 4, none⟩ = some (.slice none 0 0) := BQ.out.cell 4
                            have y4 := BQ.out.frozen 4
                            have z5 : x8.cell? ⟨w.heap.size, 5, none⟩ = some (.slice none 0 0) := BQ.out.cell 5
                            have y5 := BQ.out.frozen 5
                            have z6 : x8.cell? ⟨w.heap.size, 6, none⟩ = some (.slice none 0 0) := BQ.out.cell 6
                            have y6 := BQ.out.frozen 6
                            have z7 : x8.cell? ⟨w.heap.size, 7, none⟩ = some (.slice none 0 0) := BQ.out.cell 7
                            have y7 := BQ.out.frozen 7
                            have z8 : x8.cell? ⟨w.heap.size, 8, none⟩ = some (.slice none 0 0) := BQ.out.cell 8
                            have y8 := BQ.out.frozen 8
                            have hpq : po ≠ w.heap.size := by have := D8.out.wp; omega
                            have hqp : w.heap.size ≠ po := fun h => hpq h.symm
                            go_wp2_with fail
                            obtain ⟨wf, hwf⟩ : ∃ wf, (((((((((x8.setCell ⟨w.heap.size, 0, none⟩ (.slice a1 acc1.length c1)).setCell ⟨w.heap.size, 1, none⟩ (.slice a2 acc2.length c2)).setCell ⟨w.heap.size, 2, none⟩ (.slice a3 acc3.length c3)).setCell ⟨w.heap.size, 3, none⟩ (.slice a4 cm.length c4)).setCell ⟨w.heap.size, 4, none⟩ (.slice a5 ch.length c5)).setCell ⟨w.heap.size, 5, none⟩ (.slice a6 acc6.length c6)).setCell ⟨w.heap.size, 6, none⟩ (.slice a7 es.length c7)).setCell ⟨w.heap.size, 7, none⟩ (.slice ad p.dares.length cd)).setCell ⟨w.heap.size, 8, none⟩ (.slice aa p.answers.length ca)) = wf := ⟨_, rfl⟩
                            have kk : Kept [w.heap.size] x8 wf := hwf ▸ ((((((((((Kept.refl [w.heap.size] x8).setCell (by simp) _).setCell (by simp) _).setCell (by simp) _).setCell (by simp) _).setCell (by simp) _).setCell (by simp) _).setCell (by simp) _).setCell (by simp) _).setCell (by simp) _)
                            have kq : Kept [] w wf := hwf ▸ (((((((((KQ.out.setCell (Or.inr (Nat.le_refl _)) _).setCell (Or.inr (Nat.le_refl _)) _).setCell (Or.inr (Nat.le_refl _)) _).setCell (Or.inr (Nat.le_refl _)) _).setCell (Or.inr (Nat.le_refl _)) _).setCell (Or.inr (Nat.le_refl _)) _).setCell (Or.inr (Nat.le_refl _)) _).setCell (Or.inr (Nat.le_refl _)) _).setCell (Or.inr (Nat.le_refl _)) _)
                            have BB : Blk wf w.heap.size 135 #[.slice a1 acc1.length c1, .slice a2 acc2.length c2, .slice a3 acc3.length c3, .slice a4 cm.length c4, .slice a5 ch.length c5, .slice a6 acc6.length c6, .slice a7 es.length c7, .slice ad p.dares.length cd, .slice aa p.answers.length ca] := by have := (((((((((BQ.out.set_ 0 (.slice a1 acc1.length c1)).set_ 1 (.slice a2 acc2.length c2)).set_ 2 (.slice a3 acc3.length c3)).set_ 3 (.slice a4 cm.length c4)).set_ 4 (.slice a5 ch.length c5)).set_ 5 (.slice a6 acc6.length c6)).set_ 6 (.slice a7 es.length c7)).set_ 7 (.slice ad p.dares.length cd)).set_ 8 (.slice aa p.answers.length ca)); rw [hwf] at this; simpa [zeros9] using this
                            have zz0 := BB.cell 0
                            have zz1 := BB.cell 1
                            have zz2 := BB.cell 2
                            have zz3 := BB.cell 3
                            have zz4 := BB.cell 4
                            have zz5 := BB.cell 5
                            have zz6 := BB.cell 6
                            have zz7 := BB.cell 7
                            have zz8 := BB.cell 8
                            rw [hwf]
                            have hF := D8.out.fin [w.heap.size] wf kk (fun z hz _ => by rw [List.mem_singleton] at hz; subst hz; exact D8.out.qX)
                            refine bodyPost_ret (v := .tuple #[.agg #[.slice a1 acc1.length c1, .slice a2 acc2.length c2, .slice a3 acc3.length c3, .slice a4 cm.length c4, .slice a5 ch.length c5, .slice a6 acc6.length c6, .slice a7 es.length c7, .slice ad p.dares.length cd, .slice aa p.answers.length ca], .bool true]) (by simp [results, Tryz.results83, go_sem, zz0, zz1, zz2, zz3, zz4, zz5, zz6, zz7, zz8]) rfl ?_
                            rw [HR.out]
                            obtain ⟨hF, h7⟩ := HI7.out _ hF
                            obtain ⟨hF, h6⟩ := HI6.out _ hF
                            obtain ⟨hF, h5⟩ := HI5.out _ hF
                            obtain ⟨hF, h4⟩ := HI4.out _ hF
                            obtain ⟨hF, h3⟩ := HI3.out _ hF
                            obtain ⟨hF, h2⟩ := HI2.out _ hF
                            obtain ⟨hF, h1⟩ := HI1.out _ hF
                            obtain ⟨⟨h8, h9⟩, _⟩ := HI0.out _ hF
                            exact ⟨_, rfl, ⟨_, _, _, _, _, _, _, _, _, rfl, h1, h2, h3, h4, h5, h6, h7, h8, h9⟩, kq⟩
                          · have hn1 : 0 < nt := by omega
                            have HR := Lib.hid (hfail.out (Or.inr (Or.inr hn1)))
                            clear hfail hgood D8
                            have z0 : x8.cell? ⟨w.heap.size, 0, none⟩ = some (.slice none 0 0) := BQ.out.cell 0
                            have y0 := BQ.out.frozen 0
                            have z1 : x8.cell? ⟨w.heap.size, 1, none⟩ = some (.slice none 0 0) := BQ.out.cell 1
                            have y1 := BQ.out.frozen 1
                            have z2 : x8.cell? ⟨w.heap.size, 2, none⟩ = some (.slice none 0 0) := BQ.out.cell 2
                            have y2 := BQ.out.frozen 2
                            have z3 : x8.cell? ⟨w.heap.size, 3, none⟩ = some (.slice none 0 0) := BQ.out.cell 3
                            have y3 := BQ.out.frozen 3
                            have z4 : x8.cell? ⟨w.heap.size, 4, none⟩ = some (.slice none 0 0) := BQ.out.cell 4
                            have y4 := BQ.out.frozen 4
                            have z5 : x8.cell? ⟨w.heap.size, 5, none⟩ = some (.slice none 0 0) := BQ.out.cell 5
                            have y5 := BQ.out.frozen 5
                            have z6 : x8.cell? ⟨w.heap.size, 6, none⟩ = some (.slice none 0 0) := BQ.out.cell 6
                            have y6 := BQ.out.frozen 6
                            have z7 : x8.cell? ⟨w.heap.size, 7, none⟩ = some (.slice none 0 0) := BQ.out.cell 7
                            have y7 := BQ.out.frozen 7
                            have z8 : x8.cell? ⟨w.heap.size, 8, none⟩ = some (.slice none 0 0) := BQ.out.cell 8
                            have y8 := BQ.out.frozen 8
                            go_wp2_with fail
                            refine bodyPost_ret (v := .tuple #[.agg zeros9, .bool false]) (by simp [results, Tryz.results83, go_sem, zeros9, z0, z1, z2, z3, z4, z5, z6, z7, z8]) rfl ?_
                            rw [HR.out]
                            refine ⟨_, rfl, recV_zero _, ?_⟩
                            repeat (refine Kept.setCell ?_ (Or.inr (Nat.le_refl _)) _)
                            exact KQ.out
                        · have HR := Lib.hid (hfail.out (Or.inr (Or.inl (by omega))))
                          clear hfail hgood D8
                          have z0 : x8.cell? ⟨w.heap.size, 0, none⟩ = some (.slice none 0 0) := BQ.out.cell 0
                          have y0 := BQ.out.frozen 0
                          have z1 : x8.cell? ⟨w.heap.size, 1, none⟩ = some (.slice none 0 0) := BQ.out.cell 1
                          have y1 := BQ.out.frozen 1
                          have z2 : x8.cell? ⟨w.heap.size, 2, none⟩ = some (.slice none 0 0) := BQ.out.cell 2
                          have y2 := BQ.out.frozen 2
                          have z3 : x8.cell? ⟨w.heap.size, 3, none⟩ = some (.slice none 0 0) := BQ.out.cell 3
                          have y3 := BQ.out.frozen 3
                          have z4 : x8.cell? ⟨w.heap.size, 4, none⟩ = some (.slice none 0 0) := BQ.out.cell 4
                          have y4 := BQ.out.frozen 4
                          have z5 : x8.cell? ⟨w.heap.size, 5, none⟩ = some (.slice none 0 0) := BQ.out.cell 5
                          have y5 := BQ.out.frozen 5
                          have z6 : x8.cell? ⟨w.heap.size, 6, none⟩ = some (.slice none 0 0) := BQ.out.cell 6
                          have y6 := BQ.out.frozen 6
                          have z7 : x8.cell? ⟨w.heap.size, 7, none⟩ = some (.slice none 0 0) := BQ.out.cell 7
                          have y7 := BQ.out.frozen 7
                          have z8 : x8.cell? ⟨w.heap.size, 8, none⟩ = some (.slice none 0 0) := BQ.out.cell 8
                          have y8 := BQ.out.frozen 8
                          go_wp2_with fail
                          refine bodyPost_ret (v := .tuple #[.agg zeros9, .bool false]) (by simp [results, Tryz.results83, go_sem, zeros9, z0, z1, z2, z3, z4, z5, z6, z7, z8]) rfl ?_
                          rw [HR.out]
                          refine ⟨_, rfl, recV_zero _, ?_⟩
                          repeat (refine Kept.setCell ?_ (Or.inr (Nat.le_refl _)) _)
                          exact KQ.out
                      · rw [hbd] at b1
                        have HR := Lib.hid (hfail.out (Or.inl hbd))
                        clear hfail hgood D8
                        have z0 : x8.cell? ⟨w.heap.size, 0, none⟩ = some (.slice none 0 0) := BQ.out.cell 0
                        have y0 := BQ.out.frozen 0
                        have z1 : x8.cell? ⟨w.heap.size, 1, none⟩ = some (.slice none 0 0) := BQ.out.cell 1
                        have y1 := BQ.out.frozen 1
                        have z2 : x8.cell? ⟨w.heap.size, 2, none⟩ = some (.slice none 0 0) := BQ.out.cell 2
                        have y2 := BQ.out.frozen 2
                        have z3 : x8.cell? ⟨w.heap.size, 3, none⟩ = some (.slice none 0 0) := BQ.out.cell 3
                        have y3 := BQ.out.frozen 3
                        have z4 : x8.cell? ⟨w.heap.size, 4, none⟩ = some (.slice none 0 0) := BQ.out.cell 4
                        have y4 := BQ.out.frozen 4
                        have z5 : x8.cell? ⟨w.heap.size, 5, none⟩ = some (.slice none 0 0) := BQ.out.cell 5
                        have y5 := BQ.out.frozen 5
                        have z6 : x8.cell? ⟨w.heap.size, 6, none⟩ = some (.slice none 0 0) := BQ.out.cell 6
                        have y6 := BQ.out.frozen 6
                        have z7 : x8.cell? ⟨w.heap.size, 7, none⟩ = some (.slice none 0 0) := BQ.out.cell 7
                        have y7 := BQ.out.frozen 7
                        have z8 : x8.cell? ⟨w.heap.size, 8, none⟩ = some (.slice none 0 0) := BQ.out.cell 8
                        have y8 := BQ.out.frozen 8
                        go_wp2_with fail
                        refine bodyPost_ret (v := .tuple #[.agg zeros9, .bool false]) (by simp [results, Tryz.results83, go_sem, zeros9, z0, z1, z2, z3, z4, z5, z6, z7, z8]) rfl ?_
                        rw [HR.out]
                        refine ⟨_, rfl, recV_zero _, ?_⟩
                        repeat (refine Kept.setCell ?_ (Or.inr (Nat.le_refl _)) _)
                        exact KQ.out
end Go.Proofs.YtcidfldeiklcjaaGreatDoor
