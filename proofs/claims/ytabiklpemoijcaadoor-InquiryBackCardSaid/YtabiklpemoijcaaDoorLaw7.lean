/- The law on minutes and ballots: InquiryBack. -/
import Derived.Test.YtabiklpemoijcaaDoorPlain7
import Derived.Test.YtabiklpemoijcaaDoorSane
namespace Go.Proofs.YtabiklpemoijcaaDoor
open Go.RowKit

/-- an opening that came in -/
structure OpenL (w : World) (v : Value) (o : Opening) : Prop where
  form : ∃ js, v = .agg #[.int .i64 o.version, .int .i64 o.gate, .int .i64 o.no, .string ⟨o.reason.toArray⟩, js, .int .i64 o.holder] ∧ Row w 1 js o.jurors.length (ints o.jurors)
  h0 : Wire.I64 o.version
  h1 : Wire.I64 o.gate
  h2 : Wire.I64 o.no
  h5 : Wire.I64 o.holder
  h4 : ∀ x ∈ o.jurors, Wire.I64 x
theorem OpenL.v {w : World} {v : Value} {o : Opening} (h : OpenL w v o) (l3 : o.reason.length ≤ 1000000) (l4 : o.jurors.length ≤ 1000001) : OpenV w v o := ⟨h.form, h.h0, h.h1, h.h2, h.h5, h.h4, l3, l4⟩
theorem VoteV.ok {w : World} {v : Value} {x : Vote} (h : VoteV w v x) (lr : x.reason.length ≤ 1000000) (lp : x.pts.length ≤ 900000) : OkV x := ⟨h.h0, h.h1, h.h2, h.h3, h.hp, lr, lp⟩

/-- ReadMinutes at a text whose reading is known -/
def RMS (y : Opening) (t : Bool) (w : World) (e : Ending) (w' : World) : Prop :=
  ∃ ja jc, e = .returned (.tuple #[.agg #[.int .i64 y.version, .int .i64 y.gate, .int .i64 y.no, .string ⟨y.reason.toArray⟩, .slice ja y.jurors.length jc, .int .i64 y.holder], .bool t]) ∧
    OpenV w' (.agg #[.int .i64 y.version, .int .i64 y.gate, .int .i64 y.no, .string ⟨y.reason.toArray⟩, .slice ja y.jurors.length jc, .int .i64 y.holder]) y ∧ Kept [] w w'
theorem rm_shape (s : List UInt8) (y : Opening) (t : Bool) (w : World) (hE : Env w) (hs : s.length ≤ 1000000) (h : readMinutes s = (y, t)) :
    Calls Tryd.prog 33 #[.string ⟨s.toArray⟩] w (RMS y t w) :=
  (readMinutes_any s w hE hs).mono fun e w' hr => by
    obtain ⟨v, he, hv, hk⟩ := hr
    rw [h] at hv he
    obtain ⟨js, rfl, hrow⟩ := hv.form
    obtain ⟨ja, jc, rfl, _⟩ := hrow.form
    exact ⟨ja, jc, he, hv, hk⟩

theorem numsE_short (l : List Int) (h : ∀ x ∈ l, Wire.I64 x) (hl : l.length ≤ 1000) : (Wire.numsE l).length ≤ 22 + 21 * l.length := by
  have h1 := flat_len l h
  have := Wire.itoa_len l.length ⟨by omega, by omega⟩
  simp only [Wire.numsE, Wire.listE, List.length_append, List.length_singleton]; omega
theorem minutes_short (o : Opening) (h : OkO o) (h1 : o.reason.length ≤ 60) (h2 : o.jurors.length ≤ 20) : (minutesE o).length ≤ 1000000 := by
  have h3 : ∀ x ∈ [o.version, o.gate, o.no], Wire.I64 x := by
    intro x hx
    simp only [List.mem_cons, List.not_mem_nil, or_false] at hx
    rcases hx with rfl | rfl | rfl
    · exact h.h0
    · exact h.h1
    · exact h.h2
  have l0 := numsE_short [o.version, o.gate, o.no] h3 (by simp)
  have l1 := textE_len o.reason (by omega)
  have l2 := numsE_short o.jurors h.h4 (by omega)
  have l3 := Wire.itoa_len o.holder h.h5
  have l4 := Wire.itoa_len o.reason.length ⟨by omega, by omega⟩
  simp only [minutesE, Wire.intE, Wire.textE, List.length_append, List.length_singleton] at *
  simp at l0
  omega
theorem same_refl (o : Opening) : sameO o o = true := by simp [sameO]
theorem fewV_facts {a b : Vote} (h : fewV [a, b] 2 = true) : (a.pts.length ≤ 42 ∧ a.reason.length ≤ 30) ∧ (b.pts.length ≤ 42 ∧ b.reason.length ≤ 30) := by
  unfold fewV fewVAt at h
  simp at h
  exact ⟨⟨h.1.1, h.1.2⟩, h.2.1, h.2.2⟩

/-- two votes in a new block -/
theorem VotesV.two {w : World} {a b : Vote} {pv qv : Value} {px py qx qy : Int} {pn qn : Nat} (ha : Row w 3 pv pn (ints a.pts)) (hb : Row w 3 qv qn (ints b.pts)) (T : TypeId) :
    VotesV (w.alloc (.cells #[.int .i64 a.juror, .int .i64 a.version, .int .i64 a.gate, .int .i64 a.no, .string ⟨a.reason.toArray⟩, pv, .int .i64 px, .int .i64 py,
      .int .i64 b.juror, .int .i64 b.version, .int .i64 b.gate, .int .i64 b.no, .string ⟨b.reason.toArray⟩, qv, .int .i64 qx, .int .i64 qy] T)) (.slice (some ⟨w.heap.size, 0, none⟩) 2 2) [a, b] := by
  refine ⟨_, Row.of_blk (Blk.new w T _) rfl (by decide), fun i x hx => ?_⟩
  match i, hx with
  | 0, hx =>
    simp at hx; subst hx
    exact ⟨pv, pn, rfl, rfl, ha.kept ((Kept.refl [] _).alloc _)⟩
  | 1, hx =>
    simp at hx; subst hx
    exact ⟨qv, qn, rfl, rfl, hb.kept ((Kept.refl [] _).alloc _)⟩
  | (n + 2), hx => simp at hx

set_option maxRecDepth 100000 in
set_option maxHeartbeats 4000000 in
theorem law7_any (v va vb : Value) (o : Opening) (tx : List UInt8) (a b : Vote) (w : World) (ho : OpenL w v o) (hva : VoteV w va a) (hvb : VoteV w vb b) (hE : Env w)
    (hol : o.reason.length ≤ 9223372036854775807) (htl : tx.length ≤ 9223372036854775807) (hal : a.reason.length ≤ 9223372036854775807) (hbl : b.reason.length ≤ 9223372036854775807) :
    Calls Tryd.prog 7 #[v, .string ⟨tx.toArray⟩, va, vb] w fun e w' => e = .returned (.bool true) ∧ Kept [] w w' := by
  obtain ⟨js, rfl, hjs⟩ := ho.form
  obtain ⟨ja, jc, rfl, hjl, _⟩ := hjs.form
  obtain ⟨pv, pn, px, py, rfl, hpr⟩ := hva.form
  obtain ⟨pa, pc, rfl, hpl, _⟩ := hpr.form
  obtain ⟨qv, qn, qx, qy, rfl, hqr⟩ := hvb.form
  obtain ⟨qa, qc, rfl, hql, _⟩ := hqr.form
  obtain ⟨W, hW⟩ : ∃ W, ((w.alloc (.cells #[.int .i64 o.version, .int .i64 o.gate, .int .i64 o.no, .string ⟨o.reason.toArray⟩, .slice ja o.jurors.length jc, .int .i64 o.holder] 71)).alloc (.cells #[.int .i64 a.juror, .int .i64 a.version, .int .i64 a.gate, .int .i64 a.no, .string ⟨a.reason.toArray⟩, .slice pa pn pc, .int .i64 px, .int .i64 py] 75)).alloc (.cells #[.int .i64 b.juror, .int .i64 b.version, .int .i64 b.gate, .int .i64 b.no, .string ⟨b.reason.toArray⟩, .slice qa qn qc, .int .i64 qx, .int .i64 qy] 75) = W := ⟨_, rfl⟩
  have hkW : Kept [] w W := hW ▸ (((Kept.refl [] w).alloc _).alloc _).alloc _
  have hbO : Blk W w.heap.size 71 #[.int .i64 o.version, .int .i64 o.gate, .int .i64 o.no, .string ⟨o.reason.toArray⟩, .slice ja o.jurors.length jc, .int .i64 o.holder] := hW ▸ ((Blk.new w _ _).alloc _).alloc _
  have hbA : Blk W (w.heap.size + 1) 75 #[.int .i64 a.juror, .int .i64 a.version, .int .i64 a.gate, .int .i64 a.no, .string ⟨a.reason.toArray⟩, .slice pa pn pc, .int .i64 px, .int .i64 py] := by
    have h := Blk.new (w.alloc (.cells #[.int .i64 o.version, .int .i64 o.gate, .int .i64 o.no, .string ⟨o.reason.toArray⟩, .slice ja o.jurors.length jc, .int .i64 o.holder] 71)) 75 #[.int .i64 a.juror, .int .i64 a.version, .int .i64 a.gate, .int .i64 a.no, .string ⟨a.reason.toArray⟩, .slice pa pn pc, .int .i64 px, .int .i64 py]
    rw [World.size_alloc] at h
    exact hW ▸ h.alloc _
  have hbB : Blk W (w.heap.size + 1 + 1) 75 #[.int .i64 b.juror, .int .i64 b.version, .int .i64 b.gate, .int .i64 b.no, .string ⟨b.reason.toArray⟩, .slice qa qn qc, .int .i64 qx, .int .i64 qy] := by
    have h := Blk.new ((w.alloc (.cells #[.int .i64 o.version, .int .i64 o.gate, .int .i64 o.no, .string ⟨o.reason.toArray⟩, .slice ja o.jurors.length jc, .int .i64 o.holder] 71)).alloc (.cells #[.int .i64 a.juror, .int .i64 a.version, .int .i64 a.gate, .int .i64 a.no, .string ⟨a.reason.toArray⟩, .slice pa pn pc, .int .i64 px, .int .i64 py] 75)) 75 #[.int .i64 b.juror, .int .i64 b.version, .int .i64 b.gate, .int .i64 b.no, .string ⟨b.reason.toArray⟩, .slice qa qn qc, .int .i64 qx, .int .i64 qy]
    rw [World.size_alloc, World.size_alloc] at h
    exact hW ▸ h
  have ko0 : Hid (∀ w', Kept [] W w' → w'.cell? ⟨w.heap.size, 0, none⟩ = some (.int .i64 o.version)) := Kept.cellOf (hbO.cell 0)
  have ko1 : Hid (∀ w', Kept [] W w' → w'.cell? ⟨w.heap.size, 1, none⟩ = some (.int .i64 o.gate)) := Kept.cellOf (hbO.cell 1)
  have ko2 : Hid (∀ w', Kept [] W w' → w'.cell? ⟨w.heap.size, 2, none⟩ = some (.int .i64 o.no)) := Kept.cellOf (hbO.cell 2)
  have ko3 : Hid (∀ w', Kept [] W w' → w'.cell? ⟨w.heap.size, 3, none⟩ = some (.string ⟨o.reason.toArray⟩)) := Kept.cellOf (hbO.cell 3)
  have ko4 : Hid (∀ w', Kept [] W w' → w'.cell? ⟨w.heap.size, 4, none⟩ = some (.slice ja o.jurors.length jc)) := Kept.cellOf (hbO.cell 4)
  have ko5 : Hid (∀ w', Kept [] W w' → w'.cell? ⟨w.heap.size, 5, none⟩ = some (.int .i64 o.holder)) := Kept.cellOf (hbO.cell 5)
  have ka0 : Hid (∀ w', Kept [] W w' → w'.cell? ⟨w.heap.size + 1, 0, none⟩ = some (.int .i64 a.juror)) := Kept.cellOf (hbA.cell 0)
  have ka1 : Hid (∀ w', Kept [] W w' → w'.cell? ⟨w.heap.size + 1, 1, none⟩ = some (.int .i64 a.version)) := Kept.cellOf (hbA.cell 1)
  have ka2 : Hid (∀ w', Kept [] W w' → w'.cell? ⟨w.heap.size + 1, 2, none⟩ = some (.int .i64 a.gate)) := Kept.cellOf (hbA.cell 2)
  have ka3 : Hid (∀ w', Kept [] W w' → w'.cell? ⟨w.heap.size + 1, 3, none⟩ = some (.int .i64 a.no)) := Kept.cellOf (hbA.cell 3)
  have ka4 : Hid (∀ w', Kept [] W w' → w'.cell? ⟨w.heap.size + 1, 4, none⟩ = some (.string ⟨a.reason.toArray⟩)) := Kept.cellOf (hbA.cell 4)
  have ka5 : Hid (∀ w', Kept [] W w' → w'.cell? ⟨w.heap.size + 1, 5, none⟩ = some (.slice pa pn pc)) := Kept.cellOf (hbA.cell 5)
  have ka6 : Hid (∀ w', Kept [] W w' → w'.cell? ⟨w.heap.size + 1, 6, none⟩ = some (.int .i64 px)) := Kept.cellOf (hbA.cell 6)
  have ka7 : Hid (∀ w', Kept [] W w' → w'.cell? ⟨w.heap.size + 1, 7, none⟩ = some (.int .i64 py)) := Kept.cellOf (hbA.cell 7)
  have kb0 : Hid (∀ w', Kept [] W w' → w'.cell? ⟨w.heap.size + 1 + 1, 0, none⟩ = some (.int .i64 b.juror)) := Kept.cellOf (hbB.cell 0)
  have kb1 : Hid (∀ w', Kept [] W w' → w'.cell? ⟨w.heap.size + 1 + 1, 1, none⟩ = some (.int .i64 b.version)) := Kept.cellOf (hbB.cell 1)
  have kb2 : Hid (∀ w', Kept [] W w' → w'.cell? ⟨w.heap.size + 1 + 1, 2, none⟩ = some (.int .i64 b.gate)) := Kept.cellOf (hbB.cell 2)
  have kb3 : Hid (∀ w', Kept [] W w' → w'.cell? ⟨w.heap.size + 1 + 1, 3, none⟩ = some (.int .i64 b.no)) := Kept.cellOf (hbB.cell 3)
  have kb4 : Hid (∀ w', Kept [] W w' → w'.cell? ⟨w.heap.size + 1 + 1, 4, none⟩ = some (.string ⟨b.reason.toArray⟩)) := Kept.cellOf (hbB.cell 4)
  have kb5 : Hid (∀ w', Kept [] W w' → w'.cell? ⟨w.heap.size + 1 + 1, 5, none⟩ = some (.slice qa qn qc)) := Kept.cellOf (hbB.cell 5)
  have kb6 : Hid (∀ w', Kept [] W w' → w'.cell? ⟨w.heap.size + 1 + 1, 6, none⟩ = some (.int .i64 qx)) := Kept.cellOf (hbB.cell 6)
  have kb7 : Hid (∀ w', Kept [] W w' → w'.cell? ⟨w.heap.size + 1 + 1, 7, none⟩ = some (.int .i64 qy)) := Kept.cellOf (hbB.cell 7)
  have HO := Lib.hid ho
  have HVA := Lib.hid hva
  have HVB := Lib.hid hvb
  have HPR := Lib.hid (hpr.kept hkW)
  have HQR := Lib.hid (hqr.kept hkW)
  have HE := Lib.hid (hE.kept0 hkW)
  have HN := Lib.hid (sane_any W (hE.kept0 hkW))
  have HW := Lib.hid hW
  clear hbO hbA hbB hW hE hpr hqr hjs ho hva hvb
  go_enter Tryd.func7, Tryd.ntmps7
  go_wp2_with fail
  have hW' : ((w.alloc (.cells #[.int .i64 o.version, .int .i64 o.gate, .int .i64 o.no, .string ⟨o.reason.toArray⟩, .slice ja o.jurors.length jc, .int .i64 o.holder] 71)).alloc (.cells #[.int .i64 a.juror, .int .i64 a.version, .int .i64 a.gate, .int .i64 a.no, .string ⟨a.reason.toArray⟩, .slice pa pn pc, .int .i64 px, .int .i64 py] 75)).alloc (.cells #[.int .i64 b.juror, .int .i64 b.version, .int .i64 b.gate, .int .i64 b.no, .string ⟨b.reason.toArray⟩, .slice qa qn qc, .int .i64 qx, .int .i64 qy] 75) = W := HW.out
  rw [hW']
  clear hW'
  go_wp2_with (go_at_call 27; refine HN.out.mono ?_)
  rintro e w1 ⟨rfl, hk1⟩
  clear HN
  have o0 := ko0.out w1 hk1
  have o1 := ko1.out w1 hk1
  have o2 := ko2.out w1 hk1
  have o3 := ko3.out w1 hk1
  have o4 := ko4.out w1 hk1
  have o5 := ko5.out w1 hk1
  have a0 := ka0.out w1 hk1
  have a1 := ka1.out w1 hk1
  have a2 := ka2.out w1 hk1
  have a3 := ka3.out w1 hk1
  have a4 := ka4.out w1 hk1
  have a5 := ka5.out w1 hk1
  have a6 := ka6.out w1 hk1
  have a7 := ka7.out w1 hk1
  have b0 := kb0.out w1 hk1
  have b1 := kb1.out w1 hk1
  have b2 := kb2.out w1 hk1
  have b3 := kb3.out w1 hk1
  have b4 := kb4.out w1 hk1
  have b5 := kb5.out w1 hk1
  have b6 := kb6.out w1 hk1
  have b7 := kb7.out w1 hk1
  by_cases c1 : o.jurors.length ≤ 20
  · by_cases c2 : o.reason.length ≤ 60
    · by_cases c3 : tx.length ≤ 300
      · have hF : Hid (Calls Tryd.prog 32 #[.slice (some ⟨w1.heap.size, 0, none⟩) 2 2, .int .i64 2] (w1.alloc (.cells #[.int .i64 a.juror, .int .i64 a.version, .int .i64 a.gate, .int .i64 a.no, .string ⟨a.reason.toArray⟩, .slice pa pn pc, .int .i64 px, .int .i64 py, .int .i64 b.juror, .int .i64 b.version, .int .i64 b.gate, .int .i64 b.no, .string ⟨b.reason.toArray⟩, .slice qa qn qc, .int .i64 qx, .int .i64 qy] 75)) fun e w' => e = .returned (.bool (fewV [a, b] 2)) ∧ Kept [] W w') :=
          (fewVotes_any _ [a, b] 2 _ (VotesV.two (HPR.out.kept hk1) (HQR.out.kept hk1) 75) (by decide) (by intro y hy; simp at hy; rcases hy with rfl | rfl; exact hal; exact hbl)).mono fun e w' ⟨he, hw⟩ => ⟨he, hw ▸ hk1.alloc _⟩
        cases hfew : fewV [a, b] 2
        · rw [hfew] at hF
          clear hfew
          go_wp2_with (go_at_call 32; refine hF.out.mono ?_)
          rintro e w2 ⟨rfl, hk2⟩
          go_wp2
          go_ret
          exact ⟨rfl, hkW.trans hk2⟩
        · rw [hfew] at hF
          have HFEW := Lib.hid hfew
          clear hfew
          go_wp2_with (go_at_call 32; refine hF.out.mono ?_)
          rintro e w2 ⟨rfl, hk2⟩
          clear o0 o1 o2 o3 o4 o5
          clear a0 a1 a2 a3 a4 a5 a6 a7
          clear b0 b1 b2 b3 b4 b5 b6 b7
          clear hF
          have hOV : OpenV w (.agg #[.int .i64 o.version, .int .i64 o.gate, .int .i64 o.no, .string ⟨o.reason.toArray⟩, .slice ja o.jurors.length jc, .int .i64 o.holder]) o := HO.out.v (by omega) (by omega)
          have HOV := Lib.hid hOV
          have hms := minutes_short o hOV.ok c2 c1
          have HM : Hid (Calls Tryd.prog 34 #[.agg #[.int .i64 o.version, .int .i64 o.gate, .int .i64 o.no, .string ⟨o.reason.toArray⟩, .slice ja o.jurors.length jc, .int .i64 o.holder]] w2 fun e w' => e = .returned (.string ⟨(minutesE o).toArray⟩) ∧ Kept [] w2 w') := minutes_any _ o w2 (hOV.kept (hkW.trans hk2)) (HE.out.kept0 hk2)
          have HRM := Lib.hid (fun w' (k : Kept [] W w') => rm_shape (minutesE o) o true w' (HE.out.kept0 k) hms (read_minutes o hOV.ok))
          obtain ⟨z, t, hzt⟩ : ∃ z t, readMinutes tx = (z, t) := ⟨_, _, rfl⟩
          have HZT := Lib.hid hzt
          have HRZ := Lib.hid (fun w' (k : Kept [] W w') => rm_shape tx z t w' (HE.out.kept0 k) (by omega) hzt)
          clear hOV hzt hms
          have o0 := ko0.out w2 (hk2)
          have o1 := ko1.out w2 (hk2)
          have o2 := ko2.out w2 (hk2)
          have o3 := ko3.out w2 (hk2)
          have o4 := ko4.out w2 (hk2)
          have o5 := ko5.out w2 (hk2)
          go_wp2_with (go_at_call 34; refine HM.out.mono ?_)
          rintro e w3 ⟨rfl, hk⟩
          have K3 := hk2.trans hk
          clear hk HM
          clear o0 o1 o2 o3 o4 o5
          go_wp2_with (go_at_call 33; refine (HRM.out w3 K3).mono ?_)
          rintro e w4 ⟨ya, yc, rfl, hy, hk⟩
          have K4 := K3.trans hk
          have HY := Lib.hid hy
          clear hk HRM hy K3
          go_upto_region 5 with (fail)
          obtain ⟨Y, hY⟩ : ∃ Y, w4.alloc (.cells #[.int .i64 o.version, .int .i64 o.gate, .int .i64 o.no, .string ⟨o.reason.toArray⟩, .slice ya o.jurors.length yc, .int .i64 o.holder] 71) = Y := ⟨_, rfl⟩
          have hkY : Kept [] w4 Y := hY ▸ (Kept.refl [] w4).alloc _
          have hbY : Blk Y w4.heap.size 71 #[.int .i64 o.version, .int .i64 o.gate, .int .i64 o.no, .string ⟨o.reason.toArray⟩, .slice ya o.jurors.length yc, .int .i64 o.holder] := hY ▸ Blk.new w4 _ _
          rw [hY]
          have KY := K4.trans hkY
          have HYY := Lib.hid (HY.out.kept hkY)
          have ky0 : Hid (∀ w', Kept [] Y w' → w'.cell? ⟨w4.heap.size, 0, none⟩ = some (.int .i64 o.version)) := Kept.cellOf (hbY.cell 0)
          have ky1 : Hid (∀ w', Kept [] Y w' → w'.cell? ⟨w4.heap.size, 1, none⟩ = some (.int .i64 o.gate)) := Kept.cellOf (hbY.cell 1)
          have ky2 : Hid (∀ w', Kept [] Y w' → w'.cell? ⟨w4.heap.size, 2, none⟩ = some (.int .i64 o.no)) := Kept.cellOf (hbY.cell 2)
          have ky3 : Hid (∀ w', Kept [] Y w' → w'.cell? ⟨w4.heap.size, 3, none⟩ = some (.string ⟨o.reason.toArray⟩)) := Kept.cellOf (hbY.cell 3)
          have ky4 : Hid (∀ w', Kept [] Y w' → w'.cell? ⟨w4.heap.size, 4, none⟩ = some (.slice ya o.jurors.length yc)) := Kept.cellOf (hbY.cell 4)
          have ky5 : Hid (∀ w', Kept [] Y w' → w'.cell? ⟨w4.heap.size, 5, none⟩ = some (.int .i64 o.holder)) := Kept.cellOf (hbY.cell 5)
          clear hY hbY hkY K4 HY
          go_wp2_with (go_at_call 33; refine (HRZ.out Y KY).mono ?_)
          rintro e w5 ⟨za, zc, rfl, hz, hk⟩
          have Y5 := hk
          have K5 := KY.trans hk
          have HZ := Lib.hid hz
          clear hk HRZ hz KY
          go_upto_region 6 with (fail)
          obtain ⟨Z, hZ⟩ : ∃ Z, w5.alloc (.cells #[.int .i64 z.version, .int .i64 z.gate, .int .i64 z.no, .string ⟨z.reason.toArray⟩, .slice za z.jurors.length zc, .int .i64 z.holder] 71) = Z := ⟨_, rfl⟩
          have hkZ : Kept [] w5 Z := hZ ▸ (Kept.refl [] w5).alloc _
          have hbZ : Blk Z w5.heap.size 71 #[.int .i64 z.version, .int .i64 z.gate, .int .i64 z.no, .string ⟨z.reason.toArray⟩, .slice za z.jurors.length zc, .int .i64 z.holder] := hZ ▸ Blk.new w5 _ _
          rw [hZ]
          have KZ := K5.trans hkZ
          have YZ := Y5.trans hkZ
          have HZZ := Lib.hid (HZ.out.kept hkZ)
          have kz0 : Hid (∀ w', Kept [] Z w' → w'.cell? ⟨w5.heap.size, 0, none⟩ = some (.int .i64 z.version)) := Kept.cellOf (hbZ.cell 0)
          have kz1 : Hid (∀ w', Kept [] Z w' → w'.cell? ⟨w5.heap.size, 1, none⟩ = some (.int .i64 z.gate)) := Kept.cellOf (hbZ.cell 1)
          have kz2 : Hid (∀ w', Kept [] Z w' → w'.cell? ⟨w5.heap.size, 2, none⟩ = some (.int .i64 z.no)) := Kept.cellOf (hbZ.cell 2)
          have kz3 : Hid (∀ w', Kept [] Z w' → w'.cell? ⟨w5.heap.size, 3, none⟩ = some (.string ⟨z.reason.toArray⟩)) := Kept.cellOf (hbZ.cell 3)
          have kz4 : Hid (∀ w', Kept [] Z w' → w'.cell? ⟨w5.heap.size, 4, none⟩ = some (.slice za z.jurors.length zc)) := Kept.cellOf (hbZ.cell 4)
          have kz5 : Hid (∀ w', Kept [] Z w' → w'.cell? ⟨w5.heap.size, 5, none⟩ = some (.int .i64 z.holder)) := Kept.cellOf (hbZ.cell 5)
          clear hZ hbZ hkZ K5 Y5 HZ
          have o0 := ko0.out Z (KZ)
          have o1 := ko1.out Z (KZ)
          have o2 := ko2.out Z (KZ)
          have o3 := ko3.out Z (KZ)
          have o4 := ko4.out Z (KZ)
          have o5 := ko5.out Z (KZ)
          have y0 := ky0.out Z (YZ)
          have y1 := ky1.out Z (YZ)
          have y2 := ky2.out Z (YZ)
          have y3 := ky3.out Z (YZ)
          have y4 := ky4.out Z (YZ)
          have y5 := ky5.out Z (YZ)
          have HS : Hid (Calls Tryd.prog 35 #[.agg #[.int .i64 o.version, .int .i64 o.gate, .int .i64 o.no, .string ⟨o.reason.toArray⟩, .slice ya o.jurors.length yc, .int .i64 o.holder], .agg #[.int .i64 o.version, .int .i64 o.gate, .int .i64 o.no, .string ⟨o.reason.toArray⟩, .slice ja o.jurors.length jc, .int .i64 o.holder]] Z fun e w' => e = .returned (.bool true) ∧ Kept [] Z w') := by
            have h := same_any _ _ o o Z (HYY.out.kept YZ) (HOV.out.kept (hkW.trans KZ))
            rw [same_refl] at h
            exact h
          obtain ⟨hpa, hra⟩ := (fewV_facts HFEW.out).1
          obtain ⟨hpb, hrb⟩ := (fewV_facts HFEW.out).2
          have HOKA := HVA.out.ok (by omega) (by omega)
          have HOKB := HVB.out.ok (by omega) (by omega)
          have HBS := Lib.hid (ballot_same a b HOKA HOKB)
          have HBA : Hid (∀ X w', Kept [] W X → Kept [] X w' → Calls Tryd.prog 37 #[.agg #[.int .i64 a.juror, .int .i64 a.version, .int .i64 a.gate, .int .i64 a.no, .string ⟨a.reason.toArray⟩, .slice pa pn pc, .int .i64 px, .int .i64 py]] w' fun e w'' => e = .returned (.string ⟨(ballotE a).toArray⟩) ∧ Kept [] X w'') :=
            fun X w' k1 k2 => kept_from k2 (ballot_any _ a w' (HVA.out.kept (hkW.trans (k1.trans k2))) (HE.out.kept0 (k1.trans k2)) (by omega) (by omega))
          have HBB : Hid (∀ X w', Kept [] W X → Kept [] X w' → Calls Tryd.prog 37 #[.agg #[.int .i64 b.juror, .int .i64 b.version, .int .i64 b.gate, .int .i64 b.no, .string ⟨b.reason.toArray⟩, .slice qa qn qc, .int .i64 qx, .int .i64 qy]] w' fun e w'' => e = .returned (.string ⟨(ballotE b).toArray⟩) ∧ Kept [] X w'') :=
            fun X w' k1 k2 => kept_from k2 (ballot_any _ b w' (HVB.out.kept (hkW.trans (k1.trans k2))) (HE.out.kept0 (k1.trans k2)) (by omega) (by omega))
          have HSP : Hid (∀ X, Kept [] W X → Calls Tryd.prog 36 #[.slice pa pn pc, .slice qa qn qc] X fun e w' => e = .returned (.bool (decide (a.pts = b.pts))) ∧ Kept [] X w') :=
            fun X k => samePoints_any _ _ pn qn a.pts b.pts X (HPR.out.kept k) (HQR.out.kept k)
          clear HOKA HOKB hpa hra hpb hrb
          go_wp2_with (go_at_call 35; refine HS.out.mono ?_)
          rintro e w6 ⟨rfl, hk⟩
          have Z6 := hk
          have K6 := KZ.trans hk
          clear HS hk
          clear o0 o1 o2 o3 o4 o5
          clear y0 y1 y2 y3 y4 y5
          cases t
          · go_upto_region 8 with (fail)
            have xa0 := ka0.out w6 (K6)
            have xb0 := kb0.out w6 (K6)
            have xa1 := ka1.out w6 (K6)
            have xb1 := kb1.out w6 (K6)
            have xa2 := ka2.out w6 (K6)
            have xb2 := kb2.out w6 (K6)
            have xa3 := ka3.out w6 (K6)
            have xb3 := kb3.out w6 (K6)
            have xa4 := ka4.out w6 (K6)
            have xb4 := kb4.out w6 (K6)
            have xa5 := ka5.out w6 (K6)
            have xb5 := kb5.out w6 (K6)
            cases e0 : (a.juror == b.juror)
            · have hbe : (ballotE a == ballotE b) = false := by rw [HBS.out]; unfold sameV; simp only [e0, Bool.false_and]
              go_upto_region 9 with (fail)
              clear xa0 xb0 xa1 xb1 xa2 xb2 xa3 xb3 xa4 xb4 xa5 xb5
              have ca0 : ∀ w', Kept [] w6 w' → w'.cell? ⟨w.heap.size + 1, 0, none⟩ = some (.int .i64 a.juror) := fun w' k => ka0.out w' ((K6).trans k)
              have ca1 : ∀ w', Kept [] w6 w' → w'.cell? ⟨w.heap.size + 1, 1, none⟩ = some (.int .i64 a.version) := fun w' k => ka1.out w' ((K6).trans k)
              have ca2 : ∀ w', Kept [] w6 w' → w'.cell? ⟨w.heap.size + 1, 2, none⟩ = some (.int .i64 a.gate) := fun w' k => ka2.out w' ((K6).trans k)
              have ca3 : ∀ w', Kept [] w6 w' → w'.cell? ⟨w.heap.size + 1, 3, none⟩ = some (.int .i64 a.no) := fun w' k => ka3.out w' ((K6).trans k)
              have ca4 : ∀ w', Kept [] w6 w' → w'.cell? ⟨w.heap.size + 1, 4, none⟩ = some (.string ⟨a.reason.toArray⟩) := fun w' k => ka4.out w' ((K6).trans k)
              have ca5 : ∀ w', Kept [] w6 w' → w'.cell? ⟨w.heap.size + 1, 5, none⟩ = some (.slice pa pn pc) := fun w' k => ka5.out w' ((K6).trans k)
              have ca6 : ∀ w', Kept [] w6 w' → w'.cell? ⟨w.heap.size + 1, 6, none⟩ = some (.int .i64 px) := fun w' k => ka6.out w' ((K6).trans k)
              have ca7 : ∀ w', Kept [] w6 w' → w'.cell? ⟨w.heap.size + 1, 7, none⟩ = some (.int .i64 py) := fun w' k => ka7.out w' ((K6).trans k)
              have cb0 : ∀ w', Kept [] w6 w' → w'.cell? ⟨w.heap.size + 1 + 1, 0, none⟩ = some (.int .i64 b.juror) := fun w' k => kb0.out w' ((K6).trans k)
              have cb1 : ∀ w', Kept [] w6 w' → w'.cell? ⟨w.heap.size + 1 + 1, 1, none⟩ = some (.int .i64 b.version) := fun w' k => kb1.out w' ((K6).trans k)
              have cb2 : ∀ w', Kept [] w6 w' → w'.cell? ⟨w.heap.size + 1 + 1, 2, none⟩ = some (.int .i64 b.gate) := fun w' k => kb2.out w' ((K6).trans k)
              have cb3 : ∀ w', Kept [] w6 w' → w'.cell? ⟨w.heap.size + 1 + 1, 3, none⟩ = some (.int .i64 b.no) := fun w' k => kb3.out w' ((K6).trans k)
              have cb4 : ∀ w', Kept [] w6 w' → w'.cell? ⟨w.heap.size + 1 + 1, 4, none⟩ = some (.string ⟨b.reason.toArray⟩) := fun w' k => kb4.out w' ((K6).trans k)
              have cb5 : ∀ w', Kept [] w6 w' → w'.cell? ⟨w.heap.size + 1 + 1, 5, none⟩ = some (.slice qa qn qc) := fun w' k => kb5.out w' ((K6).trans k)
              have cb6 : ∀ w', Kept [] w6 w' → w'.cell? ⟨w.heap.size + 1 + 1, 6, none⟩ = some (.int .i64 qx) := fun w' k => kb6.out w' ((K6).trans k)
              have cb7 : ∀ w', Kept [] w6 w' → w'.cell? ⟨w.heap.size + 1 + 1, 7, none⟩ = some (.int .i64 qy) := fun w' k => kb7.out w' ((K6).trans k)
              go_region_held3 (fun w' => Kept [] w6 w') (repeat (first | (with_reducible assumption) | (with_reducible exact Kept.refl _ _) | (with_reducible refine Kept.drew ?_) | (with_reducible refine Kept.alloc ?_ _)))
                (first
                  | (go_at_call_of 37 (Value.agg #[.int .i64 a.juror, .int .i64 a.version, .int .i64 a.gate, .int .i64 a.no, .string ⟨a.reason.toArray⟩, .slice pa pn pc, .int .i64 px, .int .i64 py]); refine (HBA.out w6 _ (K6) (by with_reducible assumption)).mono ?_; rintro e w' ⟨rfl, hk⟩)
                  | (go_at_call_of 37 (Value.agg #[.int .i64 b.juror, .int .i64 b.version, .int .i64 b.gate, .int .i64 b.no, .string ⟨b.reason.toArray⟩, .slice qa qn qc, .int .i64 qx, .int .i64 qy]); refine (HBB.out w6 _ (K6) (by with_reducible assumption)).mono ?_; rintro e w' ⟨rfl, hk⟩))
              rename_i hHeld
              go_wp2
              go_ret
              exact ⟨by simp, hkW.trans ((K6).trans hHeld)⟩
            · skip
              cases e1 : (a.version == b.version)
              · have hbe : (ballotE a == ballotE b) = false := by rw [HBS.out]; unfold sameV; simp only [e1, Bool.false_and, Bool.and_false]
                go_upto_region 9 with (fail)
                clear xa0 xb0 xa1 xb1 xa2 xb2 xa3 xb3 xa4 xb4 xa5 xb5
                have ca0 : ∀ w', Kept [] w6 w' → w'.cell? ⟨w.heap.size + 1, 0, none⟩ = some (.int .i64 a.juror) := fun w' k => ka0.out w' ((K6).trans k)
                have ca1 : ∀ w', Kept [] w6 w' → w'.cell? ⟨w.heap.size + 1, 1, none⟩ = some (.int .i64 a.version) := fun w' k => ka1.out w' ((K6).trans k)
                have ca2 : ∀ w', Kept [] w6 w' → w'.cell? ⟨w.heap.size + 1, 2, none⟩ = some (.int .i64 a.gate) := fun w' k => ka2.out w' ((K6).trans k)
                have ca3 : ∀ w', Kept [] w6 w' → w'.cell? ⟨w.heap.size + 1, 3, none⟩ = some (.int .i64 a.no) := fun w' k => ka3.out w' ((K6).trans k)
                have ca4 : ∀ w', Kept [] w6 w' → w'.cell? ⟨w.heap.size + 1, 4, none⟩ = some (.string ⟨a.reason.toArray⟩) := fun w' k => ka4.out w' ((K6).trans k)
                have ca5 : ∀ w', Kept [] w6 w' → w'.cell? ⟨w.heap.size + 1, 5, none⟩ = some (.slice pa pn pc) := fun w' k => ka5.out w' ((K6).trans k)
                have ca6 : ∀ w', Kept [] w6 w' → w'.cell? ⟨w.heap.size + 1, 6, none⟩ = some (.int .i64 px) := fun w' k => ka6.out w' ((K6).trans k)
                have ca7 : ∀ w', Kept [] w6 w' → w'.cell? ⟨w.heap.size + 1, 7, none⟩ = some (.int .i64 py) := fun w' k => ka7.out w' ((K6).trans k)
                have cb0 : ∀ w', Kept [] w6 w' → w'.cell? ⟨w.heap.size + 1 + 1, 0, none⟩ = some (.int .i64 b.juror) := fun w' k => kb0.out w' ((K6).trans k)
                have cb1 : ∀ w', Kept [] w6 w' → w'.cell? ⟨w.heap.size + 1 + 1, 1, none⟩ = some (.int .i64 b.version) := fun w' k => kb1.out w' ((K6).trans k)
                have cb2 : ∀ w', Kept [] w6 w' → w'.cell? ⟨w.heap.size + 1 + 1, 2, none⟩ = some (.int .i64 b.gate) := fun w' k => kb2.out w' ((K6).trans k)
                have cb3 : ∀ w', Kept [] w6 w' → w'.cell? ⟨w.heap.size + 1 + 1, 3, none⟩ = some (.int .i64 b.no) := fun w' k => kb3.out w' ((K6).trans k)
                have cb4 : ∀ w', Kept [] w6 w' → w'.cell? ⟨w.heap.size + 1 + 1, 4, none⟩ = some (.string ⟨b.reason.toArray⟩) := fun w' k => kb4.out w' ((K6).trans k)
                have cb5 : ∀ w', Kept [] w6 w' → w'.cell? ⟨w.heap.size + 1 + 1, 5, none⟩ = some (.slice qa qn qc) := fun w' k => kb5.out w' ((K6).trans k)
                have cb6 : ∀ w', Kept [] w6 w' → w'.cell? ⟨w.heap.size + 1 + 1, 6, none⟩ = some (.int .i64 qx) := fun w' k => kb6.out w' ((K6).trans k)
                have cb7 : ∀ w', Kept [] w6 w' → w'.cell? ⟨w.heap.size + 1 + 1, 7, none⟩ = some (.int .i64 qy) := fun w' k => kb7.out w' ((K6).trans k)
                go_region_held3 (fun w' => Kept [] w6 w') (repeat (first | (with_reducible assumption) | (with_reducible exact Kept.refl _ _) | (with_reducible refine Kept.drew ?_) | (with_reducible refine Kept.alloc ?_ _)))
                  (first
                    | (go_at_call_of 37 (Value.agg #[.int .i64 a.juror, .int .i64 a.version, .int .i64 a.gate, .int .i64 a.no, .string ⟨a.reason.toArray⟩, .slice pa pn pc, .int .i64 px, .int .i64 py]); refine (HBA.out w6 _ (K6) (by with_reducible assumption)).mono ?_; rintro e w' ⟨rfl, hk⟩)
                    | (go_at_call_of 37 (Value.agg #[.int .i64 b.juror, .int .i64 b.version, .int .i64 b.gate, .int .i64 b.no, .string ⟨b.reason.toArray⟩, .slice qa qn qc, .int .i64 qx, .int .i64 qy]); refine (HBB.out w6 _ (K6) (by with_reducible assumption)).mono ?_; rintro e w' ⟨rfl, hk⟩))
                rename_i hHeld
                go_wp2
                go_ret
                exact ⟨by simp, hkW.trans ((K6).trans hHeld)⟩
              · skip
                cases e2 : (a.gate == b.gate)
                · have hbe : (ballotE a == ballotE b) = false := by rw [HBS.out]; unfold sameV; simp only [e2, Bool.false_and, Bool.and_false]
                  go_upto_region 9 with (fail)
                  clear xa0 xb0 xa1 xb1 xa2 xb2 xa3 xb3 xa4 xb4 xa5 xb5
                  have ca0 : ∀ w', Kept [] w6 w' → w'.cell? ⟨w.heap.size + 1, 0, none⟩ = some (.int .i64 a.juror) := fun w' k => ka0.out w' ((K6).trans k)
                  have ca1 : ∀ w', Kept [] w6 w' → w'.cell? ⟨w.heap.size + 1, 1, none⟩ = some (.int .i64 a.version) := fun w' k => ka1.out w' ((K6).trans k)
                  have ca2 : ∀ w', Kept [] w6 w' → w'.cell? ⟨w.heap.size + 1, 2, none⟩ = some (.int .i64 a.gate) := fun w' k => ka2.out w' ((K6).trans k)
                  have ca3 : ∀ w', Kept [] w6 w' → w'.cell? ⟨w.heap.size + 1, 3, none⟩ = some (.int .i64 a.no) := fun w' k => ka3.out w' ((K6).trans k)
                  have ca4 : ∀ w', Kept [] w6 w' → w'.cell? ⟨w.heap.size + 1, 4, none⟩ = some (.string ⟨a.reason.toArray⟩) := fun w' k => ka4.out w' ((K6).trans k)
                  have ca5 : ∀ w', Kept [] w6 w' → w'.cell? ⟨w.heap.size + 1, 5, none⟩ = some (.slice pa pn pc) := fun w' k => ka5.out w' ((K6).trans k)
                  have ca6 : ∀ w', Kept [] w6 w' → w'.cell? ⟨w.heap.size + 1, 6, none⟩ = some (.int .i64 px) := fun w' k => ka6.out w' ((K6).trans k)
                  have ca7 : ∀ w', Kept [] w6 w' → w'.cell? ⟨w.heap.size + 1, 7, none⟩ = some (.int .i64 py) := fun w' k => ka7.out w' ((K6).trans k)
                  have cb0 : ∀ w', Kept [] w6 w' → w'.cell? ⟨w.heap.size + 1 + 1, 0, none⟩ = some (.int .i64 b.juror) := fun w' k => kb0.out w' ((K6).trans k)
                  have cb1 : ∀ w', Kept [] w6 w' → w'.cell? ⟨w.heap.size + 1 + 1, 1, none⟩ = some (.int .i64 b.version) := fun w' k => kb1.out w' ((K6).trans k)
                  have cb2 : ∀ w', Kept [] w6 w' → w'.cell? ⟨w.heap.size + 1 + 1, 2, none⟩ = some (.int .i64 b.gate) := fun w' k => kb2.out w' ((K6).trans k)
                  have cb3 : ∀ w', Kept [] w6 w' → w'.cell? ⟨w.heap.size + 1 + 1, 3, none⟩ = some (.int .i64 b.no) := fun w' k => kb3.out w' ((K6).trans k)
                  have cb4 : ∀ w', Kept [] w6 w' → w'.cell? ⟨w.heap.size + 1 + 1, 4, none⟩ = some (.string ⟨b.reason.toArray⟩) := fun w' k => kb4.out w' ((K6).trans k)
                  have cb5 : ∀ w', Kept [] w6 w' → w'.cell? ⟨w.heap.size + 1 + 1, 5, none⟩ = some (.slice qa qn qc) := fun w' k => kb5.out w' ((K6).trans k)
                  have cb6 : ∀ w', Kept [] w6 w' → w'.cell? ⟨w.heap.size + 1 + 1, 6, none⟩ = some (.int .i64 qx) := fun w' k => kb6.out w' ((K6).trans k)
                  have cb7 : ∀ w', Kept [] w6 w' → w'.cell? ⟨w.heap.size + 1 + 1, 7, none⟩ = some (.int .i64 qy) := fun w' k => kb7.out w' ((K6).trans k)
                  go_region_held3 (fun w' => Kept [] w6 w') (repeat (first | (with_reducible assumption) | (with_reducible exact Kept.refl _ _) | (with_reducible refine Kept.drew ?_) | (with_reducible refine Kept.alloc ?_ _)))
                    (first
                      | (go_at_call_of 37 (Value.agg #[.int .i64 a.juror, .int .i64 a.version, .int .i64 a.gate, .int .i64 a.no, .string ⟨a.reason.toArray⟩, .slice pa pn pc, .int .i64 px, .int .i64 py]); refine (HBA.out w6 _ (K6) (by with_reducible assumption)).mono ?_; rintro e w' ⟨rfl, hk⟩)
                      | (go_at_call_of 37 (Value.agg #[.int .i64 b.juror, .int .i64 b.version, .int .i64 b.gate, .int .i64 b.no, .string ⟨b.reason.toArray⟩, .slice qa qn qc, .int .i64 qx, .int .i64 qy]); refine (HBB.out w6 _ (K6) (by with_reducible assumption)).mono ?_; rintro e w' ⟨rfl, hk⟩))
                  rename_i hHeld
                  go_wp2
                  go_ret
                  exact ⟨by simp, hkW.trans ((K6).trans hHeld)⟩
                · skip
                  cases e3 : (a.no == b.no)
                  · have hbe : (ballotE a == ballotE b) = false := by rw [HBS.out]; unfold sameV; simp only [e3, Bool.false_and, Bool.and_false]
                    go_upto_region 9 with (fail)
                    clear xa0 xb0 xa1 xb1 xa2 xb2 xa3 xb3 xa4 xb4 xa5 xb5
                    have ca0 : ∀ w', Kept [] w6 w' → w'.cell? ⟨w.heap.size + 1, 0, none⟩ = some (.int .i64 a.juror) := fun w' k => ka0.out w' ((K6).trans k)
                    have ca1 : ∀ w', Kept [] w6 w' → w'.cell? ⟨w.heap.size + 1, 1, none⟩ = some (.int .i64 a.version) := fun w' k => ka1.out w' ((K6).trans k)
                    have ca2 : ∀ w', Kept [] w6 w' → w'.cell? ⟨w.heap.size + 1, 2, none⟩ = some (.int .i64 a.gate) := fun w' k => ka2.out w' ((K6).trans k)
                    have ca3 : ∀ w', Kept [] w6 w' → w'.cell? ⟨w.heap.size + 1, 3, none⟩ = some (.int .i64 a.no) := fun w' k => ka3.out w' ((K6).trans k)
                    have ca4 : ∀ w', Kept [] w6 w' → w'.cell? ⟨w.heap.size + 1, 4, none⟩ = some (.string ⟨a.reason.toArray⟩) := fun w' k => ka4.out w' ((K6).trans k)
                    have ca5 : ∀ w', Kept [] w6 w' → w'.cell? ⟨w.heap.size + 1, 5, none⟩ = some (.slice pa pn pc) := fun w' k => ka5.out w' ((K6).trans k)
                    have ca6 : ∀ w', Kept [] w6 w' → w'.cell? ⟨w.heap.size + 1, 6, none⟩ = some (.int .i64 px) := fun w' k => ka6.out w' ((K6).trans k)
                    have ca7 : ∀ w', Kept [] w6 w' → w'.cell? ⟨w.heap.size + 1, 7, none⟩ = some (.int .i64 py) := fun w' k => ka7.out w' ((K6).trans k)
                    have cb0 : ∀ w', Kept [] w6 w' → w'.cell? ⟨w.heap.size + 1 + 1, 0, none⟩ = some (.int .i64 b.juror) := fun w' k => kb0.out w' ((K6).trans k)
                    have cb1 : ∀ w', Kept [] w6 w' → w'.cell? ⟨w.heap.size + 1 + 1, 1, none⟩ = some (.int .i64 b.version) := fun w' k => kb1.out w' ((K6).trans k)
                    have cb2 : ∀ w', Kept [] w6 w' → w'.cell? ⟨w.heap.size + 1 + 1, 2, none⟩ = some (.int .i64 b.gate) := fun w' k => kb2.out w' ((K6).trans k)
                    have cb3 : ∀ w', Kept [] w6 w' → w'.cell? ⟨w.heap.size + 1 + 1, 3, none⟩ = some (.int .i64 b.no) := fun w' k => kb3.out w' ((K6).trans k)
                    have cb4 : ∀ w', Kept [] w6 w' → w'.cell? ⟨w.heap.size + 1 + 1, 4, none⟩ = some (.string ⟨b.reason.toArray⟩) := fun w' k => kb4.out w' ((K6).trans k)
                    have cb5 : ∀ w', Kept [] w6 w' → w'.cell? ⟨w.heap.size + 1 + 1, 5, none⟩ = some (.slice qa qn qc) := fun w' k => kb5.out w' ((K6).trans k)
                    have cb6 : ∀ w', Kept [] w6 w' → w'.cell? ⟨w.heap.size + 1 + 1, 6, none⟩ = some (.int .i64 qx) := fun w' k => kb6.out w' ((K6).trans k)
                    have cb7 : ∀ w', Kept [] w6 w' → w'.cell? ⟨w.heap.size + 1 + 1, 7, none⟩ = some (.int .i64 qy) := fun w' k => kb7.out w' ((K6).trans k)
                    go_region_held3 (fun w' => Kept [] w6 w') (repeat (first | (with_reducible assumption) | (with_reducible exact Kept.refl _ _) | (with_reducible refine Kept.drew ?_) | (with_reducible refine Kept.alloc ?_ _)))
                      (first
                        | (go_at_call_of 37 (Value.agg #[.int .i64 a.juror, .int .i64 a.version, .int .i64 a.gate, .int .i64 a.no, .string ⟨a.reason.toArray⟩, .slice pa pn pc, .int .i64 px, .int .i64 py]); refine (HBA.out w6 _ (K6) (by with_reducible assumption)).mono ?_; rintro e w' ⟨rfl, hk⟩)
                        | (go_at_call_of 37 (Value.agg #[.int .i64 b.juror, .int .i64 b.version, .int .i64 b.gate, .int .i64 b.no, .string ⟨b.reason.toArray⟩, .slice qa qn qc, .int .i64 qx, .int .i64 qy]); refine (HBB.out w6 _ (K6) (by with_reducible assumption)).mono ?_; rintro e w' ⟨rfl, hk⟩))
                    rename_i hHeld
                    go_wp2
                    go_ret
                    exact ⟨by simp, hkW.trans ((K6).trans hHeld)⟩
                  · skip
                    cases e4 : (a.reason == b.reason)
                    · have hbe : (ballotE a == ballotE b) = false := by rw [HBS.out]; unfold sameV; simp only [e4, Bool.false_and, Bool.and_false]
                      go_upto_region 9 with (fail)
                      clear xa0 xb0 xa1 xb1 xa2 xb2 xa3 xb3 xa4 xb4 xa5 xb5
                      have ca0 : ∀ w', Kept [] w6 w' → w'.cell? ⟨w.heap.size + 1, 0, none⟩ = some (.int .i64 a.juror) := fun w' k => ka0.out w' ((K6).trans k)
                      have ca1 : ∀ w', Kept [] w6 w' → w'.cell? ⟨w.heap.size + 1, 1, none⟩ = some (.int .i64 a.version) := fun w' k => ka1.out w' ((K6).trans k)
                      have ca2 : ∀ w', Kept [] w6 w' → w'.cell? ⟨w.heap.size + 1, 2, none⟩ = some (.int .i64 a.gate) := fun w' k => ka2.out w' ((K6).trans k)
                      have ca3 : ∀ w', Kept [] w6 w' → w'.cell? ⟨w.heap.size + 1, 3, none⟩ = some (.int .i64 a.no) := fun w' k => ka3.out w' ((K6).trans k)
                      have ca4 : ∀ w', Kept [] w6 w' → w'.cell? ⟨w.heap.size + 1, 4, none⟩ = some (.string ⟨a.reason.toArray⟩) := fun w' k => ka4.out w' ((K6).trans k)
                      have ca5 : ∀ w', Kept [] w6 w' → w'.cell? ⟨w.heap.size + 1, 5, none⟩ = some (.slice pa pn pc) := fun w' k => ka5.out w' ((K6).trans k)
                      have ca6 : ∀ w', Kept [] w6 w' → w'.cell? ⟨w.heap.size + 1, 6, none⟩ = some (.int .i64 px) := fun w' k => ka6.out w' ((K6).trans k)
                      have ca7 : ∀ w', Kept [] w6 w' → w'.cell? ⟨w.heap.size + 1, 7, none⟩ = some (.int .i64 py) := fun w' k => ka7.out w' ((K6).trans k)
                      have cb0 : ∀ w', Kept [] w6 w' → w'.cell? ⟨w.heap.size + 1 + 1, 0, none⟩ = some (.int .i64 b.juror) := fun w' k => kb0.out w' ((K6).trans k)
                      have cb1 : ∀ w', Kept [] w6 w' → w'.cell? ⟨w.heap.size + 1 + 1, 1, none⟩ = some (.int .i64 b.version) := fun w' k => kb1.out w' ((K6).trans k)
                      have cb2 : ∀ w', Kept [] w6 w' → w'.cell? ⟨w.heap.size + 1 + 1, 2, none⟩ = some (.int .i64 b.gate) := fun w' k => kb2.out w' ((K6).trans k)
                      have cb3 : ∀ w', Kept [] w6 w' → w'.cell? ⟨w.heap.size + 1 + 1, 3, none⟩ = some (.int .i64 b.no) := fun w' k => kb3.out w' ((K6).trans k)
                      have cb4 : ∀ w', Kept [] w6 w' → w'.cell? ⟨w.heap.size + 1 + 1, 4, none⟩ = some (.string ⟨b.reason.toArray⟩) := fun w' k => kb4.out w' ((K6).trans k)
                      have cb5 : ∀ w', Kept [] w6 w' → w'.cell? ⟨w.heap.size + 1 + 1, 5, none⟩ = some (.slice qa qn qc) := fun w' k => kb5.out w' ((K6).trans k)
                      have cb6 : ∀ w', Kept [] w6 w' → w'.cell? ⟨w.heap.size + 1 + 1, 6, none⟩ = some (.int .i64 qx) := fun w' k => kb6.out w' ((K6).trans k)
                      have cb7 : ∀ w', Kept [] w6 w' → w'.cell? ⟨w.heap.size + 1 + 1, 7, none⟩ = some (.int .i64 qy) := fun w' k => kb7.out w' ((K6).trans k)
                      go_region_held3 (fun w' => Kept [] w6 w') (repeat (first | (with_reducible assumption) | (with_reducible exact Kept.refl _ _) | (with_reducible refine Kept.drew ?_) | (with_reducible refine Kept.alloc ?_ _)))
                        (first
                          | (go_at_call_of 37 (Value.agg #[.int .i64 a.juror, .int .i64 a.version, .int .i64 a.gate, .int .i64 a.no, .string ⟨a.reason.toArray⟩, .slice pa pn pc, .int .i64 px, .int .i64 py]); refine (HBA.out w6 _ (K6) (by with_reducible assumption)).mono ?_; rintro e w' ⟨rfl, hk⟩)
                          | (go_at_call_of 37 (Value.agg #[.int .i64 b.juror, .int .i64 b.version, .int .i64 b.gate, .int .i64 b.no, .string ⟨b.reason.toArray⟩, .slice qa qn qc, .int .i64 qx, .int .i64 qy]); refine (HBB.out w6 _ (K6) (by with_reducible assumption)).mono ?_; rintro e w' ⟨rfl, hk⟩))
                      rename_i hHeld
                      go_wp2
                      go_ret
                      exact ⟨by simp, hkW.trans ((K6).trans hHeld)⟩
                    · skip
                      have hbe : (ballotE a == ballotE b) = decide (a.pts = b.pts) := by rw [HBS.out]; unfold sameV; simp only [e0, e1, e2, e3, e4, Bool.true_and]
                      have hsp := Lib.hid (HSP.out w6 (K6))
                      obtain ⟨d, hd⟩ : ∃ d, decide (a.pts = b.pts) = d := ⟨_, rfl⟩
                      rw [hd] at hbe hsp
                      clear hd
                      go_wp2_with (go_at_call 36; refine hsp.out.mono ?_)
                      rintro e wx ⟨rfl, hk⟩
                      have KX := (K6).trans hk
                      clear hk hsp
                      clear xa0 xb0 xa1 xb1 xa2 xb2 xa3 xb3 xa4 xb4 xa5 xb5
                      cases d
                      · go_upto_region 9 with (fail)
                        have ca0 : ∀ w', Kept [] wx w' → w'.cell? ⟨w.heap.size + 1, 0, none⟩ = some (.int .i64 a.juror) := fun w' k => ka0.out w' ((KX).trans k)
                        have ca1 : ∀ w', Kept [] wx w' → w'.cell? ⟨w.heap.size + 1, 1, none⟩ = some (.int .i64 a.version) := fun w' k => ka1.out w' ((KX).trans k)
                        have ca2 : ∀ w', Kept [] wx w' → w'.cell? ⟨w.heap.size + 1, 2, none⟩ = some (.int .i64 a.gate) := fun w' k => ka2.out w' ((KX).trans k)
                        have ca3 : ∀ w', Kept [] wx w' → w'.cell? ⟨w.heap.size + 1, 3, none⟩ = some (.int .i64 a.no) := fun w' k => ka3.out w' ((KX).trans k)
                        have ca4 : ∀ w', Kept [] wx w' → w'.cell? ⟨w.heap.size + 1, 4, none⟩ = some (.string ⟨a.reason.toArray⟩) := fun w' k => ka4.out w' ((KX).trans k)
                        have ca5 : ∀ w', Kept [] wx w' → w'.cell? ⟨w.heap.size + 1, 5, none⟩ = some (.slice pa pn pc) := fun w' k => ka5.out w' ((KX).trans k)
                        have ca6 : ∀ w', Kept [] wx w' → w'.cell? ⟨w.heap.size + 1, 6, none⟩ = some (.int .i64 px) := fun w' k => ka6.out w' ((KX).trans k)
                        have ca7 : ∀ w', Kept [] wx w' → w'.cell? ⟨w.heap.size + 1, 7, none⟩ = some (.int .i64 py) := fun w' k => ka7.out w' ((KX).trans k)
                        have cb0 : ∀ w', Kept [] wx w' → w'.cell? ⟨w.heap.size + 1 + 1, 0, none⟩ = some (.int .i64 b.juror) := fun w' k => kb0.out w' ((KX).trans k)
                        have cb1 : ∀ w', Kept [] wx w' → w'.cell? ⟨w.heap.size + 1 + 1, 1, none⟩ = some (.int .i64 b.version) := fun w' k => kb1.out w' ((KX).trans k)
                        have cb2 : ∀ w', Kept [] wx w' → w'.cell? ⟨w.heap.size + 1 + 1, 2, none⟩ = some (.int .i64 b.gate) := fun w' k => kb2.out w' ((KX).trans k)
                        have cb3 : ∀ w', Kept [] wx w' → w'.cell? ⟨w.heap.size + 1 + 1, 3, none⟩ = some (.int .i64 b.no) := fun w' k => kb3.out w' ((KX).trans k)
                        have cb4 : ∀ w', Kept [] wx w' → w'.cell? ⟨w.heap.size + 1 + 1, 4, none⟩ = some (.string ⟨b.reason.toArray⟩) := fun w' k => kb4.out w' ((KX).trans k)
                        have cb5 : ∀ w', Kept [] wx w' → w'.cell? ⟨w.heap.size + 1 + 1, 5, none⟩ = some (.slice qa qn qc) := fun w' k => kb5.out w' ((KX).trans k)
                        have cb6 : ∀ w', Kept [] wx w' → w'.cell? ⟨w.heap.size + 1 + 1, 6, none⟩ = some (.int .i64 qx) := fun w' k => kb6.out w' ((KX).trans k)
                        have cb7 : ∀ w', Kept [] wx w' → w'.cell? ⟨w.heap.size + 1 + 1, 7, none⟩ = some (.int .i64 qy) := fun w' k => kb7.out w' ((KX).trans k)
                        go_region_held3 (fun w' => Kept [] wx w') (repeat (first | (with_reducible assumption) | (with_reducible exact Kept.refl _ _) | (with_reducible refine Kept.drew ?_) | (with_reducible refine Kept.alloc ?_ _)))
                          (first
                            | (go_at_call_of 37 (Value.agg #[.int .i64 a.juror, .int .i64 a.version, .int .i64 a.gate, .int .i64 a.no, .string ⟨a.reason.toArray⟩, .slice pa pn pc, .int .i64 px, .int .i64 py]); refine (HBA.out wx _ (KX) (by with_reducible assumption)).mono ?_; rintro e w' ⟨rfl, hk⟩)
                            | (go_at_call_of 37 (Value.agg #[.int .i64 b.juror, .int .i64 b.version, .int .i64 b.gate, .int .i64 b.no, .string ⟨b.reason.toArray⟩, .slice qa qn qc, .int .i64 qx, .int .i64 qy]); refine (HBB.out wx _ (KX) (by with_reducible assumption)).mono ?_; rintro e w' ⟨rfl, hk⟩))
                        rename_i hHeld
                        go_wp2
                        go_ret
                        exact ⟨by simp, hkW.trans ((KX).trans hHeld)⟩
                      · go_upto_region 9 with (fail)
                        have ca0 : ∀ w', Kept [] wx w' → w'.cell? ⟨w.heap.size + 1, 0, none⟩ = some (.int .i64 a.juror) := fun w' k => ka0.out w' ((KX).trans k)
                        have ca1 : ∀ w', Kept [] wx w' → w'.cell? ⟨w.heap.size + 1, 1, none⟩ = some (.int .i64 a.version) := fun w' k => ka1.out w' ((KX).trans k)
                        have ca2 : ∀ w', Kept [] wx w' → w'.cell? ⟨w.heap.size + 1, 2, none⟩ = some (.int .i64 a.gate) := fun w' k => ka2.out w' ((KX).trans k)
                        have ca3 : ∀ w', Kept [] wx w' → w'.cell? ⟨w.heap.size + 1, 3, none⟩ = some (.int .i64 a.no) := fun w' k => ka3.out w' ((KX).trans k)
                        have ca4 : ∀ w', Kept [] wx w' → w'.cell? ⟨w.heap.size + 1, 4, none⟩ = some (.string ⟨a.reason.toArray⟩) := fun w' k => ka4.out w' ((KX).trans k)
                        have ca5 : ∀ w', Kept [] wx w' → w'.cell? ⟨w.heap.size + 1, 5, none⟩ = some (.slice pa pn pc) := fun w' k => ka5.out w' ((KX).trans k)
                        have ca6 : ∀ w', Kept [] wx w' → w'.cell? ⟨w.heap.size + 1, 6, none⟩ = some (.int .i64 px) := fun w' k => ka6.out w' ((KX).trans k)
                        have ca7 : ∀ w', Kept [] wx w' → w'.cell? ⟨w.heap.size + 1, 7, none⟩ = some (.int .i64 py) := fun w' k => ka7.out w' ((KX).trans k)
                        have cb0 : ∀ w', Kept [] wx w' → w'.cell? ⟨w.heap.size + 1 + 1, 0, none⟩ = some (.int .i64 b.juror) := fun w' k => kb0.out w' ((KX).trans k)
                        have cb1 : ∀ w', Kept [] wx w' → w'.cell? ⟨w.heap.size + 1 + 1, 1, none⟩ = some (.int .i64 b.version) := fun w' k => kb1.out w' ((KX).trans k)
                        have cb2 : ∀ w', Kept [] wx w' → w'.cell? ⟨w.heap.size + 1 + 1, 2, none⟩ = some (.int .i64 b.gate) := fun w' k => kb2.out w' ((KX).trans k)
                        have cb3 : ∀ w', Kept [] wx w' → w'.cell? ⟨w.heap.size + 1 + 1, 3, none⟩ = some (.int .i64 b.no) := fun w' k => kb3.out w' ((KX).trans k)
                        have cb4 : ∀ w', Kept [] wx w' → w'.cell? ⟨w.heap.size + 1 + 1, 4, none⟩ = some (.string ⟨b.reason.toArray⟩) := fun w' k => kb4.out w' ((KX).trans k)
                        have cb5 : ∀ w', Kept [] wx w' → w'.cell? ⟨w.heap.size + 1 + 1, 5, none⟩ = some (.slice qa qn qc) := fun w' k => kb5.out w' ((KX).trans k)
                        have cb6 : ∀ w', Kept [] wx w' → w'.cell? ⟨w.heap.size + 1 + 1, 6, none⟩ = some (.int .i64 qx) := fun w' k => kb6.out w' ((KX).trans k)
                        have cb7 : ∀ w', Kept [] wx w' → w'.cell? ⟨w.heap.size + 1 + 1, 7, none⟩ = some (.int .i64 qy) := fun w' k => kb7.out w' ((KX).trans k)
                        go_region_held3 (fun w' => Kept [] wx w') (repeat (first | (with_reducible assumption) | (with_reducible exact Kept.refl _ _) | (with_reducible refine Kept.drew ?_) | (with_reducible refine Kept.alloc ?_ _)))
                          (first
                            | (go_at_call_of 37 (Value.agg #[.int .i64 a.juror, .int .i64 a.version, .int .i64 a.gate, .int .i64 a.no, .string ⟨a.reason.toArray⟩, .slice pa pn pc, .int .i64 px, .int .i64 py]); refine (HBA.out wx _ (KX) (by with_reducible assumption)).mono ?_; rintro e w' ⟨rfl, hk⟩)
                            | (go_at_call_of 37 (Value.agg #[.int .i64 b.juror, .int .i64 b.version, .int .i64 b.gate, .int .i64 b.no, .string ⟨b.reason.toArray⟩, .slice qa qn qc, .int .i64 qx, .int .i64 qy]); refine (HBB.out wx _ (KX) (by with_reducible assumption)).mono ?_; rintro e w' ⟨rfl, hk⟩))
                        rename_i hHeld
                        go_wp2
                        go_ret
                        exact ⟨by simp, hkW.trans ((KX).trans hHeld)⟩
          · have hzm := read_inv tx z HZT.out
            have z0 := kz0.out w6 Z6
            have z1 := kz1.out w6 Z6
            have z2 := kz2.out w6 Z6
            have z3 := kz3.out w6 Z6
            have z4 := kz4.out w6 Z6
            have z5 := kz5.out w6 Z6
            have HMZ : Hid (Calls Tryd.prog 34 #[.agg #[.int .i64 z.version, .int .i64 z.gate, .int .i64 z.no, .string ⟨z.reason.toArray⟩, .slice za z.jurors.length zc, .int .i64 z.holder]] w6 fun e w' => e = .returned (.string ⟨tx.toArray⟩) ∧ Kept [] w6 w') := by
              have h := minutes_any _ z w6 (HZZ.out.kept Z6) (HE.out.kept0 K6)
              rw [hzm] at h
              exact h
            clear hzm
            go_wp2_with (go_at_call 34; refine HMZ.out.mono ?_)
            rintro e w7 ⟨rfl, hk⟩
            have K7 := K6.trans hk
            clear hk HMZ z0 z1 z2 z3 z4 z5
            go_upto_region 8 with (fail)
            have xa0 := ka0.out w7 (K7)
            have xb0 := kb0.out w7 (K7)
            have xa1 := ka1.out w7 (K7)
            have xb1 := kb1.out w7 (K7)
            have xa2 := ka2.out w7 (K7)
            have xb2 := kb2.out w7 (K7)
            have xa3 := ka3.out w7 (K7)
            have xb3 := kb3.out w7 (K7)
            have xa4 := ka4.out w7 (K7)
            have xb4 := kb4.out w7 (K7)
            have xa5 := ka5.out w7 (K7)
            have xb5 := kb5.out w7 (K7)
            cases e0 : (a.juror == b.juror)
            · have hbe : (ballotE a == ballotE b) = false := by rw [HBS.out]; unfold sameV; simp only [e0, Bool.false_and]
              go_upto_region 9 with (fail)
              clear xa0 xb0 xa1 xb1 xa2 xb2 xa3 xb3 xa4 xb4 xa5 xb5
              have ca0 : ∀ w', Kept [] w7 w' → w'.cell? ⟨w.heap.size + 1, 0, none⟩ = some (.int .i64 a.juror) := fun w' k => ka0.out w' ((K7).trans k)
              have ca1 : ∀ w', Kept [] w7 w' → w'.cell? ⟨w.heap.size + 1, 1, none⟩ = some (.int .i64 a.version) := fun w' k => ka1.out w' ((K7).trans k)
              have ca2 : ∀ w', Kept [] w7 w' → w'.cell? ⟨w.heap.size + 1, 2, none⟩ = some (.int .i64 a.gate) := fun w' k => ka2.out w' ((K7).trans k)
              have ca3 : ∀ w', Kept [] w7 w' → w'.cell? ⟨w.heap.size + 1, 3, none⟩ = some (.int .i64 a.no) := fun w' k => ka3.out w' ((K7).trans k)
              have ca4 : ∀ w', Kept [] w7 w' → w'.cell? ⟨w.heap.size + 1, 4, none⟩ = some (.string ⟨a.reason.toArray⟩) := fun w' k => ka4.out w' ((K7).trans k)
              have ca5 : ∀ w', Kept [] w7 w' → w'.cell? ⟨w.heap.size + 1, 5, none⟩ = some (.slice pa pn pc) := fun w' k => ka5.out w' ((K7).trans k)
              have ca6 : ∀ w', Kept [] w7 w' → w'.cell? ⟨w.heap.size + 1, 6, none⟩ = some (.int .i64 px) := fun w' k => ka6.out w' ((K7).trans k)
              have ca7 : ∀ w', Kept [] w7 w' → w'.cell? ⟨w.heap.size + 1, 7, none⟩ = some (.int .i64 py) := fun w' k => ka7.out w' ((K7).trans k)
              have cb0 : ∀ w', Kept [] w7 w' → w'.cell? ⟨w.heap.size + 1 + 1, 0, none⟩ = some (.int .i64 b.juror) := fun w' k => kb0.out w' ((K7).trans k)
              have cb1 : ∀ w', Kept [] w7 w' → w'.cell? ⟨w.heap.size + 1 + 1, 1, none⟩ = some (.int .i64 b.version) := fun w' k => kb1.out w' ((K7).trans k)
              have cb2 : ∀ w', Kept [] w7 w' → w'.cell? ⟨w.heap.size + 1 + 1, 2, none⟩ = some (.int .i64 b.gate) := fun w' k => kb2.out w' ((K7).trans k)
              have cb3 : ∀ w', Kept [] w7 w' → w'.cell? ⟨w.heap.size + 1 + 1, 3, none⟩ = some (.int .i64 b.no) := fun w' k => kb3.out w' ((K7).trans k)
              have cb4 : ∀ w', Kept [] w7 w' → w'.cell? ⟨w.heap.size + 1 + 1, 4, none⟩ = some (.string ⟨b.reason.toArray⟩) := fun w' k => kb4.out w' ((K7).trans k)
              have cb5 : ∀ w', Kept [] w7 w' → w'.cell? ⟨w.heap.size + 1 + 1, 5, none⟩ = some (.slice qa qn qc) := fun w' k => kb5.out w' ((K7).trans k)
              have cb6 : ∀ w', Kept [] w7 w' → w'.cell? ⟨w.heap.size + 1 + 1, 6, none⟩ = some (.int .i64 qx) := fun w' k => kb6.out w' ((K7).trans k)
              have cb7 : ∀ w', Kept [] w7 w' → w'.cell? ⟨w.heap.size + 1 + 1, 7, none⟩ = some (.int .i64 qy) := fun w' k => kb7.out w' ((K7).trans k)
              go_region_held3 (fun w' => Kept [] w7 w') (repeat (first | (with_reducible assumption) | (with_reducible exact Kept.refl _ _) | (with_reducible refine Kept.drew ?_) | (with_reducible refine Kept.alloc ?_ _)))
                (first
                  | (go_at_call_of 37 (Value.agg #[.int .i64 a.juror, .int .i64 a.version, .int .i64 a.gate, .int .i64 a.no, .string ⟨a.reason.toArray⟩, .slice pa pn pc, .int .i64 px, .int .i64 py]); refine (HBA.out w7 _ (K7) (by with_reducible assumption)).mono ?_; rintro e w' ⟨rfl, hk⟩)
                  | (go_at_call_of 37 (Value.agg #[.int .i64 b.juror, .int .i64 b.version, .int .i64 b.gate, .int .i64 b.no, .string ⟨b.reason.toArray⟩, .slice qa qn qc, .int .i64 qx, .int .i64 qy]); refine (HBB.out w7 _ (K7) (by with_reducible assumption)).mono ?_; rintro e w' ⟨rfl, hk⟩))
              rename_i hHeld
              go_wp2
              go_ret
              exact ⟨by simp, hkW.trans ((K7).trans hHeld)⟩
            · skip
              cases e1 : (a.version == b.version)
              · have hbe : (ballotE a == ballotE b) = false := by rw [HBS.out]; unfold sameV; simp only [e1, Bool.false_and, Bool.and_false]
                go_upto_region 9 with (fail)
                clear xa0 xb0 xa1 xb1 xa2 xb2 xa3 xb3 xa4 xb4 xa5 xb5
                have ca0 : ∀ w', Kept [] w7 w' → w'.cell? ⟨w.heap.size + 1, 0, none⟩ = some (.int .i64 a.juror) := fun w' k => ka0.out w' ((K7).trans k)
                have ca1 : ∀ w', Kept [] w7 w' → w'.cell? ⟨w.heap.size + 1, 1, none⟩ = some (.int .i64 a.version) := fun w' k => ka1.out w' ((K7).trans k)
                have ca2 : ∀ w', Kept [] w7 w' → w'.cell? ⟨w.heap.size + 1, 2, none⟩ = some (.int .i64 a.gate) := fun w' k => ka2.out w' ((K7).trans k)
                have ca3 : ∀ w', Kept [] w7 w' → w'.cell? ⟨w.heap.size + 1, 3, none⟩ = some (.int .i64 a.no) := fun w' k => ka3.out w' ((K7).trans k)
                have ca4 : ∀ w', Kept [] w7 w' → w'.cell? ⟨w.heap.size + 1, 4, none⟩ = some (.string ⟨a.reason.toArray⟩) := fun w' k => ka4.out w' ((K7).trans k)
                have ca5 : ∀ w', Kept [] w7 w' → w'.cell? ⟨w.heap.size + 1, 5, none⟩ = some (.slice pa pn pc) := fun w' k => ka5.out w' ((K7).trans k)
                have ca6 : ∀ w', Kept [] w7 w' → w'.cell? ⟨w.heap.size + 1, 6, none⟩ = some (.int .i64 px) := fun w' k => ka6.out w' ((K7).trans k)
                have ca7 : ∀ w', Kept [] w7 w' → w'.cell? ⟨w.heap.size + 1, 7, none⟩ = some (.int .i64 py) := fun w' k => ka7.out w' ((K7).trans k)
                have cb0 : ∀ w', Kept [] w7 w' → w'.cell? ⟨w.heap.size + 1 + 1, 0, none⟩ = some (.int .i64 b.juror) := fun w' k => kb0.out w' ((K7).trans k)
                have cb1 : ∀ w', Kept [] w7 w' → w'.cell? ⟨w.heap.size + 1 + 1, 1, none⟩ = some (.int .i64 b.version) := fun w' k => kb1.out w' ((K7).trans k)
                have cb2 : ∀ w', Kept [] w7 w' → w'.cell? ⟨w.heap.size + 1 + 1, 2, none⟩ = some (.int .i64 b.gate) := fun w' k => kb2.out w' ((K7).trans k)
                have cb3 : ∀ w', Kept [] w7 w' → w'.cell? ⟨w.heap.size + 1 + 1, 3, none⟩ = some (.int .i64 b.no) := fun w' k => kb3.out w' ((K7).trans k)
                have cb4 : ∀ w', Kept [] w7 w' → w'.cell? ⟨w.heap.size + 1 + 1, 4, none⟩ = some (.string ⟨b.reason.toArray⟩) := fun w' k => kb4.out w' ((K7).trans k)
                have cb5 : ∀ w', Kept [] w7 w' → w'.cell? ⟨w.heap.size + 1 + 1, 5, none⟩ = some (.slice qa qn qc) := fun w' k => kb5.out w' ((K7).trans k)
                have cb6 : ∀ w', Kept [] w7 w' → w'.cell? ⟨w.heap.size + 1 + 1, 6, none⟩ = some (.int .i64 qx) := fun w' k => kb6.out w' ((K7).trans k)
                have cb7 : ∀ w', Kept [] w7 w' → w'.cell? ⟨w.heap.size + 1 + 1, 7, none⟩ = some (.int .i64 qy) := fun w' k => kb7.out w' ((K7).trans k)
                go_region_held3 (fun w' => Kept [] w7 w') (repeat (first | (with_reducible assumption) | (with_reducible exact Kept.refl _ _) | (with_reducible refine Kept.drew ?_) | (with_reducible refine Kept.alloc ?_ _)))
                  (first
                    | (go_at_call_of 37 (Value.agg #[.int .i64 a.juror, .int .i64 a.version, .int .i64 a.gate, .int .i64 a.no, .string ⟨a.reason.toArray⟩, .slice pa pn pc, .int .i64 px, .int .i64 py]); refine (HBA.out w7 _ (K7) (by with_reducible assumption)).mono ?_; rintro e w' ⟨rfl, hk⟩)
                    | (go_at_call_of 37 (Value.agg #[.int .i64 b.juror, .int .i64 b.version, .int .i64 b.gate, .int .i64 b.no, .string ⟨b.reason.toArray⟩, .slice qa qn qc, .int .i64 qx, .int .i64 qy]); refine (HBB.out w7 _ (K7) (by with_reducible assumption)).mono ?_; rintro e w' ⟨rfl, hk⟩))
                rename_i hHeld
                go_wp2
                go_ret
                exact ⟨by simp, hkW.trans ((K7).trans hHeld)⟩
              · skip
                cases e2 : (a.gate == b.gate)
                · have hbe : (ballotE a == ballotE b) = false := by rw [HBS.out]; unfold sameV; simp only [e2, Bool.false_and, Bool.and_false]
                  go_upto_region 9 with (fail)
                  clear xa0 xb0 xa1 xb1 xa2 xb2 xa3 xb3 xa4 xb4 xa5 xb5
                  have ca0 : ∀ w', Kept [] w7 w' → w'.cell? ⟨w.heap.size + 1, 0, none⟩ = some (.int .i64 a.juror) := fun w' k => ka0.out w' ((K7).trans k)
                  have ca1 : ∀ w', Kept [] w7 w' → w'.cell? ⟨w.heap.size + 1, 1, none⟩ = some (.int .i64 a.version) := fun w' k => ka1.out w' ((K7).trans k)
                  have ca2 : ∀ w', Kept [] w7 w' → w'.cell? ⟨w.heap.size + 1, 2, none⟩ = some (.int .i64 a.gate) := fun w' k => ka2.out w' ((K7).trans k)
                  have ca3 : ∀ w', Kept [] w7 w' → w'.cell? ⟨w.heap.size + 1, 3, none⟩ = some (.int .i64 a.no) := fun w' k => ka3.out w' ((K7).trans k)
                  have ca4 : ∀ w', Kept [] w7 w' → w'.cell? ⟨w.heap.size + 1, 4, none⟩ = some (.string ⟨a.reason.toArray⟩) := fun w' k => ka4.out w' ((K7).trans k)
                  have ca5 : ∀ w', Kept [] w7 w' → w'.cell? ⟨w.heap.size + 1, 5, none⟩ = some (.slice pa pn pc) := fun w' k => ka5.out w' ((K7).trans k)
                  have ca6 : ∀ w', Kept [] w7 w' → w'.cell? ⟨w.heap.size + 1, 6, none⟩ = some (.int .i64 px) := fun w' k => ka6.out w' ((K7).trans k)
                  have ca7 : ∀ w', Kept [] w7 w' → w'.cell? ⟨w.heap.size + 1, 7, none⟩ = some (.int .i64 py) := fun w' k => ka7.out w' ((K7).trans k)
                  have cb0 : ∀ w', Kept [] w7 w' → w'.cell? ⟨w.heap.size + 1 + 1, 0, none⟩ = some (.int .i64 b.juror) := fun w' k => kb0.out w' ((K7).trans k)
                  have cb1 : ∀ w', Kept [] w7 w' → w'.cell? ⟨w.heap.size + 1 + 1, 1, none⟩ = some (.int .i64 b.version) := fun w' k => kb1.out w' ((K7).trans k)
                  have cb2 : ∀ w', Kept [] w7 w' → w'.cell? ⟨w.heap.size + 1 + 1, 2, none⟩ = some (.int .i64 b.gate) := fun w' k => kb2.out w' ((K7).trans k)
                  have cb3 : ∀ w', Kept [] w7 w' → w'.cell? ⟨w.heap.size + 1 + 1, 3, none⟩ = some (.int .i64 b.no) := fun w' k => kb3.out w' ((K7).trans k)
                  have cb4 : ∀ w', Kept [] w7 w' → w'.cell? ⟨w.heap.size + 1 + 1, 4, none⟩ = some (.string ⟨b.reason.toArray⟩) := fun w' k => kb4.out w' ((K7).trans k)
                  have cb5 : ∀ w', Kept [] w7 w' → w'.cell? ⟨w.heap.size + 1 + 1, 5, none⟩ = some (.slice qa qn qc) := fun w' k => kb5.out w' ((K7).trans k)
                  have cb6 : ∀ w', Kept [] w7 w' → w'.cell? ⟨w.heap.size + 1 + 1, 6, none⟩ = some (.int .i64 qx) := fun w' k => kb6.out w' ((K7).trans k)
                  have cb7 : ∀ w', Kept [] w7 w' → w'.cell? ⟨w.heap.size + 1 + 1, 7, none⟩ = some (.int .i64 qy) := fun w' k => kb7.out w' ((K7).trans k)
                  go_region_held3 (fun w' => Kept [] w7 w') (repeat (first | (with_reducible assumption) | (with_reducible exact Kept.refl _ _) | (with_reducible refine Kept.drew ?_) | (with_reducible refine Kept.alloc ?_ _)))
                    (first
                      | (go_at_call_of 37 (Value.agg #[.int .i64 a.juror, .int .i64 a.version, .int .i64 a.gate, .int .i64 a.no, .string ⟨a.reason.toArray⟩, .slice pa pn pc, .int .i64 px, .int .i64 py]); refine (HBA.out w7 _ (K7) (by with_reducible assumption)).mono ?_; rintro e w' ⟨rfl, hk⟩)
                      | (go_at_call_of 37 (Value.agg #[.int .i64 b.juror, .int .i64 b.version, .int .i64 b.gate, .int .i64 b.no, .string ⟨b.reason.toArray⟩, .slice qa qn qc, .int .i64 qx, .int .i64 qy]); refine (HBB.out w7 _ (K7) (by with_reducible assumption)).mono ?_; rintro e w' ⟨rfl, hk⟩))
                  rename_i hHeld
                  go_wp2
                  go_ret
                  exact ⟨by simp, hkW.trans ((K7).trans hHeld)⟩
                · skip
                  cases e3 : (a.no == b.no)
                  · have hbe : (ballotE a == ballotE b) = false := by rw [HBS.out]; unfold sameV; simp only [e3, Bool.false_and, Bool.and_false]
                    go_upto_region 9 with (fail)
                    clear xa0 xb0 xa1 xb1 xa2 xb2 xa3 xb3 xa4 xb4 xa5 xb5
                    have ca0 : ∀ w', Kept [] w7 w' → w'.cell? ⟨w.heap.size + 1, 0, none⟩ = some (.int .i64 a.juror) := fun w' k => ka0.out w' ((K7).trans k)
                    have ca1 : ∀ w', Kept [] w7 w' → w'.cell? ⟨w.heap.size + 1, 1, none⟩ = some (.int .i64 a.version) := fun w' k => ka1.out w' ((K7).trans k)
                    have ca2 : ∀ w', Kept [] w7 w' → w'.cell? ⟨w.heap.size + 1, 2, none⟩ = some (.int .i64 a.gate) := fun w' k => ka2.out w' ((K7).trans k)
                    have ca3 : ∀ w', Kept [] w7 w' → w'.cell? ⟨w.heap.size + 1, 3, none⟩ = some (.int .i64 a.no) := fun w' k => ka3.out w' ((K7).trans k)
                    have ca4 : ∀ w', Kept [] w7 w' → w'.cell? ⟨w.heap.size + 1, 4, none⟩ = some (.string ⟨a.reason.toArray⟩) := fun w' k => ka4.out w' ((K7).trans k)
                    have ca5 : ∀ w', Kept [] w7 w' → w'.cell? ⟨w.heap.size + 1, 5, none⟩ = some (.slice pa pn pc) := fun w' k => ka5.out w' ((K7).trans k)
                    have ca6 : ∀ w', Kept [] w7 w' → w'.cell? ⟨w.heap.size + 1, 6, none⟩ = some (.int .i64 px) := fun w' k => ka6.out w' ((K7).trans k)
                    have ca7 : ∀ w', Kept [] w7 w' → w'.cell? ⟨w.heap.size + 1, 7, none⟩ = some (.int .i64 py) := fun w' k => ka7.out w' ((K7).trans k)
                    have cb0 : ∀ w', Kept [] w7 w' → w'.cell? ⟨w.heap.size + 1 + 1, 0, none⟩ = some (.int .i64 b.juror) := fun w' k => kb0.out w' ((K7).trans k)
                    have cb1 : ∀ w', Kept [] w7 w' → w'.cell? ⟨w.heap.size + 1 + 1, 1, none⟩ = some (.int .i64 b.version) := fun w' k => kb1.out w' ((K7).trans k)
                    have cb2 : ∀ w', Kept [] w7 w' → w'.cell? ⟨w.heap.size + 1 + 1, 2, none⟩ = some (.int .i64 b.gate) := fun w' k => kb2.out w' ((K7).trans k)
                    have cb3 : ∀ w', Kept [] w7 w' → w'.cell? ⟨w.heap.size + 1 + 1, 3, none⟩ = some (.int .i64 b.no) := fun w' k => kb3.out w' ((K7).trans k)
                    have cb4 : ∀ w', Kept [] w7 w' → w'.cell? ⟨w.heap.size + 1 + 1, 4, none⟩ = some (.string ⟨b.reason.toArray⟩) := fun w' k => kb4.out w' ((K7).trans k)
                    have cb5 : ∀ w', Kept [] w7 w' → w'.cell? ⟨w.heap.size + 1 + 1, 5, none⟩ = some (.slice qa qn qc) := fun w' k => kb5.out w' ((K7).trans k)
                    have cb6 : ∀ w', Kept [] w7 w' → w'.cell? ⟨w.heap.size + 1 + 1, 6, none⟩ = some (.int .i64 qx) := fun w' k => kb6.out w' ((K7).trans k)
                    have cb7 : ∀ w', Kept [] w7 w' → w'.cell? ⟨w.heap.size + 1 + 1, 7, none⟩ = some (.int .i64 qy) := fun w' k => kb7.out w' ((K7).trans k)
                    go_region_held3 (fun w' => Kept [] w7 w') (repeat (first | (with_reducible assumption) | (with_reducible exact Kept.refl _ _) | (with_reducible refine Kept.drew ?_) | (with_reducible refine Kept.alloc ?_ _)))
                      (first
                        | (go_at_call_of 37 (Value.agg #[.int .i64 a.juror, .int .i64 a.version, .int .i64 a.gate, .int .i64 a.no, .string ⟨a.reason.toArray⟩, .slice pa pn pc, .int .i64 px, .int .i64 py]); refine (HBA.out w7 _ (K7) (by with_reducible assumption)).mono ?_; rintro e w' ⟨rfl, hk⟩)
                        | (go_at_call_of 37 (Value.agg #[.int .i64 b.juror, .int .i64 b.version, .int .i64 b.gate, .int .i64 b.no, .string ⟨b.reason.toArray⟩, .slice qa qn qc, .int .i64 qx, .int .i64 qy]); refine (HBB.out w7 _ (K7) (by with_reducible assumption)).mono ?_; rintro e w' ⟨rfl, hk⟩))
                    rename_i hHeld
                    go_wp2
                    go_ret
                    exact ⟨by simp, hkW.trans ((K7).trans hHeld)⟩
                  · skip
                    cases e4 : (a.reason == b.reason)
                    · have hbe : (ballotE a == ballotE b) = false := by rw [HBS.out]; unfold sameV; simp only [e4, Bool.false_and, Bool.and_false]
                      go_upto_region 9 with (fail)
                      clear xa0 xb0 xa1 xb1 xa2 xb2 xa3 xb3 xa4 xb4 xa5 xb5
                      have ca0 : ∀ w', Kept [] w7 w' → w'.cell? ⟨w.heap.size + 1, 0, none⟩ = some (.int .i64 a.juror) := fun w' k => ka0.out w' ((K7).trans k)
                      have ca1 : ∀ w', Kept [] w7 w' → w'.cell? ⟨w.heap.size + 1, 1, none⟩ = some (.int .i64 a.version) := fun w' k => ka1.out w' ((K7).trans k)
                      have ca2 : ∀ w', Kept [] w7 w' → w'.cell? ⟨w.heap.size + 1, 2, none⟩ = some (.int .i64 a.gate) := fun w' k => ka2.out w' ((K7).trans k)
                      have ca3 : ∀ w', Kept [] w7 w' → w'.cell? ⟨w.heap.size + 1, 3, none⟩ = some (.int .i64 a.no) := fun w' k => ka3.out w' ((K7).trans k)
                      have ca4 : ∀ w', Kept [] w7 w' → w'.cell? ⟨w.heap.size + 1, 4, none⟩ = some (.string ⟨a.reason.toArray⟩) := fun w' k => ka4.out w' ((K7).trans k)
                      have ca5 : ∀ w', Kept [] w7 w' → w'.cell? ⟨w.heap.size + 1, 5, none⟩ = some (.slice pa pn pc) := fun w' k => ka5.out w' ((K7).trans k)
                      have ca6 : ∀ w', Kept [] w7 w' → w'.cell? ⟨w.heap.size + 1, 6, none⟩ = some (.int .i64 px) := fun w' k => ka6.out w' ((K7).trans k)
                      have ca7 : ∀ w', Kept [] w7 w' → w'.cell? ⟨w.heap.size + 1, 7, none⟩ = some (.int .i64 py) := fun w' k => ka7.out w' ((K7).trans k)
                      have cb0 : ∀ w', Kept [] w7 w' → w'.cell? ⟨w.heap.size + 1 + 1, 0, none⟩ = some (.int .i64 b.juror) := fun w' k => kb0.out w' ((K7).trans k)
                      have cb1 : ∀ w', Kept [] w7 w' → w'.cell? ⟨w.heap.size + 1 + 1, 1, none⟩ = some (.int .i64 b.version) := fun w' k => kb1.out w' ((K7).trans k)
                      have cb2 : ∀ w', Kept [] w7 w' → w'.cell? ⟨w.heap.size + 1 + 1, 2, none⟩ = some (.int .i64 b.gate) := fun w' k => kb2.out w' ((K7).trans k)
                      have cb3 : ∀ w', Kept [] w7 w' → w'.cell? ⟨w.heap.size + 1 + 1, 3, none⟩ = some (.int .i64 b.no) := fun w' k => kb3.out w' ((K7).trans k)
                      have cb4 : ∀ w', Kept [] w7 w' → w'.cell? ⟨w.heap.size + 1 + 1, 4, none⟩ = some (.string ⟨b.reason.toArray⟩) := fun w' k => kb4.out w' ((K7).trans k)
                      have cb5 : ∀ w', Kept [] w7 w' → w'.cell? ⟨w.heap.size + 1 + 1, 5, none⟩ = some (.slice qa qn qc) := fun w' k => kb5.out w' ((K7).trans k)
                      have cb6 : ∀ w', Kept [] w7 w' → w'.cell? ⟨w.heap.size + 1 + 1, 6, none⟩ = some (.int .i64 qx) := fun w' k => kb6.out w' ((K7).trans k)
                      have cb7 : ∀ w', Kept [] w7 w' → w'.cell? ⟨w.heap.size + 1 + 1, 7, none⟩ = some (.int .i64 qy) := fun w' k => kb7.out w' ((K7).trans k)
                      go_region_held3 (fun w' => Kept [] w7 w') (repeat (first | (with_reducible assumption) | (with_reducible exact Kept.refl _ _) | (with_reducible refine Kept.drew ?_) | (with_reducible refine Kept.alloc ?_ _)))
                        (first
                          | (go_at_call_of 37 (Value.agg #[.int .i64 a.juror, .int .i64 a.version, .int .i64 a.gate, .int .i64 a.no, .string ⟨a.reason.toArray⟩, .slice pa pn pc, .int .i64 px, .int .i64 py]); refine (HBA.out w7 _ (K7) (by with_reducible assumption)).mono ?_; rintro e w' ⟨rfl, hk⟩)
                          | (go_at_call_of 37 (Value.agg #[.int .i64 b.juror, .int .i64 b.version, .int .i64 b.gate, .int .i64 b.no, .string ⟨b.reason.toArray⟩, .slice qa qn qc, .int .i64 qx, .int .i64 qy]); refine (HBB.out w7 _ (K7) (by with_reducible assumption)).mono ?_; rintro e w' ⟨rfl, hk⟩))
                      rename_i hHeld
                      go_wp2
                      go_ret
                      exact ⟨by simp, hkW.trans ((K7).trans hHeld)⟩
                    · skip
                      have hbe : (ballotE a == ballotE b) = decide (a.pts = b.pts) := by rw [HBS.out]; unfold sameV; simp only [e0, e1, e2, e3, e4, Bool.true_and]
                      have hsp := Lib.hid (HSP.out w7 (K7))
                      obtain ⟨d, hd⟩ : ∃ d, decide (a.pts = b.pts) = d := ⟨_, rfl⟩
                      rw [hd] at hbe hsp
                      clear hd
                      go_wp2_with (go_at_call 36; refine hsp.out.mono ?_)
                      rintro e wx ⟨rfl, hk⟩
                      have KX := (K7).trans hk
                      clear hk hsp
                      clear xa0 xb0 xa1 xb1 xa2 xb2 xa3 xb3 xa4 xb4 xa5 xb5
                      cases d
                      · go_upto_region 9 with (fail)
                        have ca0 : ∀ w', Kept [] wx w' → w'.cell? ⟨w.heap.size + 1, 0, none⟩ = some (.int .i64 a.juror) := fun w' k => ka0.out w' ((KX).trans k)
                        have ca1 : ∀ w', Kept [] wx w' → w'.cell? ⟨w.heap.size + 1, 1, none⟩ = some (.int .i64 a.version) := fun w' k => ka1.out w' ((KX).trans k)
                        have ca2 : ∀ w', Kept [] wx w' → w'.cell? ⟨w.heap.size + 1, 2, none⟩ = some (.int .i64 a.gate) := fun w' k => ka2.out w' ((KX).trans k)
                        have ca3 : ∀ w', Kept [] wx w' → w'.cell? ⟨w.heap.size + 1, 3, none⟩ = some (.int .i64 a.no) := fun w' k => ka3.out w' ((KX).trans k)
                        have ca4 : ∀ w', Kept [] wx w' → w'.cell? ⟨w.heap.size + 1, 4, none⟩ = some (.string ⟨a.reason.toArray⟩) := fun w' k => ka4.out w' ((KX).trans k)
                        have ca5 : ∀ w', Kept [] wx w' → w'.cell? ⟨w.heap.size + 1, 5, none⟩ = some (.slice pa pn pc) := fun w' k => ka5.out w' ((KX).trans k)
                        have ca6 : ∀ w', Kept [] wx w' → w'.cell? ⟨w.heap.size + 1, 6, none⟩ = some (.int .i64 px) := fun w' k => ka6.out w' ((KX).trans k)
                        have ca7 : ∀ w', Kept [] wx w' → w'.cell? ⟨w.heap.size + 1, 7, none⟩ = some (.int .i64 py) := fun w' k => ka7.out w' ((KX).trans k)
                        have cb0 : ∀ w', Kept [] wx w' → w'.cell? ⟨w.heap.size + 1 + 1, 0, none⟩ = some (.int .i64 b.juror) := fun w' k => kb0.out w' ((KX).trans k)
                        have cb1 : ∀ w', Kept [] wx w' → w'.cell? ⟨w.heap.size + 1 + 1, 1, none⟩ = some (.int .i64 b.version) := fun w' k => kb1.out w' ((KX).trans k)
                        have cb2 : ∀ w', Kept [] wx w' → w'.cell? ⟨w.heap.size + 1 + 1, 2, none⟩ = some (.int .i64 b.gate) := fun w' k => kb2.out w' ((KX).trans k)
                        have cb3 : ∀ w', Kept [] wx w' → w'.cell? ⟨w.heap.size + 1 + 1, 3, none⟩ = some (.int .i64 b.no) := fun w' k => kb3.out w' ((KX).trans k)
                        have cb4 : ∀ w', Kept [] wx w' → w'.cell? ⟨w.heap.size + 1 + 1, 4, none⟩ = some (.string ⟨b.reason.toArray⟩) := fun w' k => kb4.out w' ((KX).trans k)
                        have cb5 : ∀ w', Kept [] wx w' → w'.cell? ⟨w.heap.size + 1 + 1, 5, none⟩ = some (.slice qa qn qc) := fun w' k => kb5.out w' ((KX).trans k)
                        have cb6 : ∀ w', Kept [] wx w' → w'.cell? ⟨w.heap.size + 1 + 1, 6, none⟩ = some (.int .i64 qx) := fun w' k => kb6.out w' ((KX).trans k)
                        have cb7 : ∀ w', Kept [] wx w' → w'.cell? ⟨w.heap.size + 1 + 1, 7, none⟩ = some (.int .i64 qy) := fun w' k => kb7.out w' ((KX).trans k)
                        go_region_held3 (fun w' => Kept [] wx w') (repeat (first | (with_reducible assumption) | (with_reducible exact Kept.refl _ _) | (with_reducible refine Kept.drew ?_) | (with_reducible refine Kept.alloc ?_ _)))
                          (first
                            | (go_at_call_of 37 (Value.agg #[.int .i64 a.juror, .int .i64 a.version, .int .i64 a.gate, .int .i64 a.no, .string ⟨a.reason.toArray⟩, .slice pa pn pc, .int .i64 px, .int .i64 py]); refine (HBA.out wx _ (KX) (by with_reducible assumption)).mono ?_; rintro e w' ⟨rfl, hk⟩)
                            | (go_at_call_of 37 (Value.agg #[.int .i64 b.juror, .int .i64 b.version, .int .i64 b.gate, .int .i64 b.no, .string ⟨b.reason.toArray⟩, .slice qa qn qc, .int .i64 qx, .int .i64 qy]); refine (HBB.out wx _ (KX) (by with_reducible assumption)).mono ?_; rintro e w' ⟨rfl, hk⟩))
                        rename_i hHeld
                        go_wp2
                        go_ret
                        exact ⟨by simp, hkW.trans ((KX).trans hHeld)⟩
                      · go_upto_region 9 with (fail)
                        have ca0 : ∀ w', Kept [] wx w' → w'.cell? ⟨w.heap.size + 1, 0, none⟩ = some (.int .i64 a.juror) := fun w' k => ka0.out w' ((KX).trans k)
                        have ca1 : ∀ w', Kept [] wx w' → w'.cell? ⟨w.heap.size + 1, 1, none⟩ = some (.int .i64 a.version) := fun w' k => ka1.out w' ((KX).trans k)
                        have ca2 : ∀ w', Kept [] wx w' → w'.cell? ⟨w.heap.size + 1, 2, none⟩ = some (.int .i64 a.gate) := fun w' k => ka2.out w' ((KX).trans k)
                        have ca3 : ∀ w', Kept [] wx w' → w'.cell? ⟨w.heap.size + 1, 3, none⟩ = some (.int .i64 a.no) := fun w' k => ka3.out w' ((KX).trans k)
                        have ca4 : ∀ w', Kept [] wx w' → w'.cell? ⟨w.heap.size + 1, 4, none⟩ = some (.string ⟨a.reason.toArray⟩) := fun w' k => ka4.out w' ((KX).trans k)
                        have ca5 : ∀ w', Kept [] wx w' → w'.cell? ⟨w.heap.size + 1, 5, none⟩ = some (.slice pa pn pc) := fun w' k => ka5.out w' ((KX).trans k)
                        have ca6 : ∀ w', Kept [] wx w' → w'.cell? ⟨w.heap.size + 1, 6, none⟩ = some (.int .i64 px) := fun w' k => ka6.out w' ((KX).trans k)
                        have ca7 : ∀ w', Kept [] wx w' → w'.cell? ⟨w.heap.size + 1, 7, none⟩ = some (.int .i64 py) := fun w' k => ka7.out w' ((KX).trans k)
                        have cb0 : ∀ w', Kept [] wx w' → w'.cell? ⟨w.heap.size + 1 + 1, 0, none⟩ = some (.int .i64 b.juror) := fun w' k => kb0.out w' ((KX).trans k)
                        have cb1 : ∀ w', Kept [] wx w' → w'.cell? ⟨w.heap.size + 1 + 1, 1, none⟩ = some (.int .i64 b.version) := fun w' k => kb1.out w' ((KX).trans k)
                        have cb2 : ∀ w', Kept [] wx w' → w'.cell? ⟨w.heap.size + 1 + 1, 2, none⟩ = some (.int .i64 b.gate) := fun w' k => kb2.out w' ((KX).trans k)
                        have cb3 : ∀ w', Kept [] wx w' → w'.cell? ⟨w.heap.size + 1 + 1, 3, none⟩ = some (.int .i64 b.no) := fun w' k => kb3.out w' ((KX).trans k)
                        have cb4 : ∀ w', Kept [] wx w' → w'.cell? ⟨w.heap.size + 1 + 1, 4, none⟩ = some (.string ⟨b.reason.toArray⟩) := fun w' k => kb4.out w' ((KX).trans k)
                        have cb5 : ∀ w', Kept [] wx w' → w'.cell? ⟨w.heap.size + 1 + 1, 5, none⟩ = some (.slice qa qn qc) := fun w' k => kb5.out w' ((KX).trans k)
                        have cb6 : ∀ w', Kept [] wx w' → w'.cell? ⟨w.heap.size + 1 + 1, 6, none⟩ = some (.int .i64 qx) := fun w' k => kb6.out w' ((KX).trans k)
                        have cb7 : ∀ w', Kept [] wx w' → w'.cell? ⟨w.heap.size + 1 + 1, 7, none⟩ = some (.int .i64 qy) := fun w' k => kb7.out w' ((KX).trans k)
                        go_region_held3 (fun w' => Kept [] wx w') (repeat (first | (with_reducible assumption) | (with_reducible exact Kept.refl _ _) | (with_reducible refine Kept.drew ?_) | (with_reducible refine Kept.alloc ?_ _)))
                          (first
                            | (go_at_call_of 37 (Value.agg #[.int .i64 a.juror, .int .i64 a.version, .int .i64 a.gate, .int .i64 a.no, .string ⟨a.reason.toArray⟩, .slice pa pn pc, .int .i64 px, .int .i64 py]); refine (HBA.out wx _ (KX) (by with_reducible assumption)).mono ?_; rintro e w' ⟨rfl, hk⟩)
                            | (go_at_call_of 37 (Value.agg #[.int .i64 b.juror, .int .i64 b.version, .int .i64 b.gate, .int .i64 b.no, .string ⟨b.reason.toArray⟩, .slice qa qn qc, .int .i64 qx, .int .i64 qy]); refine (HBB.out wx _ (KX) (by with_reducible assumption)).mono ?_; rintro e w' ⟨rfl, hk⟩))
                        rename_i hHeld
                        go_wp2
                        go_ret
                        exact ⟨by simp, hkW.trans ((KX).trans hHeld)⟩
      · go_wp2
        go_ret
        exact ⟨rfl, hkW.trans hk1⟩
    · go_wp2
      go_ret
      exact ⟨rfl, hkW.trans hk1⟩
  · go_wp2
    go_ret
    exact ⟨rfl, hkW.trans hk1⟩
end Go.Proofs.YtabiklpemoijcaaDoor
