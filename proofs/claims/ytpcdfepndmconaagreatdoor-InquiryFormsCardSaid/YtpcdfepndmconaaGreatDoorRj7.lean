/- The reference's ReadMinutes. -/
import Derived.Test.YtpcdfepndmconaaGreatDoorRj5
namespace Go.Proofs.YtpcdfepndmconaaGreatDoor
open Go.RowKit

theorem rr_nums' {l : List Int} {r' : Wire.Rd} (b : Nat) (r : Wire.Rd) (hq : Wire.nums r = (l, r')) (w : World) (h : RrAt w b r) (ho : Wire.Ok r) (hs : Fits r) :
    Calls Tryz.prog 65 #[.pointer (some ⟨b, 0, none⟩)] w fun en w' =>
      ∃ v, en = .returned v ∧ w'.ownsRow w.heap.size 3 1 v l.length (ints l) ∧ RrAt w' b r' ∧ Kept [b] w w' := by
  have := rr_nums b r w h ho hs
  rw [hq] at this
  exact this
theorem rr_text' {l : List UInt8} {r' : Wire.Rd} (b : Nat) (r : Wire.Rd) (hq : Wire.text r = (l, r')) (w : World) (h : RrAt w b r) (ho : Wire.Ok r) (hs : Fits r) :
    Calls Tryz.prog 66 #[.pointer (some ⟨b, 0, none⟩)] w fun en w' =>
      en = .returned (.string ⟨l.toArray⟩) ∧ RrAt w' b r' ∧ Kept [b] w w' := by
  have := rr_text b r w h ho hs
  rw [hq] at this
  exact this

set_option maxRecDepth 100000 in
set_option maxHeartbeats 2000000 in
theorem rreadMinutes_walk (s reason : List UInt8) (head jurors : List Int) (holder : Int) (r1 r2 r3 r4 : Wire.Rd) (w : World) (hE : Env w) (hs : s.length ≤ 100000000)
    (h1 : Hid (Wire.nums ⟨s, false⟩ = (head, r1))) (h2 : Hid (Wire.text r1 = (reason, r2))) (h3 : Hid (Wire.nums r2 = (jurors, r3))) (h4 : Hid (Wire.number 59 (-9223372036854775808) r3 = (holder, r4))) :
    Calls Tryz.prog 17 #[.string ⟨s.toArray⟩] w (RM s w) := by
  have HQ := Lib.hid (readMinutes_eq h1.out h2.out h3.out h4.out)
  have o1 : Hid (Wire.Ok r1) := by have := Wire.ok_nums ⟨s, false⟩ (Wire.ok_fresh s); rw [h1.out] at this; exact this
  have o2 : Hid (Wire.Ok r2) := by have := Wire.ok_text r1 o1.out; rw [h2.out] at this; exact this
  have o3 : Hid (Wire.Ok r3) := by have := Wire.ok_nums r2 o2.out; rw [h3.out] at this; exact this
  go_enter Tryz.func17, Tryz.ntmps17
  go_wp2_with (go_at_call 64; refine (rr_open s _ (by exact hE.alloc _)).mono ?_; rintro e w1 ⟨rfl, hr1, hk1⟩)
  have hz1 : Blk w1 w.heap.size 37 zerosO := (Blk.new w _ _).kept hk1 (by simp)
  rw [World.size_alloc] at hr1
  have hkw1 : Kept [] w w1 := ((Kept.refl [] w).alloc _).trans hk1
  have f1 : Fits r1 := fits_nums' h1.out hs
  have f2 : Fits r2 := fits_text' h2.out f1
  have f3 : Fits r3 := fits_nums' h3.out f2
  have C2 := Lib.hid (rr_nums' (w.heap.size + 1) ⟨s, false⟩ h1.out w1 hr1 (Wire.ok_fresh s) hs)
  clear hk1
  go_wp2_with (go_at_call 65; refine C2.out.mono ?_)
  rintro e w2 ⟨v2, rfl, ho2, hr2, hk2⟩
  obtain ⟨a2, c2, rfl⟩ := own_form ho2
  have hz2 := hz1.kept hk2 (by simp)
  have C3 := Lib.hid (rr_text' (w.heap.size + 1) r1 h2.out w2 hr2 o1.out f1)
  clear C2
  go_wp2_with (go_at_call 66; refine C3.out.mono ?_)
  rintro e w3 ⟨rfl, hr3, hk3⟩
  have hz3 := hz2.kept hk3 (by simp)
  have C4 := Lib.hid (rr_nums' (w.heap.size + 1) r2 h3.out w3 hr3 o2.out f2)
  clear C3
  go_wp2_with (go_at_call 65; refine C4.out.mono ?_)
  rintro e w5 ⟨v4, rfl, ho4, hr5, hk5⟩
  obtain ⟨a4, c4, rfl⟩ := own_form ho4
  have hz5 := hz3.kept hk5 (by simp)
  have C5 := Lib.hid (rr_int (w.heap.size + 1) r3 h4.out w5 hr5 o3.out f3)
  clear C4
  go_wp2_with (go_at_call 67; refine C5.out.mono ?_)
  rintro e w7 ⟨rfl, hr7, hk7⟩
  have hz7 := hz5.kept hk7 (by simp)
  have C6 := Lib.hid (rr_done (w.heap.size + 1) r4 w7 hr7)
  have hw7 : Kept [] w w7 := (((hkw1.fresh hk2 (by simp)).fresh hk3 (by simp)).fresh hk5 (by simp)).fresh hk7 (by simp)
  clear C5
  obtain ⟨d, hd⟩ : ∃ d, (!r4.bad && r4.rest.isEmpty) = d := ⟨_, rfl⟩
  rw [hd] at C6
  have HD := Lib.hid hd
  clear hd
  by_cases hyes : d = true ∧ head.length = 3
  · obtain ⟨rfl, h3len⟩ := hyes
    obtain ⟨x0, x1, x2, rfl⟩ : ∃ x0 x1 x2, head = [x0, x1, x2] := by
      rcases head with _ | ⟨x0, _ | ⟨x1, _ | ⟨x2, _ | ⟨x3, t⟩⟩⟩⟩
      · cases h3len
      · cases h3len
      · cases h3len
      · exact ⟨_, _, _, rfl⟩
      · simp at h3len
    have hyq : readMinutes s = (⟨x0, x1, x2, reason, jurors, holder⟩, true) := by rw [HQ.out, HD.out, if_pos ⟨rfl, h3len⟩]; rfl
    have HY := Lib.hid hyq
    have hI : ∀ x ∈ [x0, x1, x2], Wire.I64 x := by have := nums_i64 ⟨s, false⟩; rw [h1.out] at this; exact this
    have HI0 := Lib.hid (hI x0 (by simp))
    have HI1 := Lib.hid (hI x1 (by simp))
    have HI2 := Lib.hid (hI x2 (by simp))
    have HI3 : Hid (∀ x ∈ jurors, Wire.I64 x) := by have := nums_i64 r2; rw [h3.out] at this; exact this
    have HI4 : Hid (Wire.I64 holder) := by have := Wire.number_bounds 59 (-9223372036854775808) r3; rw [h4.out] at this; exact this
    have HL3 : reason.length ≤ 100000000 := by have := (fits_text f1).2; rw [h2.out] at this; exact this
    have HL4 : jurors.length ≤ 100000001 := by have := nums_len r2 f2; rw [h3.out] at this; exact this
    clear hyq h3len hI
    have hb1 := hr1.2.lt
    have hb3 := hr3.2.lt
    have o7 := own_kept (own_kept (own_kept ho2 hk3 (by simpa using hb1)) hk5 (by simpa using hb1)) hk7 (by simpa using hb1)
    have q7 := own_kept ho4 hk7 (by simpa using hb3)
    have r7w := Row.of_own o7 (by simp)
    obtain ⟨g, off, rfl, hcell⟩ := r7w.at_ (by simp)
    have hg := o7.lt g rfl
    have hgz : g ≠ w.heap.size := by have := hz1.lt; omega
    go_wp2_with (go_at_call 68; refine C6.out.mono ?_)
    rintro e w9 ⟨rfl, hk9⟩
    have hz9 := hz7.kept hk9 (by simp)
    have q0 : w9.cell? ⟨g, off, none⟩ = some (.int .i64 x0) := (hk9.cell (p := ⟨g, off, none⟩) hg.2 (by simp)).trans (hcell 0 _ rfl)
    have q1 : w9.cell? ⟨g, off + 1, none⟩ = some (.int .i64 x1) := (hk9.cell (p := ⟨g, off + 1, none⟩) hg.2 (by simp)).trans (hcell 1 _ rfl)
    have q2 : w9.cell? ⟨g, off + 2, none⟩ = some (.int .i64 x2) := (hk9.cell (p := ⟨g, off + 2, none⟩) hg.2 (by simp)).trans (hcell 2 _ rfl)
    have K0 : ∀ w', Kept [w.heap.size] w9 w' → w'.cell? ⟨g, off, none⟩ = some (.int .i64 x0) := fun w' k => (k.cell (p := ⟨g, off, none⟩) (World.block_lt_of_cell? w9 _ q0) (by simpa using hgz)).trans q0
    have K1 : ∀ w', Kept [w.heap.size] w9 w' → w'.cell? ⟨g, off + 1, none⟩ = some (.int .i64 x1) := fun w' k => (k.cell (p := ⟨g, off + 1, none⟩) (World.block_lt_of_cell? w9 _ q1) (by simpa using hgz)).trans q1
    have K2 : ∀ w', Kept [w.heap.size] w9 w' → w'.cell? ⟨g, off + 2, none⟩ = some (.int .i64 x2) := fun w' k => (k.cell (p := ⟨g, off + 2, none⟩) (World.block_lt_of_cell? w9 _ q2) (by simpa using hgz)).trans q2
    have z0 : w9.cell? ⟨w.heap.size, 0, none⟩ = some (.int .i64 0) := hz9.cell 0
    have z1 : w9.cell? ⟨w.heap.size, 1, none⟩ = some (.int .i64 0) := hz9.cell 1
    have z2 : w9.cell? ⟨w.heap.size, 2, none⟩ = some (.int .i64 0) := hz9.cell 2
    have z3 : w9.cell? ⟨w.heap.size, 3, none⟩ = some (.string ⟨#[]⟩) := hz9.cell 3
    have z4 : w9.cell? ⟨w.heap.size, 4, none⟩ = some (.slice none 0 0) := hz9.cell 4
    have z5 : w9.cell? ⟨w.heap.size, 5, none⟩ = some (.int .i64 0) := hz9.cell 5
    have y0 := hz9.frozen 0
    have y1 := hz9.frozen 1
    have y2 := hz9.frozen 2
    have y3 := hz9.frozen 3
    have y4 := hz9.frozen 4
    have y5 := hz9.frozen 5
    clear hcell q0 q1 q2
    go_upto_region 8 with (fail)
    go_region_held3 (fun w' => Kept [w.heap.size] w9 w') (repeat (first | assumption | (with_reducible exact Kept.refl _ _) | (with_reducible refine Kept.drew ?_) | (with_reducible refine Kept.setCell ?_ (Or.inl (by simp)) _))) (fail)
    rename_i hHeld
    go_wp2
    have hw9 : Kept [] w w9 := hw7.trans hk9
    have o9 := own_kept (own_kept q7 hk9 (by simp)) hHeld (by intro x hx; rw [List.mem_singleton] at hx; subst hx; omega)
    refine bodyPost_ret (v := .tuple #[.agg #[.int .i64 x0, .int .i64 x1, .int .i64 x2, .string ⟨reason.toArray⟩, .slice a4 jurors.length c4, .int .i64 holder], .bool true])
      (by simp [results, Tryz.results17, go_sem, z0, z1, z2, z3, z4, z5]) rfl ⟨_, by rw [HY.out], ?_, ?_⟩
    · rw [HY.out]
      exact openV_mk HI0.out HI1.out HI2.out HI4.out HI3.out HL3 HL4 (Row.of_own o9 (by omega))
    · exact hw9.fresh hHeld (by simp)
  · have hno : readMinutes s = (zeroO, false) := by rw [HQ.out, HD.out, if_neg hyes]
    have HN := Lib.hid hno
    clear hno
    have fin : ∀ w9, Kept [] w7 w9 →
        Kept [] w (((((((w9.setCell ⟨w.heap.size, 0, none⟩ (.int .i64 0)).setCell ⟨w.heap.size, 1, none⟩ (.int .i64 0)).setCell ⟨w.heap.size, 2, none⟩ (.int .i64 0)).setCell ⟨w.heap.size, 3, none⟩ (.string ⟨#[]⟩)).setCell ⟨w.heap.size, 4, none⟩ (.slice none 0 0)).setCell ⟨w.heap.size, 5, none⟩ (.int .i64 0))) := by
      intro w9 hk9
      have hw9 : Kept [] w w9 := hw7.trans hk9
      exact (((((hw9.setCell (Or.inr (by simp)) _).setCell (Or.inr (by simp)) _).setCell (Or.inr (by simp)) _).setCell (Or.inr (by simp)) _).setCell (Or.inr (by simp)) _).setCell (Or.inr (by simp)) _
    have FIN := Lib.hid fin
    clear fin
    have hcase : d = false ∨ (d = true ∧ ((head.length : Int) != 3) = true) := by
      cases d
      · exact Or.inl rfl
      · right
        refine ⟨rfl, ?_⟩
        rw [bne_iff_ne]; intro h; exact hyes ⟨rfl, by omega⟩
    clear hyes
    rcases hcase with rfl | ⟨rfl, hne⟩
    all_goals
      go_wp2_with (go_at_call 68; refine C6.out.mono ?_)
      rintro e w9 ⟨rfl, hk9⟩
      have hz9 := hz7.kept hk9 (by simp)
      have z0 : w9.cell? ⟨w.heap.size, 0, none⟩ = some (.int .i64 0) := hz9.cell 0
      have z1 : w9.cell? ⟨w.heap.size, 1, none⟩ = some (.int .i64 0) := hz9.cell 1
      have z2 : w9.cell? ⟨w.heap.size, 2, none⟩ = some (.int .i64 0) := hz9.cell 2
      have z3 : w9.cell? ⟨w.heap.size, 3, none⟩ = some (.string ⟨#[]⟩) := hz9.cell 3
      have z4 : w9.cell? ⟨w.heap.size, 4, none⟩ = some (.slice none 0 0) := hz9.cell 4
      have z5 : w9.cell? ⟨w.heap.size, 5, none⟩ = some (.int .i64 0) := hz9.cell 5
      have y0 := hz9.frozen 0
      have y1 := hz9.frozen 1
      have y2 := hz9.frozen 2
      have y3 := hz9.frozen 3
      have y4 := hz9.frozen 4
      have y5 := hz9.frozen 5
      go_wp2
      exact bodyPost_ret (v := .tuple #[.agg zerosO, .bool false]) (by simp [results, Tryz.results17, go_sem, z0, z1, z2, z3, z4, z5, zerosO]) rfl
        ⟨_, by rw [HN.out], by rw [HN.out]; exact openV_zero _, FIN.out w9 hk9⟩

theorem rreadMinutes_any (s : List UInt8) (w : World) (hE : Env w) (hs : s.length ≤ 100000000) : Calls Tryz.prog 17 #[.string ⟨s.toArray⟩] w (RM s w) := by
  obtain ⟨head, r1, h1⟩ : ∃ a b, Wire.nums ⟨s, false⟩ = (a, b) := ⟨_, _, rfl⟩
  obtain ⟨reason, r2, h2⟩ : ∃ a b, Wire.text r1 = (a, b) := ⟨_, _, rfl⟩
  obtain ⟨jurors, r3, h3⟩ : ∃ a b, Wire.nums r2 = (a, b) := ⟨_, _, rfl⟩
  obtain ⟨holder, r4, h4⟩ : ∃ a b, Wire.number 59 (-9223372036854775808) r3 = (a, b) := ⟨_, _, rfl⟩
  exact rreadMinutes_walk s reason head jurors holder r1 r2 r3 r4 w hE hs h1 h2 h3 h4
end Go.Proofs.YtpcdfepndmconaaGreatDoor
