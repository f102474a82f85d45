/- The examples of the documentation hold: less. -/
import Derived.Test.YtabiklpemoijcaaGreatDoorOpn
import Derived.Test.YtabiklpemoijcaaGreatDoorPts
import Derived.Test.YtabiklpemoijcaaGreatDoorSameR
namespace Go.Proofs.YtabiklpemoijcaaGreatDoor
open Go.RowKit

theorem openRes1 : openRes 1 = .tuple #[.int .i64 0, .int .i64 0, .int .i64 18] := rfl
theorem openRes2 : openRes 2 = .tuple #[.int .i64 3, .int .i64 2, .int .i64 0] := rfl
theorem wit39 : witN 11 5 [3, 9] = 3 := by decide
theorem wit15 : mulN 11 (3 : Int) ((witN 11 5 [1, 5] : Nat) : Int) = 0 := by decide

set_option maxRecDepth 100000 in
set_option maxHeartbeats 8000000 in
theorem less_any (w : World) : Calls Tryz.prog 39 #[] w (Ret (.bool true) w) := by
  obtain ⟨W, hW⟩ : ∃ W, (w.alloc (.cells #[.int .i64 16, .int .i64 18] 3)).alloc (.cells #[.int .i64 23, .int .i64 11, .int .i64 4, .slice (some ⟨w.heap.size, 0, none⟩) 2 2, .int .i64 12] 26) = W := ⟨_, rfl⟩
  have hkW : Kept [] w W := hW ▸ ((Kept.refl _ _).alloc _).alloc _
  have b0 : Blk W w.heap.size 3 #[.int .i64 16, .int .i64 18] := hW ▸ (Blk.new w 3 #[.int .i64 16, .int .i64 18]).alloc _
  have b1 : Blk W (w.heap.size + 1) 26 #[.int .i64 23, .int .i64 11, .int .i64 4, .slice (some ⟨w.heap.size, 0, none⟩) 2 2, .int .i64 12] := by
    have := Blk.new (w.alloc (.cells #[.int .i64 16, .int .i64 18] 3)) 26 #[.int .i64 23, .int .i64 11, .int .i64 4, .slice (some ⟨w.heap.size, 0, none⟩) 2 2, .int .i64 12]
    rw [hW, World.size_alloc] at this
    exact this
  have SV : Hid (SetV W (.agg #[.int .i64 23, .int .i64 11, .int .i64 4, .slice (some ⟨w.heap.size, 0, none⟩) 2 2, .int .i64 12])) := ⟨some ⟨w.heap.size, 0, none⟩, 2, rfl, row_of_blk (cs := ints [16, 18]) b0 rfl (by omega)⟩
  have K : Hid (∀ w', Kept [] W w' → w'.cell? ⟨w.heap.size + 1, 0, none⟩ = some (.int .i64 23) ∧ w'.cell? ⟨w.heap.size + 1, 1, none⟩ = some (.int .i64 11) ∧ w'.cell? ⟨w.heap.size + 1, 2, none⟩ = some (.int .i64 4) ∧ w'.cell? ⟨w.heap.size + 1, 3, none⟩ = some (.slice (some ⟨w.heap.size, 0, none⟩) 2 2) ∧ w'.cell? ⟨w.heap.size + 1, 4, none⟩ = some (.int .i64 12)) :=
    fun w' k => ⟨(b1.kept k (by simp)).cell 0, (b1.kept k (by simp)).cell 1, (b1.kept k (by simp)).cell 2, (b1.kept k (by simp)).cell 3, (b1.kept k (by simp)).cell 4⟩
  have HW : Hid ((w.alloc (.cells #[.int .i64 16, .int .i64 18] 3)).alloc (.cells #[.int .i64 23, .int .i64 11, .int .i64 4, .slice (some ⟨w.heap.size, 0, none⟩) 2 2, .int .i64 12] 26) = W) := hW
  have HD : Hid (Calls Tryz.prog 30 #[.agg #[.int .i64 23, .int .i64 11, .int .i64 4, .slice (some ⟨w.heap.size, 0, none⟩) 2 2, .int .i64 12], .int .i64 3, .int .i64 2, .slice (some ⟨W.heap.size, 0, none⟩) 1 1, .slice (some ⟨W.heap.size + 1, 0, none⟩) 1 1, .int .i64 2] ((W.alloc (.cells #[.int .i64 5] 3)).alloc (.cells #[.int .i64 1] 3)) (DealP ((W.alloc (.cells #[.int .i64 5] 3)).alloc (.cells #[.int .i64 1] 3)))) :=
    deal_x _ _ _ _ (SV.out.kept (((Kept.refl _ _).alloc _).alloc _)) ((Row.lit W [5] (by simp)).kept ((Kept.refl _ _).alloc _)) (by have := Row.lit (W.alloc (.cells #[.int .i64 5] 3)) [1] (by simp); rw [World.size_alloc] at this; exact this)
  clear hW b0 b1
  go_enter Tryz.func39, Tryz.ntmps39
  go_upto_region 2 with (fail)
  rw [HW.out]
  obtain ⟨e0, e1, e2, e3, e4⟩ := K.out W (Kept.refl _ _)
  go_wp2_with (go_at_call 30; refine HD.out.mono ?_)
  rintro e w1 ⟨ve, vp, rfl, hve, hvp, hk1⟩
  clear e0 e1 e2 e3 e4
  obtain ⟨ae, ce, rfl, _, _⟩ := hve.form
  obtain ⟨ap, cp, rfl, _, _⟩ := hvp.form
  obtain ⟨bp, op, rfl, hcp⟩ := hvp.at_ (by omega)
  have hcap := hvp.cap
  have icap : (1 : Int) ≤ (cp : Int) := by omega
  have hkW1 : Kept [] W w1 := (((Kept.refl _ _).alloc _).alloc _).trans hk1
  have HVE := Lib.hid hve
  have HVP := Lib.hid hvp
  have HCP := Lib.hid hcp
  have HS : Hid (Calls Tryz.prog 49 #[.slice ae 1 ce, .slice (some ⟨w1.heap.size, 0, none⟩) 1 1] (w1.alloc (.cells #[.int .i64 6] 3)) fun e w' => e = .returned (.bool true) ∧ Kept [] (w1.alloc (.cells #[.int .i64 6] 3)) w') :=
    sameInts_eq (l := [6]) (hve.kept ((Kept.refl _ _).alloc _)) (Row.lit w1 [6] (by simp))
  clear hve hvp hcp
  go_wp2_with (go_at_call 49; refine HS.out.mono ?_)
  rintro e w2 ⟨rfl, hk2⟩
  have hk12 : Kept [] w1 w2 := ((Kept.refl _ _).alloc _).trans hk2
  have HPT : Hid (Calls Tryz.prog 50 #[.slice (some ⟨bp, op, none⟩) 2 cp, .slice (some ⟨w2.heap.size, 0, none⟩) 2 2] (w2.alloc (.cells #[.int .i64 1, .int .i64 8, .int .i64 3, .int .i64 2, .int .i64 2, .int .i64 4] 71)) fun e w' => e = .returned (.bool true) ∧ Kept [] (w2.alloc (.cells #[.int .i64 1, .int .i64 8, .int .i64 3, .int .i64 2, .int .i64 2, .int .i64 4] 71)) w') :=
    samePoints_any _ _ 2 2 [1, 8, 3, 2, 2, 4] [1, 8, 3, 2, 2, 4] _ ((HVP.out.kept hk12).kept ((Kept.refl _ _).alloc _)) (row_of_blk (cs := ints [1, 8, 3, 2, 2, 4]) (Blk.new w2 71 (ints [1, 8, 3, 2, 2, 4]).toArray) rfl (by omega))
  go_wp2_with (go_at_call 50; refine HPT.out.mono ?_)
  rintro e w3 ⟨rfl, hk3⟩
  have hk13 : Kept [] w1 w3 := hk12.trans (((Kept.refl _ _).alloc _).trans hk3)
  have OP : Hid (∀ n, n = 1 ∨ n = 2 → ∀ w', Kept [] w1 w' → Calls Tryz.prog 38 #[.agg #[.int .i64 23, .int .i64 11, .int .i64 4, .slice (some ⟨w.heap.size, 0, none⟩) 2 2, .int .i64 12], .int .i64 16, .slice ae 1 ce, .slice (some ⟨bp, op, none⟩) n cp] w' (Ends (openRes n) w')) :=
    fun n hn w' k => open_x n hn _ _ bp op cp w' (SV.out.kept (hkW1.trans k)) (HVE.out.kept k) (by omega) (fun j hj => by
      have hc := fun i v h => Kept.cellOf (HCP.out i v h) w' k
      rcases (by omega : j = 0 ∨ j = 1) with rfl | rfl
      · exact ⟨hc 0 _ rfl, hc 1 _ rfl, hc 2 _ rfl⟩
      · exact ⟨hc 3 _ rfl, hc 4 _ rfl, hc 5 _ rfl⟩)
  have O2 := Lib.hid (OP.out 2 (Or.inr rfl) w3 hk13)
  rw [openRes2] at O2
  obtain ⟨e0, e1, e2, e3, e4⟩ := K.out w3 (hkW1.trans hk13)
  go_wp2_with (go_at_call 38; refine O2.out.mono ?_)
  rintro e w4 ⟨rfl, hk4⟩
  clear e0 e1 e2 e3 e4
  have hk14 := hk13.trans hk4
  have O1 : Hid (∀ w', Kept [] w4 w' → Calls Tryz.prog 38 #[.agg #[.int .i64 23, .int .i64 11, .int .i64 4, .slice (some ⟨w.heap.size, 0, none⟩) 2 2, .int .i64 12], .int .i64 16, .slice ae 1 ce, .slice (some ⟨bp, op, none⟩) 1 cp] w' fun e w2 => e = .returned (.tuple #[.int .i64 0, .int .i64 0, .int .i64 18]) ∧ Kept [] w' w2) := fun w' k => by
    have := OP.out 1 (Or.inl rfl) w' (hk14.trans k)
    rw [openRes1] at this
    exact this
  have q0 : ∀ w', Kept [] w4 w' → w'.cell? ⟨w.heap.size + 1, 0, none⟩ = some (.int .i64 23) := fun w' k => (K.out w' (hkW1.trans (hk14.trans k))).1
  have q1 : ∀ w', Kept [] w4 w' → w'.cell? ⟨w.heap.size + 1, 1, none⟩ = some (.int .i64 11) := fun w' k => (K.out w' (hkW1.trans (hk14.trans k))).2.1
  have q2 : ∀ w', Kept [] w4 w' → w'.cell? ⟨w.heap.size + 1, 2, none⟩ = some (.int .i64 4) := fun w' k => (K.out w' (hkW1.trans (hk14.trans k))).2.2.1
  have q3 : ∀ w', Kept [] w4 w' → w'.cell? ⟨w.heap.size + 1, 3, none⟩ = some (.slice (some ⟨w.heap.size, 0, none⟩) 2 2) := fun w' k => (K.out w' (hkW1.trans (hk14.trans k))).2.2.2.1
  have q4 : ∀ w', Kept [] w4 w' → w'.cell? ⟨w.heap.size + 1, 4, none⟩ = some (.int .i64 12) := fun w' k => (K.out w' (hkW1.trans (hk14.trans k))).2.2.2.2
  go_upto_region 6 with (fail)
  go_region_held3 (fun w' => Kept [] w4 w') (repeat (first | (with_reducible assumption) | (with_reducible exact Kept.refl _ _) | (with_reducible refine Kept.drew ?_)))
    (first
      | ((go_at_call 38; refine (kept_from (W := w4) (by assumption) (O1.out _ (by assumption))).mono ?_; rintro e w5 ⟨rfl, hk5⟩)))
  rename_i hHeld
  clear hHeld q0 q1 q2 q3 q4
  have hk15 := hk14.trans hk5
  have HWT : Hid (Calls Tryz.prog 44 #[.int .i64 11, .int .i64 5, .slice (some ⟨w5.heap.size, 0, none⟩) 2 2] (w5.alloc (.cells #[.int .i64 3, .int .i64 9] 3)) fun e w' => e = .returned (.int .i64 3) ∧ Kept [] (w5.alloc (.cells #[.int .i64 3, .int .i64 9] 3)) w') := by
    have := witness_any 11 5 _ [3, 9] _ (by omega) (by omega) ⟨by omega, by omega⟩ (Row.lit w5 [3, 9] (by simp)) (by intro x hx; simp at hx; rcases hx with rfl | rfl <;> exact ⟨by omega, by omega⟩)
    rw [wit39] at this
    exact this
  go_upto_region 8 with (go_at_call 44; refine HWT.out.mono ?_; rintro e w6 ⟨rfl, hk6⟩)
  have hk16 : Kept [] w1 w6 := hk15.trans (((Kept.refl _ _).alloc _).trans hk6)
  have hkW6 := hkW1.trans hk16
  have p0 : ∀ w', Kept [] w6 w' → w'.cell? ⟨bp, op, none⟩ = some (.int .i64 1) := fun w' k => Kept.cellOf (HCP.out 0 _ rfl) w' (hk16.trans k)
  have p1 : ∀ w', Kept [] w6 w' → w'.cell? ⟨bp, op + 1, none⟩ = some (.int .i64 8) := fun w' k => Kept.cellOf (HCP.out 1 _ rfl) w' (hk16.trans k)
  have p2 : ∀ w', Kept [] w6 w' → w'.cell? ⟨bp, op + 2, none⟩ = some (.int .i64 3) := fun w' k => Kept.cellOf (HCP.out 2 _ rfl) w' (hk16.trans k)
  have q0 : ∀ w', Kept [] w6 w' → w'.cell? ⟨w.heap.size + 1, 0, none⟩ = some (.int .i64 23) := fun w' k => (K.out w' (hkW6.trans k)).1
  have q1 : ∀ w', Kept [] w6 w' → w'.cell? ⟨w.heap.size + 1, 1, none⟩ = some (.int .i64 11) := fun w' k => (K.out w' (hkW6.trans k)).2.1
  have q2 : ∀ w', Kept [] w6 w' → w'.cell? ⟨w.heap.size + 1, 2, none⟩ = some (.int .i64 4) := fun w' k => (K.out w' (hkW6.trans k)).2.2.1
  have q3 : ∀ w', Kept [] w6 w' → w'.cell? ⟨w.heap.size + 1, 3, none⟩ = some (.slice (some ⟨w.heap.size, 0, none⟩) 2 2) := fun w' k => (K.out w' (hkW6.trans k)).2.2.2.1
  have q4 : ∀ w', Kept [] w6 w' → w'.cell? ⟨w.heap.size + 1, 4, none⟩ = some (.int .i64 12) := fun w' k => (K.out w' (hkW6.trans k)).2.2.2.2
  have CH : Hid (∀ w', Kept [] w6 w' → Calls Tryz.prog 51 #[.agg #[.int .i64 23, .int .i64 11, .int .i64 4, .slice (some ⟨w.heap.size, 0, none⟩) 2 2, .int .i64 12], .int .i64 16, .slice ae 1 ce, .agg #[.int .i64 1, .int .i64 8, .int .i64 3]] w' fun e w2 => e = .returned (.bool true) ∧ Kept [] w' w2) :=
    fun w' k => check_x _ _ 1 8 3 w' (SV.out.kept (hkW6.trans k)) (HVE.out.kept (hk16.trans k)) (by omega) (by omega) (by omega) (by omega) (by decide)
  have UP : Hid (∀ v w', Row w' 1 v 2 (ints [1, 5]) → Calls Tryz.prog 46 #[.int .i64 11, .int .i64 3, .int .i64 5, v] w' fun e w2 => e = .returned (.int .i64 0) ∧ Kept [] w' w2) := fun v w' h => by
    have := update_any 11 3 5 v [1, 5] w' (by omega) (by omega) ⟨by omega, by omega⟩ ⟨by omega, by omega⟩ h (by intro x hx; simp at hx; rcases hx with rfl | rfl <;> exact ⟨by omega, by omega⟩)
    rw [wit15] at this
    exact this
  clear icap hcap
  go_region_held3 (fun w' => Kept [] w6 w') (repeat (first | (with_reducible assumption) | (with_reducible exact Kept.refl _ _) | (with_reducible refine Kept.drew ?_) | (with_reducible refine Kept.alloc ?_ _)))
    (first
      | ((go_at_call_of 42 (Value.int IntKind.i64 1); refine (width_1 _).mono ?_; rintro e w' ⟨rfl, rfl⟩))
      | ((go_at_call_of 42 (Value.int IntKind.i64 2); refine (width_2 _).mono ?_; rintro e w' ⟨rfl, rfl⟩))
      | ((go_at_call_of 42 (Value.int IntKind.i64 65535); refine (width_65535 _).mono ?_; rintro e w' ⟨rfl, rfl⟩))
      | ((go_at_call 51; refine (kept_from (W := w6) (by assumption) (CH.out _ (by assumption))).mono ?_; rintro e w7 ⟨rfl, hk7⟩))
      | ((go_at_call 46; refine (UP.out _ _ (Row.lit _ [1, 5] (by simp))).mono ?_; rintro e w8 ⟨rfl, hk8⟩; have ht8 : Kept [] w6 w8 := Kept.trans (by (repeat (first | (with_reducible assumption) | (with_reducible exact Kept.refl _ _) | (with_reducible refine Kept.drew ?_) | (with_reducible refine Kept.alloc ?_ _)))) hk8)))
  rename_i hHeld
  go_wp2_with fail
  go_ret
  exact ⟨rfl, hkW.trans (hkW6.trans hHeld)⟩
end Go.Proofs.YtabiklpemoijcaaGreatDoor
