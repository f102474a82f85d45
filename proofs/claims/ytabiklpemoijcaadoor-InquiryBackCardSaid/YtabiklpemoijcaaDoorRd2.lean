/- The reader's number. -/
import Derived.Test.YtabiklpemoijcaaDoorRd1
import Derived.Outline
import Derived.Deep.QuietTactic
import Derived.BigQuiet
import Derived.Deep.RegionHeld3
import Derived.Deep.RegionWith
import Derived.Deep.DeepCutAuto
namespace Go.Proofs.YtabiklpemoijcaaDoor
open Go.RowKit

theorem extract_mk (l : List UInt8) (a b : Nat) : (⟨l.toArray⟩ : ByteArray).extract a b = ⟨((l.drop a).take (b - a)).toArray⟩ := by
  rw [Lib.extract_eq]
theorem head_eq (l : List UInt8) : (⟨l.toArray⟩ : ByteArray).extract 0 (min (l.length : Int) 21).toNat = ⟨(l.take 21).toArray⟩ := by
  rw [extract_mk]
  congr 2
  simp only [List.drop_zero, Nat.sub_zero]
  rcases Nat.le_total l.length 21 with h | h
  · rw [show (min (l.length : Int) 21).toNat = l.length from by omega, List.take_of_length_le (Nat.le_refl _), List.take_of_length_le h]
  · rw [show (min (l.length : Int) 21).toNat = 21 from by omega]
theorem pre_eq (l : List UInt8) (k : Nat) : (⟨l.toArray⟩ : ByteArray).extract 0 k = ⟨(l.take k).toArray⟩ := by
  rw [extract_mk]; rfl
theorem post_eq (l : List UInt8) (k : Nat) : (⟨l.toArray⟩ : ByteArray).extract k l.length = ⟨(l.drop k).toArray⟩ := by
  rw [extract_mk, List.take_of_length_le (by simp)]

theorem indexByte_any (l : List UInt8) (e : UInt8) (w : World) :
    Calls Tryd.prog 95 #[.string ⟨l.toArray⟩, .int .u8 (e.toNat : Int)] w fun en w' => en = .returned (.int .i64 (Lib.indexByte l e)) ∧ w = w' :=
  (Tryd.strings_IndexByte ⟨l.toArray⟩ (e.toNat : Int) w).mono fun _ _ ⟨he, hw⟩ => ⟨by rw [he]; simp, hw.symm⟩

set_option maxHeartbeats 400000 in
theorem rd_number_none (b : Nat) (r : Wire.Rd) (e : UInt8) (least : Int) (w : World) (h : RdAt w b r)
    (hs : r.rest.length ≤ 140737488355328)
    (hi : Lib.indexByte (r.rest.take 21) e < 0) :
    Calls Tryd.prog 86 #[.pointer (some ⟨b, 0, none⟩), .int .u8 (e.toNat : Int), .int .i64 least] w fun en w' =>
      en = .returned (.int .i64 0) ∧ RdAt w' b Wire.failed ∧ Kept [b] w w' := by
  have c0 := h.c0
  have c1 := h.c1
  have hx := head_eq r.rest
  go_enter Tryd.func86, Tryd.ntmps86
  go_wp2_with fail
  go_quiet (fail)
  go_wp2_with (first
    | (go_at_call 95; refine (indexByte_any _ _ _).mono ?_; rintro e w' ⟨rfl, rfl⟩)
    | (go_at_call 87; refine (rd_fail b r _ ⟨h.1, h.2.drewN _⟩).mono ?_; rintro e w1 ⟨rfl, hr, hk⟩))
  go_ret
  exact ⟨rfl, hr, ((Kept.refl _ _).drewN nq).trans hk⟩

set_option maxHeartbeats 400000 in
theorem rd_number_bad (b : Nat) (r : Wire.Rd) (e : UInt8) (least : Int) (w : World) (h : RdAt w b r) (hE : Env w)
    (hs : r.rest.length ≤ 140737488355328) (k : Nat)
    (hi : Lib.indexByte (r.rest.take 21) e = k) (hk : k < (r.rest.take 21).length) (ha : ∀ v, Lib.atoiAll ((r.rest.take 21).take k) ≠ .ok v) :
    Calls Tryd.prog 86 #[.pointer (some ⟨b, 0, none⟩), .int .u8 (e.toNat : Int), .int .i64 least] w fun en w' =>
      en = .returned (.int .i64 0) ∧ RdAt w' b Wire.failed ∧ Kept [b] w w' := by
  have c0 := h.c0
  have c1 := h.c1
  have hx := head_eq r.rest
  have hp := pre_eq (r.rest.take 21) k
  have HA := Lib.hid ha
  have hk' : k ≤ min 21 r.rest.length := by rw [List.length_take] at hk; omega
  have h21 : ((r.rest.take 21).take k).length ≤ 1000000 := by rw [List.length_take, List.length_take]; omega
  clear ha
  go_enter Tryd.func86, Tryd.ntmps86
  go_wp2_with fail
  go_quiet (fail)
  go_wp2_with (first
    | (go_at_call 95; refine (indexByte_any _ _ _).mono ?_; rintro e w' ⟨rfl, rfl⟩)
    | (go_at_call 96; refine (atoi_bad ⟨((r.rest.take 21).take k).toArray⟩ _ ?ha1 ?ha2 ?ha3).mono ?_))
  case ha1 => exact h21
  case ha2 => exact HA.out
  case ha3 => exact hE.drewN nq
  rintro e w1 ⟨j, T, N, rfl, hk1⟩
  have h1 : RdAt w1 b r := ⟨h.1, h.2.kept (((Kept.refl [] w).drewN nq).trans hk1) (by simp)⟩
  go_wp2_with fail
  go_quiet (fail)
  go_wp2_with (go_at_call 87; refine (rd_fail b r _ ⟨h1.1, h1.2.drewN _⟩).mono ?_; rintro e w2 ⟨rfl, hr, hk2⟩)
  go_ret
  exact ⟨rfl, hr, (((((Kept.refl [] w).drewN _).trans hk1).drewN nq).mono (by simp)).trans hk2⟩

set_option maxHeartbeats 400000 in
theorem rd_number_ok (b : Nat) (r : Wire.Rd) (e : UInt8) (least : Int) (w : World) (h : RdAt w b r) (hE : Env w)
    (hs : r.rest.length ≤ 140737488355328) (k : Nat) (n : Int)
    (hi : Lib.indexByte (r.rest.take 21) e = k) (hk : k < (r.rest.take 21).length) (ha : Lib.atoiAll ((r.rest.take 21).take k) = .ok n)
    (hq : Lib.itoa n = (r.rest.take 21).take k) (hl : least ≤ n) :
    Calls Tryd.prog 86 #[.pointer (some ⟨b, 0, none⟩), .int .u8 (e.toNat : Int), .int .i64 least] w fun en w' =>
      en = .returned (.int .i64 n) ∧ RdAt w' b ⟨r.rest.drop (k + 1), r.bad⟩ ∧ Kept [b] w w' := by
  have c0 := h.c0
  have c1 := h.c1
  have hx := head_eq r.rest
  have hp := pre_eq (r.rest.take 21) k
  have hpo := post_eq r.rest (k + 1)
  have HA := Lib.hid ha
  have hqb : (Lib.itoa n == (r.rest.take 21).take k) = true := by simp [hq]
  have hlb : decide (n < least) = false := by simp; omega
  have HN := Lib.hid (Lib.atoiAll_bounds ha)
  have hk' : k ≤ min 21 r.rest.length := by rw [List.length_take] at hk; omega
  have hk2 : k < r.rest.length := by rw [List.length_take] at hk; omega
  have h21 : ((r.rest.take 21).take k).length ≤ 1000000 := by rw [List.length_take, List.length_take]; omega
  clear ha hq
  go_enter Tryd.func86, Tryd.ntmps86
  go_wp2_with fail
  go_quiet (fail)
  go_wp2_with (first
    | (go_at_call 95; refine (indexByte_any _ _ _).mono ?_; rintro e w' ⟨rfl, rfl⟩)
    | (go_at_call 96; refine (atoi_ok ⟨((r.rest.take 21).take k).toArray⟩ n _ ?ha1 ?ha2).mono ?_))
  case ha1 => exact h21
  case ha2 => exact HA.out
  rintro e w1 ⟨rfl, hk1⟩
  have h1 : RdAt w1 b r := ⟨h.1, h.2.kept (((Kept.refl [] w).drewN nq).trans hk1) (by simp)⟩
  have hE1 := (hE.drewN nq).kept0 hk1
  go_wp2_with fail
  go_region_held3 (fun _ => True) (trivial) ((go_at_call 90; refine (itoa_any n _ HN.out (by exact hE1.drew)).mono ?_; rintro e w2 ⟨rfl, hk3⟩))
  have h2 : RdAt w2 b r := ⟨h1.1, h1.2.kept ((Kept.refl [] w1).drew.trans hk3) (by simp)⟩
  have d0 := h2.c0
  have g0 := h2.2.frozen 0
  go_wp2
  go_ret
  exact ⟨rfl, h2.set1 _, ((((((Kept.refl [] w).drewN _).trans hk1).drew.trans hk3)).mono (by simp)).setCell (by simp) _⟩

/-- the number is not written as Itoa writes it, or it is too small -/
theorem rd_number_odd (b : Nat) (r : Wire.Rd) (e : UInt8) (least : Int) (w : World) (h : RdAt w b r) (hE : Env w)
    (hs : r.rest.length ≤ 140737488355328) (k : Nat) (n : Int)
    (hi : Lib.indexByte (r.rest.take 21) e = k) (hk : k < (r.rest.take 21).length) (ha : Lib.atoiAll ((r.rest.take 21).take k) = .ok n)
    (hq : ¬ (Lib.itoa n = (r.rest.take 21).take k ∧ least ≤ n)) :
    Calls Tryd.prog 86 #[.pointer (some ⟨b, 0, none⟩), .int .u8 (e.toNat : Int), .int .i64 least] w fun en w' =>
      en = .returned (.int .i64 0) ∧ RdAt w' b Wire.failed ∧ Kept [b] w w' := by
  have c0 := h.c0
  have c1 := h.c1
  have hx := head_eq r.rest
  have hp := pre_eq (r.rest.take 21) k
  have HA := Lib.hid ha
  have HN := Lib.hid (Lib.atoiAll_bounds ha)
  have hk' : k ≤ min 21 r.rest.length := by rw [List.length_take] at hk; omega
  have h21 : ((r.rest.take 21).take k).length ≤ 1000000 := by rw [List.length_take, List.length_take]; omega
  clear ha
  by_cases hq1 : Lib.itoa n = (r.rest.take 21).take k
  · have hqb : (Lib.itoa n == (r.rest.take 21).take k) = true := by simp [hq1]
    have hlb : decide (n < least) = true := by simp; exact Int.not_le.1 fun h => hq ⟨hq1, h⟩
    clear hq hq1
    go_enter Tryd.func86, Tryd.ntmps86
    go_wp2_with fail
    go_quiet (fail)
    go_wp2_with (first
      | (go_at_call 95; refine (indexByte_any _ _ _).mono ?_; rintro e w' ⟨rfl, rfl⟩)
      | (go_at_call 96; refine (atoi_ok ⟨((r.rest.take 21).take k).toArray⟩ n _ ?ha1 ?ha2).mono ?_))
    case ha1 => exact h21
    case ha2 => exact HA.out
    rintro e w1 ⟨rfl, hk1⟩
    have h1 : RdAt w1 b r := ⟨h.1, h.2.kept (((Kept.refl [] w).drewN nq).trans hk1) (by simp)⟩
    have hE1 := (hE.drewN nq).kept0 hk1
    go_wp2_with fail
    go_region_held3 (fun _ => True) (trivial) ((go_at_call 90; refine (itoa_any n _ HN.out (by exact hE1.drew)).mono ?_; rintro e w2 ⟨rfl, hk3⟩))
    have h2 : RdAt w2 b r := ⟨h1.1, h1.2.kept ((Kept.refl [] w1).drew.trans hk3) (by simp)⟩
    go_wp2_with (go_at_call 87; refine (rd_fail b r _ h2).mono ?_; rintro e w3 ⟨rfl, hr, hk4⟩)
    go_ret
    exact ⟨rfl, hr, ((((((Kept.refl [] w).drewN _).trans hk1).drew.trans hk3)).mono (by simp)).trans hk4⟩
  · have hqb : (Lib.itoa n == (r.rest.take 21).take k) = false := by simp [hq1]
    have hqc : (!(Lib.itoa n == (r.rest.take 21).take k)) = true := by simp [hq1]
    clear hq hq1
    go_enter Tryd.func86, Tryd.ntmps86
    go_wp2_with fail
    go_quiet (fail)
    go_wp2_with (first
      | (go_at_call 95; refine (indexByte_any _ _ _).mono ?_; rintro e w' ⟨rfl, rfl⟩)
      | (go_at_call 96; refine (atoi_ok ⟨((r.rest.take 21).take k).toArray⟩ n _ ?ha1 ?ha2).mono ?_))
    case ha1 => exact h21
    case ha2 => exact HA.out
    rintro e w1 ⟨rfl, hk1⟩
    have h1 : RdAt w1 b r := ⟨h.1, h.2.kept (((Kept.refl [] w).drewN nq).trans hk1) (by simp)⟩
    have hE1 := (hE.drewN nq).kept0 hk1
    go_wp2_with fail
    refine wp_region_kept w1 (Kept.refl _ _) (by kernel_rfl) (by kernel_rfl) ?_
    repeat (go_big_quiet_step ((go_at_call 90; exact quiet_kept (itoa_any n _ HN.out (by exact hE1.kept0 (Subtype.property _))))))
    refine wpQuiet_nil ?_
    rintro w2 ⟨⟨_, hk3⟩, rfl⟩
    have h2 : RdAt w2 b r := ⟨h1.1, h1.2.kept hk3 (by simp)⟩
    go_wp2_with (go_at_call 87; refine (rd_fail b r _ h2).mono ?_; rintro e w3 ⟨rfl, hr, hk4⟩)
    go_ret
    exact ⟨rfl, hr, (((((Kept.refl [] w).drewN _).trans hk1).trans hk3).mono (by simp)).trans hk4⟩

/-- NUMBER, at every state -/
theorem rd_number (b : Nat) (r : Wire.Rd) (e : UInt8) (least : Int) (w : World) (h : RdAt w b r) (hE : Env w) (hs : r.rest.length ≤ 140737488355328) :
    Calls Tryd.prog 86 #[.pointer (some ⟨b, 0, none⟩), .int .u8 (e.toNat : Int), .int .i64 least] w fun en w' =>
      en = .returned (.int .i64 (Wire.number e least r).1) ∧ RdAt w' b (Wire.number e least r).2 ∧ Kept [b] w w' := by
  by_cases hi : Lib.indexByte (r.rest.take 21) e < 0
  · have e1 : Wire.number e least r = (0, Wire.failed) := by unfold Wire.number; rw [if_pos hi]
    rw [e1]
    exact rd_number_none b r e least w h hs hi
  · obtain ⟨k, hk⟩ : ∃ k : Nat, Lib.indexByte (r.rest.take 21) e = k := ⟨(Lib.indexByte (r.rest.take 21) e).toNat, by omega⟩
    obtain ⟨t, ht, hlt⟩ := Wire.indexByte_some (r.rest.take 21) e (by omega)
    rw [hk, Int.toNat_natCast] at hlt
    cases ha : Lib.atoiAll ((r.rest.take 21).take k) with
    | ok n =>
      by_cases hq : Lib.itoa n = (r.rest.take 21).take k ∧ least ≤ n
      · have e1 : Wire.number e least r = (n, ⟨r.rest.drop (k + 1), r.bad⟩) := by
          unfold Wire.number
          rw [if_neg hi, hk, Int.toNat_natCast, ha]
          simp only
          rw [if_pos hq]
        rw [e1]
        exact rd_number_ok b r e least w h hE hs k n hk hlt ha hq.1 hq.2
      · have e1 : Wire.number e least r = (0, Wire.failed) := by
          unfold Wire.number
          rw [if_neg hi, hk, Int.toNat_natCast, ha]
          simp only
          rw [if_neg hq]
        rw [e1]
        exact rd_number_odd b r e least w h hE hs k n hk hlt ha hq
    | _ =>
      have e1 : Wire.number e least r = (0, Wire.failed) := by unfold Wire.number; rw [if_neg hi, hk, Int.toNat_natCast, ha]
      rw [e1]
      exact rd_number_bad b r e least w h hE hs k hk hlt (by rw [ha]; intro v hv; cases hv)
end Go.Proofs.YtabiklpemoijcaaDoor
