/- The reader's lists: items[int], Nums. -/
import Derived.Test.YtcidfldeiklcjaaGreatDoorEnv
import Derived.Outline
import Derived.Deep.QuietTactic
import Derived.BigQuiet
import Derived.Deep.RegionHeld3
import Derived.Deep.RegionWith
import Derived.Deep.DeepCutAuto
import Derived.LoopTactic
/- JOINED: Rd1 Rd2 Rd3 Rd4 -/
/- The reader's small methods: fail, close. -/
namespace Go.Proofs.YtcidfldeiklcjaaGreatDoor
open Go.RowKit

def RdAt (w : World) (b : Nat) (r : Wire.Rd) : Prop := NG ≤ b ∧ Blk w b 202 #[.string ⟨r.rest.toArray⟩, .bool r.bad]

theorem RdAt.set2 {w : World} {b : Nat} {r : Wire.Rd} (h : RdAt w b r) (s : List UInt8) (bd : Bool) :
    RdAt ((w.setCell ⟨b, 0, none⟩ (.string ⟨s.toArray⟩)).setCell ⟨b, 1, none⟩ (.bool bd)) b ⟨s, bd⟩ :=
  ⟨h.1, by simpa using (h.2.set_ 0 (.string ⟨s.toArray⟩)).set_ 1 (.bool bd)⟩
theorem RdAt.set1 {w : World} {b : Nat} {r : Wire.Rd} (h : RdAt w b r) (s : List UInt8) :
    RdAt (w.setCell ⟨b, 0, none⟩ (.string ⟨s.toArray⟩)) b ⟨s, r.bad⟩ :=
  ⟨h.1, by simpa using h.2.set_ 0 (.string ⟨s.toArray⟩)⟩
theorem RdAt.c0 {w : World} {b : Nat} {r : Wire.Rd} (h : RdAt w b r) : w.cell? ⟨b, 0, none⟩ = some (.string ⟨r.rest.toArray⟩) := by simpa using h.2.cell 0
theorem RdAt.c1 {w : World} {b : Nat} {r : Wire.Rd} (h : RdAt w b r) : w.cell? ⟨b, 1, none⟩ = some (.bool r.bad) := by simpa using h.2.cell 1

set_option maxHeartbeats 400000 in
theorem rd_fail (b : Nat) (r : Wire.Rd) (w : World) (h : RdAt w b r) :
    Calls Tryz.prog 172 #[.pointer (some ⟨b, 0, none⟩)] w fun e w' => e = .returned (.tuple #[]) ∧ RdAt w' b Wire.failed ∧ Kept [b] w w' := by
  have c0 := h.c0
  have c1 := h.c1
  have f0 := h.2.frozen 0
  have f1 := h.2.frozen 1
  go_enter Tryz.func172, Tryz.ntmps172
  go_wp2
  go_end0
  exact ⟨rfl, h.set2 [] true, (((Kept.refl _ _).setCell (by simp) _).setCell (by simp) _)⟩

theorem trimPrefix_yes {s e : List UInt8} (h : Lib.hasPrefix s e = true) : Lib.trimPrefix s e = s.drop e.length := by
  unfold Lib.trimPrefix; rw [if_pos h]

set_option maxHeartbeats 400000 in
theorem rd_close (b : Nat) (r : Wire.Rd) (e : List UInt8) (w : World) (h : RdAt w b r) :
    Calls Tryz.prog 173 #[.pointer (some ⟨b, 0, none⟩), .string ⟨e.toArray⟩] w fun en w' =>
      en = .returned (.tuple #[]) ∧ RdAt w' b (Wire.close e r) ∧ Kept [b] w w' := by
  have c0 := h.c0
  have c1 := h.c1
  have f0 := h.2.frozen 0
  have f1 := h.2.frozen 1
  by_cases hp : Lib.hasPrefix r.rest e = true
  · have e1 : Wire.close e r = ⟨r.rest.drop e.length, r.bad⟩ := by unfold Wire.close; rw [if_pos hp]
    have H1 := Lib.hid e1
    have H2 := Lib.hid (trimPrefix_yes hp)
    clear e1
    go_enter Tryz.func173, Tryz.ntmps173
    go_wp2_with (go_at_call 211; refine (Tryz.strings_CutPrefix _ _ _).mono ?_; rintro e w' ⟨rfl, rfl⟩)
    go_end0
    rw [H1.out, H2.out]
    exact ⟨rfl, h.set1 _, ((Kept.refl _ _).setCell (by simp) _)⟩
  · have hp' : Lib.hasPrefix r.rest e = false := by simpa using hp
    have e1 : Wire.close e r = Wire.failed := by unfold Wire.close; rw [if_neg hp]
    have H1 := Lib.hid e1
    clear e1 hp
    go_enter Tryz.func173, Tryz.ntmps173
    go_wp2_with (first
      | (go_at_call 211; refine (Tryz.strings_CutPrefix _ _ _).mono ?_; rintro e w' ⟨rfl, rfl⟩)
      | (go_at_call 172; refine (rd_fail b ⟨_, _⟩ _ (h.set1 _)).mono ?_; rintro e w1 ⟨rfl, hr, hk⟩))
    go_end0
    rw [H1.out]
    exact ⟨rfl, hr, ((Kept.refl _ _).setCell (by simp) _).trans hk⟩
end Go.Proofs.YtcidfldeiklcjaaGreatDoor
/- The reader's number. -/
namespace Go.Proofs.YtcidfldeiklcjaaGreatDoor
open Go.RowKit

theorem extract_mk (l : List UInt8) (a b : Nat) : (⟨l.toArray⟩ : ByteArray).extract a b = ⟨((l.drop a).take (b - a)).toArray⟩ := by
  rw [Lib.extract_eq]
theorem head_eq (l : List UInt8) : (⟨l.toArray⟩ : ByteArray).extract 0 (min (l.length : Int) 21).toNat = ⟨(l.take 21).toArray⟩ := by
  rw [extract_mk]
  congr 2
  simp only [List.drop_zero, Nat.sub_zero]
  rcases Nat.le_total l.length 21 with h | h
  · rw [show (min (l.length : Int) 21).toNat = l.length from by omega, List.take_of_length_le (Nat.le_refl _), List.take_of_length_le h]
  · rw [show (min (l.length : Int) 21).toNat = 21 from by omega]
theorem pre_eq (l : List UInt8) (k : Nat) : (⟨l.toArray⟩ : ByteArray).extract 0 k = ⟨(l.take k).toArray⟩ := by
  rw [extract_mk]; rfl
theorem post_eq (l : List UInt8) (k : Nat) : (⟨l.toArray⟩ : ByteArray).extract k l.length = ⟨(l.drop k).toArray⟩ := by
  rw [extract_mk, List.take_of_length_le (by simp)]

theorem indexByte_any (l : List UInt8) (e : UInt8) (w : World) :
    Calls Tryz.prog 209 #[.string ⟨l.toArray⟩, .int .u8 (e.toNat : Int)] w fun en w' => en = .returned (.int .i64 (Lib.indexByte l e)) ∧ w = w' :=
  (Tryz.strings_IndexByte ⟨l.toArray⟩ (e.toNat : Int) w).mono fun _ _ ⟨he, hw⟩ => ⟨by rw [he]; simp, hw.symm⟩

set_option maxHeartbeats 400000 in
theorem rd_number_none (b : Nat) (r : Wire.Rd) (e : UInt8) (least : Int) (w : World) (h : RdAt w b r)
    (hs : r.rest.length ≤ 140737488355328)
    (hi : Lib.indexByte (r.rest.take 21) e < 0) :
    Calls Tryz.prog 171 #[.pointer (some ⟨b, 0, none⟩), .int .u8 (e.toNat : Int), .int .i64 least] w fun en w' =>
      en = .returned (.int .i64 0) ∧ RdAt w' b Wire.failed ∧ Kept [b] w w' := by
  have c0 := h.c0
  have c1 := h.c1
  have hx := head_eq r.rest
  go_enter Tryz.func171, Tryz.ntmps171
  go_wp2_with fail
  go_quiet (fail)
  go_wp2_with (first
    | (go_at_call 209; refine (indexByte_any _ _ _).mono ?_; rintro e w' ⟨rfl, rfl⟩)
    | (go_at_call 172; refine (rd_fail b r _ ⟨h.1, h.2.drewN _⟩).mono ?_; rintro e w1 ⟨rfl, hr, hk⟩))
  go_ret
  exact ⟨rfl, hr, ((Kept.refl _ _).drewN nq).trans hk⟩

set_option maxHeartbeats 400000 in
theorem rd_number_bad (b : Nat) (r : Wire.Rd) (e : UInt8) (least : Int) (w : World) (h : RdAt w b r) (hE : Env w)
    (hs : r.rest.length ≤ 140737488355328) (k : Nat)
    (hi : Lib.indexByte (r.rest.take 21) e = k) (hk : k < (r.rest.take 21).length) (ha : ∀ v, Lib.atoiAll ((r.rest.take 21).take k) ≠ .ok v) :
    Calls Tryz.prog 171 #[.pointer (some ⟨b, 0, none⟩), .int .u8 (e.toNat : Int), .int .i64 least] w fun en w' =>
      en = .returned (.int .i64 0) ∧ RdAt w' b Wire.failed ∧ Kept [b] w w' := by
  have c0 := h.c0
  have c1 := h.c1
  have hx := head_eq r.rest
  have hp := pre_eq (r.rest.take 21) k
  have HA := Lib.hid ha
  have hk' : k ≤ min 21 r.rest.length := by rw [List.length_take] at hk; omega
  have h21 : ((r.rest.take 21).take k).length ≤ 100000000 := by rw [List.length_take, List.length_take]; omega
  clear ha
  go_enter Tryz.func171, Tryz.ntmps171
  go_wp2_with fail
  go_quiet (fail)
  go_wp2_with (first
    | (go_at_call 209; refine (indexByte_any _ _ _).mono ?_; rintro e w' ⟨rfl, rfl⟩)
    | (go_at_call 210; refine (atoi_bad ⟨((r.rest.take 21).take k).toArray⟩ _ ?ha1 ?ha2 ?ha3).mono ?_))
  case ha1 => exact h21
  case ha2 => exact HA.out
  case ha3 => exact hE.drewN nq
  rintro e w1 ⟨j, T, N, rfl, hk1⟩
  have h1 : RdAt w1 b r := ⟨h.1, h.2.kept (((Kept.refl [] w).drewN nq).trans hk1) (by simp)⟩
  go_wp2_with fail
  go_quiet (fail)
  go_wp2_with (go_at_call 172; refine (rd_fail b r _ ⟨h1.1, h1.2.drewN _⟩).mono ?_; rintro e w2 ⟨rfl, hr, hk2⟩)
  go_ret
  exact ⟨rfl, hr, (((((Kept.refl [] w).drewN _).trans hk1).drewN nq).mono (by simp)).trans hk2⟩

set_option maxHeartbeats 400000 in
theorem rd_number_ok (b : Nat) (r : Wire.Rd) (e : UInt8) (least : Int) (w : World) (h : RdAt w b r) (hE : Env w)
    (hs : r.rest.length ≤ 140737488355328) (k : Nat) (n : Int)
    (hi : Lib.indexByte (r.rest.take 21) e = k) (hk : k < (r.rest.take 21).length) (ha : Lib.atoiAll ((r.rest.take 21).take k) = .ok n)
    (hq : Lib.itoa n = (r.rest.take 21).take k) (hl : least ≤ n) :
    Calls Tryz.prog 171 #[.pointer (some ⟨b, 0, none⟩), .int .u8 (e.toNat : Int), .int .i64 least] w fun en w' =>
      en = .returned (.int .i64 n) ∧ RdAt w' b ⟨r.rest.drop (k + 1), r.bad⟩ ∧ Kept [b] w w' := by
  have c0 := h.c0
  have c1 := h.c1
  have hx := head_eq r.rest
  have hp := pre_eq (r.rest.take 21) k
  have hpo := post_eq r.rest (k + 1)
  have HA := Lib.hid ha
  have hqb : (Lib.itoa n == (r.rest.take 21).take k) = true := by simp [hq]
  have hlb : decide (n < least) = false := by simp; omega
  have HN := Lib.hid (Lib.atoiAll_bounds ha)
  have hk' : k ≤ min 21 r.rest.length := by rw [List.length_take] at hk; omega
  have hk2 : k < r.rest.length := by rw [List.length_take] at hk; omega
  have h21 : ((r.rest.take 21).take k).length ≤ 100000000 := by rw [List.length_take, List.length_take]; omega
  clear ha hq
  go_enter Tryz.func171, Tryz.ntmps171
  go_wp2_with fail
  go_quiet (fail)
  go_wp2_with (first
    | (go_at_call 209; refine (indexByte_any _ _ _).mono ?_; rintro e w' ⟨rfl, rfl⟩)
    | (go_at_call 210; refine (atoi_ok ⟨((r.rest.take 21).take k).toArray⟩ n _ ?ha1 ?ha2).mono ?_))
  case ha1 => exact h21
  case ha2 => exact HA.out
  rintro e w1 ⟨rfl, hk1⟩
  have h1 : RdAt w1 b r := ⟨h.1, h.2.kept (((Kept.refl [] w).drewN nq).trans hk1) (by simp)⟩
  have hE1 := (hE.drewN nq).kept0 hk1
  go_wp2_with fail
  go_region_held3 (fun _ => True) (trivial) ((go_at_call 139; refine (itoa_any n _ HN.out (by exact hE1.drew)).mono ?_; rintro e w2 ⟨rfl, hk3⟩))
  have h2 : RdAt w2 b r := ⟨h1.1, h1.2.kept ((Kept.refl [] w1).drew.trans hk3) (by simp)⟩
  have d0 := h2.c0
  have g0 := h2.2.frozen 0
  go_wp2
  go_ret
  exact ⟨rfl, h2.set1 _, ((((((Kept.refl [] w).drewN _).trans hk1).drew.trans hk3)).mono (by simp)).setCell (by simp) _⟩

/-- the number is not written as Itoa writes it, or it is too small -/
theorem rd_number_odd (b : Nat) (r : Wire.Rd) (e : UInt8) (least : Int) (w : World) (h : RdAt w b r) (hE : Env w)
    (hs : r.rest.length ≤ 140737488355328) (k : Nat) (n : Int)
    (hi : Lib.indexByte (r.rest.take 21) e = k) (hk : k < (r.rest.take 21).length) (ha : Lib.atoiAll ((r.rest.take 21).take k) = .ok n)
    (hq : ¬ (Lib.itoa n = (r.rest.take 21).take k ∧ least ≤ n)) :
    Calls Tryz.prog 171 #[.pointer (some ⟨b, 0, none⟩), .int .u8 (e.toNat : Int), .int .i64 least] w fun en w' =>
      en = .returned (.int .i64 0) ∧ RdAt w' b Wire.failed ∧ Kept [b] w w' := by
  have c0 := h.c0
  have c1 := h.c1
  have hx := head_eq r.rest
  have hp := pre_eq (r.rest.take 21) k
  have HA := Lib.hid ha
  have HN := Lib.hid (Lib.atoiAll_bounds ha)
  have hk' : k ≤ min 21 r.rest.length := by rw [List.length_take] at hk; omega
  have h21 : ((r.rest.take 21).take k).length ≤ 100000000 := by rw [List.length_take, List.length_take]; omega
  clear ha
  by_cases hq1 : Lib.itoa n = (r.rest.take 21).take k
  · have hqb : (Lib.itoa n == (r.rest.take 21).take k) = true := by simp [hq1]
    have hlb : decide (n < least) = true := by simp; exact Int.not_le.1 fun h => hq ⟨hq1, h⟩
    clear hq hq1
    go_enter Tryz.func171, Tryz.ntmps171
    go_wp2_with fail
    go_quiet (fail)
    go_wp2_with (first
      | (go_at_call 209; refine (indexByte_any _ _ _).mono ?_; rintro e w' ⟨rfl, rfl⟩)
      | (go_at_call 210; refine (atoi_ok ⟨((r.rest.take 21).take k).toArray⟩ n _ ?ha1 ?ha2).mono ?_))
    case ha1 => exact h21
    case ha2 => exact HA.out
    rintro e w1 ⟨rfl, hk1⟩
    have h1 : RdAt w1 b r := ⟨h.1, h.2.kept (((Kept.refl [] w).drewN nq).trans hk1) (by simp)⟩
    have hE1 := (hE.drewN nq).kept0 hk1
    go_wp2_with fail
    go_region_held3 (fun _ => True) (trivial) ((go_at_call 139; refine (itoa_any n _ HN.out (by exact hE1.drew)).mono ?_; rintro e w2 ⟨rfl, hk3⟩))
    have h2 : RdAt w2 b r := ⟨h1.1, h1.2.kept ((Kept.refl [] w1).drew.trans hk3) (by simp)⟩
    go_wp2_with (go_at_call 172; refine (rd_fail b r _ h2).mono ?_; rintro e w3 ⟨rfl, hr, hk4⟩)
    go_ret
    exact ⟨rfl, hr, ((((((Kept.refl [] w).drewN _).trans hk1).drew.trans hk3)).mono (by simp)).trans hk4⟩
  · have hqb : (Lib.itoa n == (r.rest.take 21).take k) = false := by simp [hq1]
    have hqc : (!(Lib.itoa n == (r.rest.take 21).take k)) = true := by simp [hq1]
    clear hq hq1
    go_enter Tryz.func171, Tryz.ntmps171
    go_wp2_with fail
    go_quiet (fail)
    go_wp2_with (first
      | (go_at_call 209; refine (indexByte_any _ _ _).mono ?_; rintro e w' ⟨rfl, rfl⟩)
      | (go_at_call 210; refine (atoi_ok ⟨((r.rest.take 21).take k).toArray⟩ n _ ?ha1 ?ha2).mono ?_))
    case ha1 => exact h21
    case ha2 => exact HA.out
    rintro e w1 ⟨rfl, hk1⟩
    have h1 : RdAt w1 b r := ⟨h.1, h.2.kept (((Kept.refl [] w).drewN nq).trans hk1) (by simp)⟩
    have hE1 := (hE.drewN nq).kept0 hk1
    go_wp2_with fail
    refine wp_region_kept w1 (Kept.refl _ _) (by kernel_rfl) (by kernel_rfl) ?_
    repeat (go_big_quiet_step ((go_at_call 139; exact quiet_kept (itoa_any n _ HN.out (by exact hE1.kept0 (Subtype.property _))))))
    refine wpQuiet_nil ?_
    rintro w2 ⟨⟨_, hk3⟩, rfl⟩
    have h2 : RdAt w2 b r := ⟨h1.1, h1.2.kept hk3 (by simp)⟩
    go_wp2_with (go_at_call 172; refine (rd_fail b r _ h2).mono ?_; rintro e w3 ⟨rfl, hr, hk4⟩)
    go_ret
    exact ⟨rfl, hr, (((((Kept.refl [] w).drewN _).trans hk1).trans hk3).mono (by simp)).trans hk4⟩

/-- NUMBER, at every state -/
theorem rd_number (b : Nat) (r : Wire.Rd) (e : UInt8) (least : Int) (w : World) (h : RdAt w b r) (hE : Env w) (hs : r.rest.length ≤ 140737488355328) :
    Calls Tryz.prog 171 #[.pointer (some ⟨b, 0, none⟩), .int .u8 (e.toNat : Int), .int .i64 least] w fun en w' =>
      en = .returned (.int .i64 (Wire.number e least r).1) ∧ RdAt w' b (Wire.number e least r).2 ∧ Kept [b] w w' := by
  by_cases hi : Lib.indexByte (r.rest.take 21) e < 0
  · have e1 : Wire.number e least r = (0, Wire.failed) := by unfold Wire.number; rw [if_pos hi]
    rw [e1]
    exact rd_number_none b r e least w h hs hi
  · obtain ⟨k, hk⟩ : ∃ k : Nat, Lib.indexByte (r.rest.take 21) e = k := ⟨(Lib.indexByte (r.rest.take 21) e).toNat, by omega⟩
    obtain ⟨t, ht, hlt⟩ := Wire.indexByte_some (r.rest.take 21) e (by omega)
    rw [hk, Int.toNat_natCast] at hlt
    cases ha : Lib.atoiAll ((r.rest.take 21).take k) with
    | ok n =>
      by_cases hq : Lib.itoa n = (r.rest.take 21).take k ∧ least ≤ n
      · have e1 : Wire.number e least r = (n, ⟨r.rest.drop (k + 1), r.bad⟩) := by
          unfold Wire.number
          rw [if_neg hi, hk, Int.toNat_natCast, ha]
          simp only
          rw [if_pos hq]
        rw [e1]
        exact rd_number_ok b r e least w h hE hs k n hk hlt ha hq.1 hq.2
      · have e1 : Wire.number e least r = (0, Wire.failed) := by
          unfold Wire.number
          rw [if_neg hi, hk, Int.toNat_natCast, ha]
          simp only
          rw [if_neg hq]
        rw [e1]
        exact rd_number_odd b r e least w h hE hs k n hk hlt ha hq
    | _ =>
      have e1 : Wire.number e least r = (0, Wire.failed) := by unfold Wire.number; rw [if_neg hi, hk, Int.toNat_natCast, ha]
      rw [e1]
      exact rd_number_bad b r e least w h hE hs k hk hlt (by rw [ha]; intro v hv; cases hv)
end Go.Proofs.YtcidfldeiklcjaaGreatDoor
/- The reader's Text, Int, Done; OpenReader. -/
namespace Go.Proofs.YtcidfldeiklcjaaGreatDoor
open Go.RowKit

/-- a reader's state fits memory -/
def Fits (r : Wire.Rd) : Prop := r.rest.length ≤ 100000000

theorem rd_number' {n : Int} {r1 : Wire.Rd} (b : Nat) (r : Wire.Rd) (e : UInt8) (least : Int) (hq : Wire.number e least r = (n, r1)) (w : World) (h : RdAt w b r) (hE : Env w) (hs : Fits r) :
    Calls Tryz.prog 171 #[.pointer (some ⟨b, 0, none⟩), .int .u8 (e.toNat : Int), .int .i64 least] w fun en w' =>
      en = .returned (.int .i64 n) ∧ RdAt w' b r1 ∧ Kept [b] w w' := by
  have := rd_number b r e least w h hE (by unfold Fits at hs; omega)
  rw [hq] at this
  exact this

theorem Env.keptR {w w' : World} {b : Nat} {r : Wire.Rd} (hE : Env w) (h : RdAt w b r) (k : Kept [b] w w') : Env w' :=
  hE.kept k (by intro x hx; rw [List.mem_singleton] at hx; subst hx; exact h.1)

set_option maxHeartbeats 400000 in
theorem rd_text_long (b : Nat) (r r1 : Wire.Rd) (n : Int) (hq : Hid (Wire.number 58 0 r = (n, r1))) (hlt : decide ((r1.rest.length : Int) < n) = true) (w : World) (h : RdAt w b r) (hE : Env w) (hs : Fits r) :
    Calls Tryz.prog 126 #[.pointer (some ⟨b, 0, none⟩)] w fun en w' => en = .returned (.string ⟨#[]⟩) ∧ RdAt w' b Wire.failed ∧ Kept [b] w w' := by
  go_enter Tryz.func126, Tryz.ntmps126
  go_wp2_with (go_at_call 171; refine (rd_number' b r 58 0 hq.out _ h hE hs).mono ?_)
  rintro e w1 ⟨rfl, h1, hk1⟩
  have c0 := h1.c0
  go_wp2_with (go_at_call 172; refine (rd_fail b r1 _ h1).mono ?_; rintro e w2 ⟨rfl, h2, hk2⟩)
  go_ret
  exact ⟨rfl, h2, hk1.trans hk2⟩

def txt (bd : Bool) (l : List UInt8) : ByteArray := if bd then ⟨#[]⟩ else ⟨l.toArray⟩

set_option maxHeartbeats 400000 in
theorem rd_text_bad (b : Nat) (r r1 r2 : Wire.Rd) (m : Nat) (hq : Hid (Wire.number 58 0 r = ((m : Int), r1))) (hm : m ≤ r1.rest.length) (_hf1 : Fits r1)
    (hc : Hid (Wire.close [44] ⟨r1.rest.drop m, r1.bad⟩ = r2)) (w : World) (h : RdAt w b r) (hE : Env w) (hs : Fits r) :
    Calls Tryz.prog 126 #[.pointer (some ⟨b, 0, none⟩)] w fun en w' => en = .returned (.string (txt r2.bad (r1.rest.take m))) ∧ RdAt w' b r2 ∧ Kept [b] w w' := by
  have hlt : decide ((r1.rest.length : Int) < (m : Int)) = false := by simp; omega
  have hx := pre_eq r1.rest m
  have hy := post_eq r1.rest m
  unfold Fits at _hf1
  go_enter Tryz.func126, Tryz.ntmps126
  go_wp2_with (go_at_call 171; refine (rd_number' b r 58 0 hq.out _ h hE hs).mono ?_)
  rintro e w1 ⟨rfl, h1, hk1⟩
  have c0 := h1.c0
  have f0 := h1.2.frozen 0
  go_wp2_with (go_at_call 173; refine (rd_close b ⟨r1.rest.drop m, r1.bad⟩ [44] _ (h1.set1 _)).mono ?_)
  rintro e w2 ⟨rfl, h2, hk2⟩
  rw [hc.out] at h2
  have d1 := h2.c1
  cases hb : r2.bad
  · rw [hb] at d1
    go_wp2
    go_ret
    exact ⟨by rw [hb]; rfl, h2, (hk1.setCell (by simp) _).trans hk2⟩
  · rw [hb] at d1
    go_wp2
    go_ret
    exact ⟨by rw [hb]; rfl, h2, (hk1.setCell (by simp) _).trans hk2⟩

theorem fits_number {e : UInt8} {least n : Int} {r r1 : Wire.Rd} (hq : Wire.number e least r = (n, r1)) (hs : Fits r) : Fits r1 := by
  have := Wire.number_rest_le e least r
  rw [hq] at this
  unfold Fits at *
  simp only at this
  omega
theorem fits_close {e : List UInt8} {r : Wire.Rd} (hs : Fits r) : Fits (Wire.close e r) := by
  have := Wire.close_rest_le e r
  unfold Fits at *
  omega

theorem rd_text (b : Nat) (r : Wire.Rd) (w : World) (h : RdAt w b r) (hE : Env w) (hs : Fits r) :
    Calls Tryz.prog 126 #[.pointer (some ⟨b, 0, none⟩)] w fun en w' =>
      en = .returned (.string ⟨(Wire.text r).1.toArray⟩) ∧ RdAt w' b (Wire.text r).2 ∧ Kept [b] w w' := by
  obtain ⟨n, r1, hq⟩ : ∃ n r1, Wire.number 58 0 r = (n, r1) := ⟨_, _, rfl⟩
  have hn0 : 0 ≤ n := by have := Wire.number_least 58 0 (by omega) r; rw [hq] at this; exact this
  obtain ⟨m, rfl⟩ := Int.eq_ofNat_of_zero_le hn0
  by_cases hlt : (r1.rest.length : Int) < (m : Int)
  · have e1 : Wire.text r = ([], Wire.failed) := by unfold Wire.text; rw [hq]; simp only; rw [if_pos hlt]
    rw [e1]
    exact rd_text_long b r r1 _ hq (by simpa using hlt) w h hE hs
  · refine (rd_text_bad b r r1 _ m hq (by omega) (fits_number hq hs) rfl w h hE hs).mono ?_
    rintro e w' ⟨rfl, h2, hk⟩
    have e1 : Wire.text r = (if (Wire.close [44] ⟨r1.rest.drop m, r1.bad⟩).bad then [] else r1.rest.take m, Wire.close [44] ⟨r1.rest.drop m, r1.bad⟩) := by
      unfold Wire.text; rw [hq]; simp only [Int.toNat_natCast]; rw [if_neg hlt]; split <;> rfl
    rw [e1]
    refine ⟨?_, h2, hk⟩
    unfold txt
    split <;> rfl

theorem fits_text {r : Wire.Rd} (hs : Fits r) : Fits (Wire.text r).2 ∧ Fits ⟨(Wire.text r).1, false⟩ := by
  obtain ⟨n, r1, hq⟩ : ∃ n r1, Wire.number 58 0 r = (n, r1) := ⟨_, _, rfl⟩
  have h1 := fits_number hq hs
  have h2 : Fits ⟨r1.rest.drop n.toNat, r1.bad⟩ := by unfold Fits at *; simp only [List.length_drop]; omega
  have h3 := fits_close (e := [44]) h2
  unfold Wire.text
  rw [hq]
  simp only
  split
  · exact ⟨by simp [Fits, Wire.failed], by simp [Fits]⟩
  · split
    · exact ⟨h3, by simp [Fits]⟩
    · exact ⟨h3, by unfold Fits at *; simp only [List.length_take]; omega⟩

set_option maxHeartbeats 400000 in
theorem rd_int (b : Nat) (r : Wire.Rd) (w : World) (h : RdAt w b r) (hE : Env w) (hs : Fits r) :
    Calls Tryz.prog 129 #[.pointer (some ⟨b, 0, none⟩)] w fun en w' =>
      en = .returned (.int .i64 (Wire.number 59 (-9223372036854775808) r).1) ∧ RdAt w' b (Wire.number 59 (-9223372036854775808) r).2 ∧ Kept [b] w w' := by
  obtain ⟨n, r1, hq⟩ : ∃ n r1, Wire.number 59 (-9223372036854775808) r = (n, r1) := ⟨_, _, rfl⟩
  rw [hq]
  have H := Lib.hid hq
  clear hq
  go_enter Tryz.func129, Tryz.ntmps129
  go_wp2_with (go_at_call 171; refine (rd_number' b r 59 _ H.out _ h hE hs).mono ?_)
  rintro e w1 ⟨rfl, h1, hk1⟩
  go_wp2
  go_ret
  exact ⟨rfl, h1, hk1⟩

set_option maxHeartbeats 400000 in
theorem rd_done (b : Nat) (r : Wire.Rd) (w : World) (h : RdAt w b r) :
    Calls Tryz.prog 131 #[.pointer (some ⟨b, 0, none⟩)] w fun en w' =>
      en = .returned (.bool (!r.bad && r.rest.isEmpty)) ∧ Kept [] w w' := by
  have c0 := h.c0
  have c1 := h.c1
  cases hb : r.bad
  · rw [hb] at c1
    go_enter Tryz.func131, Tryz.ntmps131
    go_wp2
    go_ret
    exact ⟨by simp, Kept.refl _ _⟩
  · rw [hb] at c1
    go_enter Tryz.func131, Tryz.ntmps131
    go_wp2
    go_ret
    exact ⟨by simp, Kept.refl _ _⟩

set_option maxHeartbeats 400000 in
theorem rd_open (s : List UInt8) (w : World) (hE : Env w) :
    Calls Tryz.prog 124 #[.string ⟨s.toArray⟩] w fun en w' =>
      en = .returned (.pointer (some ⟨w.heap.size, 0, none⟩)) ∧ RdAt w' w.heap.size ⟨s, false⟩ ∧ Kept [] w w' := by
  go_enter Tryz.func124, Tryz.ntmps124
  go_wp2
  go_ret
  exact ⟨rfl, ⟨hE.size, Blk.new _ _ _⟩, (Kept.refl _ _).alloc _⟩
end Go.Proofs.YtcidfldeiklcjaaGreatDoor
namespace Go.Proofs.YtcidfldeiklcjaaGreatDoor
open Go.RowKit

/-- one int is read -/
def rdInt (r : Wire.Rd) : Int × Wire.Rd := Wire.number 59 (-9223372036854775808) r
theorem nums_eq (r : Wire.Rd) : Wire.nums r = Wire.items rdInt r := rfl
theorem infoInt : (Tryz.prog.info? 3).map (fun i => (i.zero, i.size, i.bytes)) = some (some (.int .i64 0), 1, 8) := by kernel_rfl

/-- a list of ints as cells -/
def ints (l : List Int) : List Value := l.map (Value.int .i64)

/-- what has been read, and what is left, adds up to no more than L -/
def Pays (L : Nat) (r : Wire.Rd) (n : Nat) : Prop := (r.bad = false → n + r.rest.length ≤ L) ∧ n ≤ L + 1

theorem number_pays (e : UInt8) (least : Int) (r : Wire.Rd) :
    (Wire.number e least r).2.bad = true ∨ ((Wire.number e least r).2.bad = false ∧ (Wire.number e least r).2.rest.length + 1 ≤ r.rest.length) := by
  cases h : (Wire.number e least r).2.bad
  · right
    obtain ⟨_, h2, _⟩ := Wire.number_inv e least r h
    refine ⟨rfl, ?_⟩
    conv => rhs; rw [h2]
    simp only [List.length_append, List.length_cons]
    omega
  · exact Or.inl rfl

theorem Pays.step {L n : Nat} {r r' : Wire.Rd} (h : Pays L r n) (hb : r.bad = false) (h' : r'.bad = true ∨ (r'.bad = false ∧ r'.rest.length + 1 ≤ r.rest.length)) : Pays L r' (n + 1) := by
  have h1 := h.1 hb
  refine ⟨fun hb' => ?_, by omega⟩
  rcases h' with h2 | ⟨_, h2⟩
  · rw [h2] at hb'; cases hb'
  · omega

/-- the loop's relation -/
def ItemsRel (w0 : World) (b : Nat) (fin : List Int × Wire.Rd) (L : Nat) (v i : Value) (wr : World) : Prop :=
  ∃ (n : Nat) (r : Wire.Rd) (acc : List Int), n ≤ 9223372036854775807 ∧ i = .int .i64 n ∧ Wire.loop rdInt n r acc = fin ∧ wr.ownsRow w0.heap.size 3 1 v acc.length (ints acc) ∧
    RdAt wr b r ∧ Kept [b] w0 wr ∧ Fits r ∧ Pays L r acc.length

set_option maxHeartbeats 1000000 in
theorem items_int (b : Nat) (r : Wire.Rd) (w : World) (h : RdAt w b r) (hE : Env w) (hs : Fits r) :
    Calls Tryz.prog 170 #[.pointer (some ⟨b, 0, none⟩), .func (.func 129) #[.pointer (some ⟨b, 0, none⟩)] #[]] w fun en w' =>
      ∃ v, en = .returned v ∧ w'.ownsRow w.heap.size 3 1 v (Wire.nums r).1.length (ints (Wire.nums r).1) ∧ RdAt w' b (Wire.nums r).2 ∧ Kept [b] w w' := by
  obtain ⟨n, r1, hq⟩ : ∃ n r1, Wire.number 91 0 r = (n, r1) := ⟨_, _, rfl⟩
  have hn0 : 0 ≤ n := by have := Wire.number_least 91 0 (by omega) r; rw [hq] at this; exact this
  have hn1 : n ≤ 9223372036854775807 := by have := Wire.number_bounds 91 0 r; rw [hq] at this; exact this.2
  obtain ⟨m, rfl⟩ := Int.eq_ofNat_of_zero_le hn0
  have hs1 := fits_number hq hs
  obtain ⟨fin, hfin⟩ : ∃ fin, Wire.loop rdInt m r1 [] = fin := ⟨_, rfl⟩
  have H := Lib.hid hq
  have HF := Lib.hid hfin
  have hbl := h.2.lt
  obtain ⟨i0, hi, hz0, hz1, hz2⟩ := info_parts infoInt
  clear hq hfin
  go_enter Tryz.func170, Tryz.ntmps170
  go_wp2_with (go_at_call 171; refine (rd_number' b r 91 0 H.out _ h hE hs).mono ?_)
  rintro e w1 ⟨rfl, h1, hk1⟩
  go_wp2_with fail
  go_loopw [5, 6] (fun v i wr => ItemsRel w b fin 100000000 v i wr) (fun _ i _ => (intOf i).toNat)
  case atStart =>
    exact ⟨m, r1, [], by omega, rfl, HF.out, by simpa [ints] using World.ownsRow_nil _ _ _ _, h1, hk1, hs1, fun _ => by unfold Fits at hs1; simpa using hs1, by simp⟩
  case round =>
    obtain ⟨n, r', acc, hn, rfl, hl, hown, hr, hk, hf, hp⟩ := hrel
    have hE' := hE.kept hk (by intro x hx; rw [List.mem_singleton] at hx; subst hx; exact h.1)
    have hsz := hk.size
    have c1 := hr.c1
    have HL := Lib.hid hl
    clear hl
    by_cases hgo : 0 < n ∧ r'.bad = false
    · obtain ⟨hn0, hbad⟩ := hgo
      obtain ⟨n, rfl⟩ : ∃ k, n = k + 1 := ⟨n - 1, by omega⟩
      obtain ⟨y, r2, hy⟩ : ∃ y r2, rdInt r' = (y, r2) := ⟨_, _, rfl⟩
      have hr2 := rd_int b r' wr hr hE' hf
      have hpay := hp.step hbad (number_pays 59 (-9223372036854775808) r')
      have hy' : Wire.number 59 (-9223372036854775808) r' = (y, r2) := hy
      have hf2 := fits_number hy hf
      have hl2 : Wire.loop rdInt n r2 (acc ++ [y]) = fin := by
        have := HL.out
        simp only [Wire.loop, hbad, Bool.false_eq_true, if_false, hy] at this
        exact this
      rw [hy'] at hr2 hpay
      simp only at hr2 hpay
      have HR := Lib.hid hr2
      have HL2 := Lib.hid hl2
      rw [hbad] at c1
      clear hy hy' hr2 hl2 hbad
      go_wp2_with (first
        | (go_at_call 129; refine HR.out.mono ?_; rintro e w2 ⟨rfl, h2, hk2⟩; have hown2 := own_kept hown hk2 (by simpa using hbl))
        | (at_builtin; refine wpList_append_own _ rfl _ _ 24 rfl w.heap.size 3 i0 (.int .i64 0) 1 8 Tryz.underlying24 hi hz0 hz1 hz2 rfl (by decide) _ _ _ rfl (hown2.alloc _) ⟨w2.heap.size, 0, none⟩ 1 1 [.int .i64 y] rfl rfl ?c1 ?c2 ?c3 ?c4 ?c5 ?_))
      case c1 => exact cell_one_new _ _ _
      case c2 => intro u hu; rw [List.mem_singleton] at hu; subst hu; rfl
      case c3 => have := hpay.2; unfold maxLen; omega
      case c4 => have := hpay.2; omega
      case c5 => have := hk2.size; simp; omega
      intro v' w3 hown3 hg3 _
      have hk3 : Kept [b] w w3 := ((hk.trans hk2).alloc _).grown hg3 (fun k hk => Or.inr (hown2.lt k hk).1)
      have hr3 : RdAt w3 b r2 := ⟨h2.1, (hg3.block b (Nat.lt_of_lt_of_le h2.2.lt (by simp)) (fun e => by have := (hown2.lt b e.symm).1; omega)).trans (h2.2.alloc _)⟩
      have e3 : ints acc ++ [.int .i64 y] = ints (acc ++ [y]) := by simp [ints]
      rw [e3] at hown3
      clear e3 hg3 hown2 hown h2 hk2 hk hr c1
      go_wp2
      go_roundw
      case rel => exact ⟨n, r2, acc ++ [y], by omega, by go_num, HL2.out, by simpa using hown3, hr3, hk3, hf2, by simpa using hpay⟩
      case measure => simp [intOf]
    · have hfin : fin = (acc, r') := by
        rw [← HL.out]
        cases n with
        | zero => rfl
        | succ n =>
          have hb : r'.bad = true := by
            cases hb : r'.bad
            · exact absurd ⟨by omega, hb⟩ hgo
            · rfl
          simp [Wire.loop, hb]
      have hout : Wire.nums r = (if (Wire.close [93] r').bad then [] else acc, Wire.close [93] r') := by
        rw [nums_eq]
        unfold Wire.items
        rw [H.out]
        simp only [Int.toNat_natCast]
        rw [HF.out, hfin]
        simp only
        split <;> rfl
      obtain ⟨rc, hrc⟩ : ∃ rc, Wire.close [93] r' = rc := ⟨_, rfl⟩
      have hcl := rd_close b r' [93] wr hr
      rw [hrc] at hcl hout
      have HC := Lib.hid hcl
      have HO := Lib.hid hout
      obtain ⟨va, vc, rfl⟩ := own_form hown
      have hexit : (n = 0) ∨ (0 < n ∧ r'.bad = true) := by
        rcases Nat.eq_zero_or_pos n with h0 | h0
        · exact Or.inl h0
        · right
          refine ⟨h0, ?_⟩
          cases hb : r'.bad
          · exact absurd ⟨h0, hb⟩ hgo
          · rfl
      clear hcl hrc hfin hout HL hgo
      rcases hexit with rfl | ⟨hn0, hb⟩
      · cases hbc : rc.bad
        all_goals
          go_wp2_with (go_at_call 173; refine HC.out.mono ?_; rintro e w2 ⟨rfl, h2, hk2⟩; have d1 := h2.c1; rw [hbc] at d1)
          go_ret
          rw [HO.out]
          simp only [hbc, if_true, Bool.false_eq_true, if_false]
          refine ⟨_, rfl, ?_, h2, hk.trans hk2⟩
        · exact own_kept hown hk2 (by simpa using hbl)
        · exact by simpa [ints] using World.ownsRow_nil _ _ _ _
      · rw [hb] at c1
        cases hbc : rc.bad
        all_goals
          go_wp2_with (go_at_call 173; refine HC.out.mono ?_; rintro e w2 ⟨rfl, h2, hk2⟩; have d1 := h2.c1; rw [hbc] at d1)
          go_ret
          rw [HO.out]
          simp only [hbc, if_true, Bool.false_eq_true, if_false]
          refine ⟨_, rfl, ?_, h2, hk.trans hk2⟩
        · exact own_kept hown hk2 (by simpa using hbl)
        · exact by simpa [ints] using World.ownsRow_nil _ _ _ _
end Go.Proofs.YtcidfldeiklcjaaGreatDoor
