/- The reader's small methods: fail, close. -/
import Derived.Test.YtabiklpemoijcaaDoorEnv
import Derived.Outline
namespace Go.Proofs.YtabiklpemoijcaaDoor
open Go.RowKit

def RdAt (w : World) (b : Nat) (r : Wire.Rd) : Prop := NG ≤ b ∧ Blk w b 131 #[.string ⟨r.rest.toArray⟩, .bool r.bad]

theorem RdAt.set2 {w : World} {b : Nat} {r : Wire.Rd} (h : RdAt w b r) (s : List UInt8) (bd : Bool) :
    RdAt ((w.setCell ⟨b, 0, none⟩ (.string ⟨s.toArray⟩)).setCell ⟨b, 1, none⟩ (.bool bd)) b ⟨s, bd⟩ :=
  ⟨h.1, by simpa using (h.2.set_ 0 (.string ⟨s.toArray⟩)).set_ 1 (.bool bd)⟩
theorem RdAt.set1 {w : World} {b : Nat} {r : Wire.Rd} (h : RdAt w b r) (s : List UInt8) :
    RdAt (w.setCell ⟨b, 0, none⟩ (.string ⟨s.toArray⟩)) b ⟨s, r.bad⟩ :=
  ⟨h.1, by simpa using h.2.set_ 0 (.string ⟨s.toArray⟩)⟩
theorem RdAt.c0 {w : World} {b : Nat} {r : Wire.Rd} (h : RdAt w b r) : w.cell? ⟨b, 0, none⟩ = some (.string ⟨r.rest.toArray⟩) := by simpa using h.2.cell 0
theorem RdAt.c1 {w : World} {b : Nat} {r : Wire.Rd} (h : RdAt w b r) : w.cell? ⟨b, 1, none⟩ = some (.bool r.bad) := by simpa using h.2.cell 1

set_option maxHeartbeats 400000 in
theorem rd_fail (b : Nat) (r : Wire.Rd) (w : World) (h : RdAt w b r) :
    Calls Tryd.prog 87 #[.pointer (some ⟨b, 0, none⟩)] w fun e w' => e = .returned (.tuple #[]) ∧ RdAt w' b Wire.failed ∧ Kept [b] w w' := by
  have c0 := h.c0
  have c1 := h.c1
  have f0 := h.2.frozen 0
  have f1 := h.2.frozen 1
  go_enter Tryd.func87, Tryd.ntmps87
  go_wp2
  go_end0
  exact ⟨rfl, h.set2 [] true, (((Kept.refl _ _).setCell (by simp) _).setCell (by simp) _)⟩

theorem trimPrefix_yes {s e : List UInt8} (h : Lib.hasPrefix s e = true) : Lib.trimPrefix s e = s.drop e.length := by
  unfold Lib.trimPrefix; rw [if_pos h]

set_option maxHeartbeats 400000 in
theorem rd_close (b : Nat) (r : Wire.Rd) (e : List UInt8) (w : World) (h : RdAt w b r) :
    Calls Tryd.prog 88 #[.pointer (some ⟨b, 0, none⟩), .string ⟨e.toArray⟩] w fun en w' =>
      en = .returned (.tuple #[]) ∧ RdAt w' b (Wire.close e r) ∧ Kept [b] w w' := by
  have c0 := h.c0
  have c1 := h.c1
  have f0 := h.2.frozen 0
  have f1 := h.2.frozen 1
  by_cases hp : Lib.hasPrefix r.rest e = true
  · have e1 : Wire.close e r = ⟨r.rest.drop e.length, r.bad⟩ := by unfold Wire.close; rw [if_pos hp]
    have H1 := Lib.hid e1
    have H2 := Lib.hid (trimPrefix_yes hp)
    clear e1
    go_enter Tryd.func88, Tryd.ntmps88
    go_wp2_with (go_at_call 97; refine (Tryd.strings_CutPrefix _ _ _).mono ?_; rintro e w' ⟨rfl, rfl⟩)
    go_end0
    rw [H1.out, H2.out]
    exact ⟨rfl, h.set1 _, ((Kept.refl _ _).setCell (by simp) _)⟩
  · have hp' : Lib.hasPrefix r.rest e = false := by simpa using hp
    have e1 : Wire.close e r = Wire.failed := by unfold Wire.close; rw [if_neg hp]
    have H1 := Lib.hid e1
    clear e1 hp
    go_enter Tryd.func88, Tryd.ntmps88
    go_wp2_with (first
      | (go_at_call 97; refine (Tryd.strings_CutPrefix _ _ _).mono ?_; rintro e w' ⟨rfl, rfl⟩)
      | (go_at_call 87; refine (rd_fail b ⟨_, _⟩ _ (h.set1 _)).mono ?_; rintro e w1 ⟨rfl, hr, hk⟩))
    go_end0
    rw [H1.out]
    exact ⟨rfl, hr, ((Kept.refl _ _).setCell (by simp) _).trans hk⟩
end Go.Proofs.YtabiklpemoijcaaDoor
