/- Two points have different numbers. -/
import Derived.Test.YtabiklpemoijcaaGreatDoorWit
import Derived.Maps.Own
import Derived.Maps.OwnSet
namespace Go.Proofs.YtabiklpemoijcaaGreatDoor
open Go.RowKit Go.Maps

theorem keyedU : Keyed Tryz.prog 134 := int_keyed Tryz.underlying134
theorem keyedI : Keyed Tryz.prog 3 := int_keyed Tryz.underlying3

def mp0 : DataW Unit := .map []
def mpU1 : DataW Unit := mp0.put (.int .u64 1) (.lit (.bool true))
def mpU2 : DataW Unit := mpU1.put (.int .u64 2) (.lit (.bool true))
def mpU (k : Nat) : DataW Unit := if k = 0 then mp0 else if k = 1 then mpU1 else mpU2
theorem mpU2_size : Maps.size mpU2 = 2 := by decide

theorem ownsMap_kept {S : List Nat} {w w' : World} {P : Program} {k : TypeId} {R : Value → Option (DataW Unit × List MemPlace)} {b n : Nat} {D : DataW Unit} (h : w.ownsMap P k R b n D) (hk : Kept S w w') (hb : b ∉ S) : w'.ownsMap P k R b n D := by
  obtain ⟨es, clock, h1, h2⟩ := h
  exact ⟨es, clock, (hk.block b (Array.getElem?_eq_some_iff.1 h1).1 hb).trans h1, h2⟩

set_option maxRecDepth 100000 in
set_option maxHeartbeats 1000000 in
theorem points_x (v : Value) (w : World) (hv : Row w 1 v 2 (ints [1, 2])) :
    Calls Tryz.prog 100 #[.int .i64 11, v] w fun e w' => e = .returned (.bool true) ∧ Kept [] w w' := by
  obtain ⟨aa, ca, rfl, hla, _⟩ := hv.form
  have HV := Lib.hid hv
  have hmm := @run_makeMap Tryz.prog
  have R1 : Hid (∀ w, Calls Tryz.prog 98 #[.int .i64 11, .int .i64 1] w fun e w' => e = .returned (.int .u64 1) ∧ w = w') := fun w => residue_any 11 1 w (by omega) (by omega) ⟨by omega, by omega⟩
  have R2 : Hid (∀ w, Calls Tryz.prog 98 #[.int .i64 11, .int .i64 2] w fun e w' => e = .returned (.int .u64 2) ∧ w = w') := fun w => residue_any 11 2 w (by omega) (by omega) ⟨by omega, by omega⟩
  clear hv
  go_enter Tryz.func100, Tryz.ntmps100
  go_wp2_with (go_at_call 168; with_reducible refine (prime_11 _).mono ?_)
  rintro e w1 ⟨rfl, hk1⟩
  go_wp2_with fail
  have hown0 := World.ownsMap_made (H := Unit) w1 Tryz.prog 134 (plainElem Tryz.prog 4)
  have hkM : Kept [] w1 (w1.alloc (.map #[] 0)) := (Kept.refl _ _).alloc _
  go_loopw [7, 19] (fun _ vi wr => ∃ k : Nat, k ≤ 2 ∧ vi = .int .i64 k ∧ wr.ownsMap Tryz.prog 134 (plainElem Tryz.prog 4) w1.heap.size k (mpU k) ∧ Kept [] w1 wr) (fun _ vi _ => 2 - (intOf vi).toNat)
  case atStart => exact ⟨0, by omega, rfl, hown0, hkM⟩
  case round =>
    obtain ⟨k, hk, rfl, hown, hkr⟩ := hrel
    obtain ⟨ba, oa, rfl, hca⟩ := (HV.out.kept (hk1.trans hkr)).at_ (by omega)
    rcases (by omega : k = 0 ∨ k = 1 ∨ k = 2) with rfl | rfl | rfl
    · replace hown : wr.ownsMap Tryz.prog 134 (plainElem Tryz.prog 4) w1.heap.size 0 mp0 := hown
      have xa : wr.cell? ⟨ba, oa, none⟩ = some (.int .i64 1) := hca 0 _ rfl
      clear hca
      go_wp2_with (first
        | (go_at_call 98; with_reducible refine (R1.out _).mono ?_; rintro e w' ⟨rfl, rfl⟩)
        | (at_mapUpdate; refine wpList_mapUpdate_own _ rfl _ _ _ 195 rfl 134 4 keyedU Tryz.underlying195 _ w1.heap.size 0 _ rfl hown (by unfold maxLen; omega) _ _ _ rfl rfl (keyOf_int_mk Tryz.underlying134 (by decide)) _ [] (plainElem_bool Tryz.underlying4 true) ?_; intro w2 hown2 hgrow2))
      have hk2 : Kept [] w1 w2 := hkr.grown hgrow2 (fun k e => by cases e; exact Or.inr (Nat.le_refl _))
      clear hgrow2
      go_wp2_with fail
      go_roundw
      case rel => exact ⟨1, by omega, rfl, hown2, hk2⟩
      case measure => simp [intOf]
    · replace hown : wr.ownsMap Tryz.prog 134 (plainElem Tryz.prog 4) w1.heap.size 1 mpU1 := hown
      have xa : wr.cell? ⟨ba, oa + 1, none⟩ = some (.int .i64 2) := hca 1 _ rfl
      clear hca
      go_wp2_with (first
        | (go_at_call 98; with_reducible refine (R2.out _).mono ?_; rintro e w' ⟨rfl, rfl⟩)
        | (at_mapUpdate; refine wpList_mapUpdate_own _ rfl _ _ _ 195 rfl 134 4 keyedU Tryz.underlying195 _ w1.heap.size 1 _ rfl hown (by unfold maxLen; omega) _ _ _ rfl rfl (keyOf_int_mk Tryz.underlying134 (by decide)) _ [] (plainElem_bool Tryz.underlying4 true) ?_; intro w2 hown2 hgrow2))
      have hk2 : Kept [] w1 w2 := hkr.grown hgrow2 (fun k e => by cases e; exact Or.inr (Nat.le_refl _))
      clear hgrow2
      go_wp2_with fail
      go_roundw
      case rel => exact ⟨2, by omega, rfl, hown2, hk2⟩
      case measure => simp [intOf]
    · replace hown : wr.ownsMap Tryz.prog 134 (plainElem Tryz.prog 4) w1.heap.size 2 mpU2 := hown
      have hsz := mpU2_size
      clear hca
      go_wp2_with (at_len; refine wpList_len_own _ rfl _ 195 rfl 134 4 Tryz.underlying195 _ w1.heap.size 2 _ rfl hown ?_)
      go_ret
      exact ⟨rfl, hk1.trans hkr⟩
end Go.Proofs.YtabiklpemoijcaaGreatDoor
