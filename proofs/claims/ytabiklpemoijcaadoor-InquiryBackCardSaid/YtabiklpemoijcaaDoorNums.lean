/- Small functions on lists of ints: SameNums, total, Min, Max. -/
import Derived.Test.YtabiklpemoijcaaDoorEnc
namespace Go.Proofs.YtabiklpemoijcaaDoor
open Go.RowKit

theorem ints_get {l : List Int} {k : Nat} (h : k < l.length) : (ints l)[k]? = some (.int .i64 l[k]) := by simp [ints, h]

set_option maxHeartbeats 800000 in
theorem sameNums_any (va vb : Value) (a b : List Int) (w : World) (ha : Row w 1 va a.length (ints a)) (hb : Row w 1 vb b.length (ints b)) :
    Calls Tryd.prog 57 #[va, vb] w fun e w' => e = .returned (.bool (decide (a = b))) ∧ Kept [] w w' := by
  obtain ⟨aa, ca, rfl, hla, _⟩ := ha.form
  obtain ⟨ab, cb, rfl, hlb, _⟩ := hb.form
  by_cases hl : a.length = b.length
  · have hlq : ((a.length : Int) != (b.length : Int)) = false := by simp; omega
    have HL := Lib.hid hl
    clear hl
    go_enter Tryd.func57, Tryd.ntmps57
    go_wp2_with fail
    go_loopw [5] (fun i wr => ∃ k : Nat, k ≤ a.length ∧ i = .int .i64 k ∧ (a = b ↔ a.drop k = b.drop k) ∧ Kept [] w wr) (fun i _ => a.length - (intOf i).toNat)
    case atStart => exact ⟨0, Nat.zero_le _, rfl, by simp, Kept.refl _ _⟩
    case round =>
      obtain ⟨k, hk, rfl, hr, hkr⟩ := hrel
      have HR := Lib.hid hr
      clear hr
      by_cases hlt : k < a.length
      · have hltb : k < b.length := by have := HL.out; omega
        obtain ⟨ba, oa, rfl, hca⟩ := (ha.kept hkr).at_ (by omega)
        obtain ⟨bb, ob, rfl, hcb⟩ := (hb.kept hkr).at_ (by omega)
        have xa := hca k _ (ints_get hlt)
        have xb := hcb k _ (ints_get hltb)
        have hda : a.drop k = a[k] :: a.drop (k + 1) := List.drop_eq_getElem_cons hlt
        have hdb : b.drop k = b[k] :: b.drop (k + 1) := List.drop_eq_getElem_cons hltb
        by_cases he : a[k] = b[k]
        · have heq : (a[k] != b[k]) = false := by simp [he]
          have hn : a = b ↔ a.drop (k + 1) = b.drop (k + 1) := by rw [HR.out, hda, hdb, he]; exact ⟨fun h => (List.cons.inj h).2, fun h => by rw [h]⟩
          have HN := Lib.hid hn
          clear hn hda hdb he hca hcb
          go_wp2_with fail
          go_quiet (fail)
          go_wp2_with fail
          go_roundw
          case rel => exact ⟨k + 1, by omega, by go_num, HN.out, hkr.drewN _⟩
          case measure => simp [intOf]; omega
        · have heq : (a[k] != b[k]) = true := by simp [he]
          have hn : ¬ a = b := by rw [HR.out, hda, hdb]; intro h; injection h with h1; exact he h1
          have HN := Lib.hid hn
          clear hn hda hdb he hca hcb
          go_wp2_with fail
          go_quiet (fail)
          go_wp2_with fail
          go_ret
          exact ⟨by rw [decide_eq_false HN.out]; rfl, hkr.drewN _⟩
      · obtain rfl : k = a.length := by omega
        have hn : a = b := by rw [HR.out, List.drop_length, HL.out, List.drop_length]
        have HN := Lib.hid hn
        clear hn
        go_wp2_with fail
        go_ret
        exact ⟨by rw [decide_eq_true HN.out]; rfl, hkr⟩
  · have hlq : ((a.length : Int) != (b.length : Int)) = true := by simp; omega
    have hn : ¬ a = b := fun h => hl (by rw [h])
    have HN := Lib.hid hn
    clear hn hl
    go_enter Tryd.func57, Tryd.ntmps57
    go_wp2_with fail
    go_ret
    exact ⟨by rw [decide_eq_false HN.out]; rfl, Kept.refl _ _⟩

/-- the sum of weights -/
def sumW (l : List Int) : Int := l.foldr (· + ·) 0
theorem sumW_cons (a : Int) (l : List Int) : sumW (a :: l) = a + sumW l := rfl
theorem sumW_bound (l : List Int) (h : ∀ x ∈ l, 0 ≤ x ∧ x ≤ 12) : 0 ≤ sumW l ∧ sumW l ≤ 12 * l.length := by
  induction l with
  | nil => exact ⟨Int.le_refl _, Int.le_refl _⟩
  | cons a l ih =>
    have h1 := h a (by simp)
    have h2 := ih fun x hx => h x (by simp [hx])
    rw [sumW_cons, List.length_cons]
    omega

set_option maxHeartbeats 800000 in
theorem total_any (v : Value) (l : List Int) (w : World) (hv : Row w 1 v l.length (ints l)) (hb : ∀ x ∈ l, 0 ≤ x ∧ x ≤ 12) (hl : l.length ≤ 1000) :
    Calls Tryd.prog 61 #[v] w fun e w' => e = .returned (.int .i64 (sumW l)) ∧ w = w' := by
  obtain ⟨aa, ca, rfl, hla, _⟩ := hv.form
  have hsb := sumW_bound l hb
  go_enter Tryd.func61, Tryd.ntmps61
  go_wp2_with fail
  go_loop [3, 5, 8] (fun s _ i => ∃ (k : Nat) (t : Int), k ≤ l.length ∧ i = .int .i64 k ∧ s = .int .i64 t ∧ sumW l = t + sumW (l.drop k) ∧ 0 ≤ t) (fun _ _ i => l.length - (intOf i).toNat)
  case atStart => exact ⟨0, 0, Nat.zero_le _, rfl, rfl, by simp, by omega⟩
  case round =>
    obtain ⟨k, t, hk, rfl, rfl, hr, ht⟩ := hrel
    by_cases hlt : k < l.length
    · obtain ⟨ba, oa, rfl, hca⟩ := hv.at_ (by omega)
      have xa := hca k _ (ints_get hlt)
      have hx := hb l[k] (List.getElem_mem hlt)
      have hd : l.drop k = l[k] :: l.drop (k + 1) := List.drop_eq_getElem_cons hlt
      have hsd := sumW_bound (l.drop (k + 1)) (fun x hx => hb x (List.mem_of_mem_drop hx))
      have hn : sumW l = (t + l[k]) + sumW (l.drop (k + 1)) := by rw [hr, hd, sumW_cons]; omega
      have hle : t + l[k] ≤ 12000 := by omega
      have HN := Lib.hid hn
      clear hr hn hd hca hsd
      go_wp2_with fail
      go_round
      case rel => exact ⟨k + 1, t + l[k], by omega, by go_num, rfl, HN.out, by omega⟩
      case measure => simp [intOf]; omega
    · obtain rfl : k = l.length := by omega
      have hn : sumW l = t := by rw [hr]; simp [sumW]
      have HN := Lib.hid hn
      clear hr hn
      go_wp2_with fail
      go_ret
      exact ⟨by rw [HN.out]; rfl, rfl⟩
end Go.Proofs.YtabiklpemoijcaaDoor
