/- Lists of points: SamePoints. -/
import Derived.Test.YtabiklpemoijcaaGreatDoorStat
namespace Go.Proofs.YtabiklpemoijcaaGreatDoor
open Go.RowKit

/-- three of a list's numbers at a point's place -/
theorem drop3 {l : List Int} {n k : Nat} (hl : l.length = n * 3) (hk : k < n) :
    ∃ x y z, (ints l)[k * 3]? = some (.int .i64 x) ∧ (ints l)[k * 3 + 1]? = some (.int .i64 y) ∧ (ints l)[k * 3 + 2]? = some (.int .i64 z) ∧ l.drop (k * 3) = x :: y :: z :: l.drop ((k + 1) * 3) := by
  have h0 : k * 3 < l.length := by omega
  have h1 : k * 3 + 1 < l.length := by omega
  have h2 : k * 3 + 2 < l.length := by omega
  refine ⟨l[k * 3], l[k * 3 + 1], l[k * 3 + 2], ints_get h0, ints_get h1, ints_get h2, ?_⟩
  rw [List.drop_eq_getElem_cons h0, List.drop_eq_getElem_cons h1, List.drop_eq_getElem_cons h2, show (k + 1) * 3 = k * 3 + 1 + 1 + 1 by omega]

set_option maxHeartbeats 2000000 in
theorem samePoints_any (va vb : Value) (na nb : Nat) (a b : List Int) (w : World) (ha : Row w 3 va na (ints a)) (hb : Row w 3 vb nb (ints b)) :
    Calls Tryz.prog 50 #[va, vb] w fun e w' => e = .returned (.bool (decide (a = b))) ∧ Kept [] w w' := by
  have hal : a.length = na * 3 := by simpa [ints] using ha.1
  have hbl : b.length = nb * 3 := by simpa [ints] using hb.1
  obtain ⟨aa, ca, rfl, hla, _⟩ := ha.form
  obtain ⟨ab, cb, rfl, hlb, _⟩ := hb.form
  by_cases hl : na = nb
  · subst hl
    have HAL := Lib.hid hal
    have HBL := Lib.hid hbl
    clear hal hbl
    have hlq : ((na : Int) != (na : Int)) = false := by simp
    go_enter Tryz.func50, Tryz.ntmps50
    go_wp2_with fail
    go_loopw [5] (fun i wr => ∃ k : Nat, k ≤ na ∧ i = .int .i64 k ∧ (a = b ↔ a.drop (k * 3) = b.drop (k * 3)) ∧ Kept [] w wr) (fun i _ => na - (intOf i).toNat)
    case atStart => exact ⟨0, Nat.zero_le _, rfl, by simp, Kept.refl _ _⟩
    case round =>
      obtain ⟨k, hk, rfl, hr, hkr⟩ := hrel
      have HR := Lib.hid hr
      clear hr
      by_cases hlt : k < na
      · obtain ⟨ba, oa, rfl, hca⟩ := (ha.kept hkr).at_ (by omega)
        obtain ⟨bb, ob, rfl, hcb⟩ := (hb.kept hkr).at_ (by omega)
        obtain ⟨x0, x1, x2, g0, g1, g2, hda⟩ := drop3 HAL.out hlt
        obtain ⟨y0, y1, y2, i0, i1, i2, hdb⟩ := drop3 HBL.out hlt
        have xa0 := hca _ _ g0
        have xa1 := hca _ _ g1
        have xa2 := hca _ _ g2
        have xb0 := hcb _ _ i0
        have xb1 := hcb _ _ i1
        have xb2 := hcb _ _ i2
        rw [← Nat.add_assoc] at xa1 xa2 xb1 xb2
        have hn : a = b ↔ (x0 = y0 ∧ x1 = y1 ∧ x2 = y2 ∧ a.drop ((k + 1) * 3) = b.drop ((k + 1) * 3)) := by rw [HR.out, hda, hdb]; simp
        have HN := Lib.hid hn
        clear hn hda hdb hca hcb g0 g1 g2 i0 i1 i2
        cases e0 : (x0 != y0)
        · cases e1 : (x1 != y1)
          · cases e2 : (x2 != y2)
            · have hnx : a = b ↔ a.drop ((k + 1) * 3) = b.drop ((k + 1) * 3) := by
                have q0 : x0 = y0 := by simpa using e0
                have q1 : x1 = y1 := by simpa using e1
                have q2 : x2 = y2 := by simpa using e2
                rw [HN.out]; simp [q0, q1, q2]
              have HX := Lib.hid hnx
              clear hnx
              go_wp2_with fail
              go_quiet (fail)
              go_wp2_with fail
              go_roundw
              case rel => exact ⟨k + 1, by omega, by go_num, HX.out, hkr.drewN _⟩
              case measure => simp [intOf]; omega
            · have hno : ¬ a = b := by rw [HN.out]; simp at e2; intro h; exact e2 h.2.2.1
              have HX := Lib.hid hno
              clear hno
              go_wp2_with fail
              go_quiet (fail)
              go_wp2_with fail
              go_ret
              exact ⟨by rw [decide_eq_false HX.out]; rfl, hkr.drewN _⟩
          · have hno : ¬ a = b := by rw [HN.out]; simp at e1; intro h; exact e1 h.2.1
            have HX := Lib.hid hno
            clear hno
            go_wp2_with fail
            go_quiet (fail)
            go_wp2_with fail
            go_ret
            exact ⟨by rw [decide_eq_false HX.out]; rfl, hkr.drewN _⟩
        · have hno : ¬ a = b := by rw [HN.out]; simp at e0; intro h; exact e0 h.1
          have HX := Lib.hid hno
          clear hno
          go_wp2_with fail
          go_quiet (fail)
          go_wp2_with fail
          go_ret
          exact ⟨by rw [decide_eq_false HX.out]; rfl, hkr.drewN _⟩
      · obtain rfl : k = na := by omega
        have hn : a = b := by rw [HR.out, ← HAL.out, List.drop_length, HAL.out, ← HBL.out, List.drop_length]
        have HX := Lib.hid hn
        clear hn
        go_wp2_with fail
        go_ret
        exact ⟨by rw [decide_eq_true HX.out]; rfl, hkr⟩
  · have hlq : ((na : Int) != (nb : Int)) = true := by simp; omega
    have hn : ¬ a = b := fun h => hl (by rw [h] at hal; omega)
    have HN := Lib.hid hn
    clear hn hl hal hbl
    go_enter Tryz.func50, Tryz.ntmps50
    go_wp2_with fail
    go_ret
    exact ⟨by rw [decide_eq_false HN.out]; rfl, Kept.refl _ _⟩
end Go.Proofs.YtabiklpemoijcaaGreatDoor
