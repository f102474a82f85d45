/- Equal things compare as equal: SameInts, SameLists, SameNums, SameProof, tickets and spends. -/
import Derived.Test.YtabiklpemoijcaaGreatDoorApp
import Derived.Test.YtabiklpemoijcaaGreatDoorStat
namespace Go.Proofs.YtabiklpemoijcaaGreatDoor
open Go.RowKit Tape

set_option maxHeartbeats 800000 in
theorem sameInts_any (va vb : Value) (a b : List Int) (w : World) (ha : Row w 1 va a.length (ints a)) (hb : Row w 1 vb b.length (ints b)) :
    Calls Tryz.prog 49 #[va, vb] w fun e w' => e = .returned (.bool (decide (a = b))) ∧ Kept [] w w' := by
  obtain ⟨aa, ca, rfl, hla, _⟩ := ha.form
  obtain ⟨ab, cb, rfl, hlb, _⟩ := hb.form
  by_cases hl : a.length = b.length
  · have hlq : ((a.length : Int) != (b.length : Int)) = false := by simp; omega
    have HL := Lib.hid hl
    clear hl
    go_enter Tryz.func49, Tryz.ntmps49
    go_wp2_with fail
    go_loopw [5] (fun i wr => ∃ k : Nat, k ≤ a.length ∧ i = .int .i64 k ∧ (a = b ↔ a.drop k = b.drop k) ∧ Kept [] w wr) (fun i _ => a.length - (intOf i).toNat)
    case atStart => exact ⟨0, Nat.zero_le _, rfl, by simp, Kept.refl _ _⟩
    case round =>
      obtain ⟨k, hk, rfl, hr, hkr⟩ := hrel
      have HR := Lib.hid hr
      clear hr
      by_cases hlt : k < a.length
      · have hltb : k < b.length := by have := HL.out; omega
        obtain ⟨ba, oa, rfl, hca⟩ := (ha.kept hkr).at_ (by omega)
        obtain ⟨bb, ob, rfl, hcb⟩ := (hb.kept hkr).at_ (by omega)
        have xa := hca k _ (ints_get hlt)
        have xb := hcb k _ (ints_get hltb)
        have hda : a.drop k = a[k] :: a.drop (k + 1) := List.drop_eq_getElem_cons hlt
        have hdb : b.drop k = b[k] :: b.drop (k + 1) := List.drop_eq_getElem_cons hltb
        by_cases he : a[k] = b[k]
        · have heq : (a[k] != b[k]) = false := by simp [he]
          have hn : a = b ↔ a.drop (k + 1) = b.drop (k + 1) := by rw [HR.out, hda, hdb, he]; exact ⟨fun h => (List.cons.inj h).2, fun h => by rw [h]⟩
          have HN := Lib.hid hn
          clear hn hda hdb he hca hcb
          go_wp2_with fail
          go_quiet (fail)
          go_wp2_with fail
          go_roundw
          case rel => exact ⟨k + 1, by omega, by go_num, HN.out, hkr.drewN _⟩
          case measure => simp [intOf]; omega
        · have heq : (a[k] != b[k]) = true := by simp [he]
          have hn : ¬ a = b := by rw [HR.out, hda, hdb]; intro h; injection h with h1; exact he h1
          have HN := Lib.hid hn
          clear hn hda hdb he hca hcb
          go_wp2_with fail
          go_quiet (fail)
          go_wp2_with fail
          go_ret
          exact ⟨by rw [decide_eq_false HN.out]; rfl, hkr.drewN _⟩
      · obtain rfl : k = a.length := by omega
        have hn : a = b := by rw [HR.out, List.drop_length, HL.out, List.drop_length]
        have HN := Lib.hid hn
        clear hn
        go_wp2_with fail
        go_ret
        exact ⟨by rw [decide_eq_true HN.out]; rfl, hkr⟩
  · have hlq : ((a.length : Int) != (b.length : Int)) = true := by simp; omega
    have hn : ¬ a = b := fun h => hl (by rw [h])
    have HN := Lib.hid hn
    clear hn hl
    go_enter Tryz.func49, Tryz.ntmps49
    go_wp2_with fail
    go_ret
    exact ⟨by rw [decide_eq_false HN.out]; rfl, Kept.refl _ _⟩


theorem sameInts_eq {va vb : Value} {l : List Int} {w : World} (ha : Row w 1 va l.length (ints l)) (hb : Row w 1 vb l.length (ints l)) :
    Calls Tryz.prog 49 #[va, vb] w fun e w' => e = .returned (.bool true) ∧ Kept [] w w' :=
  (sameInts_any va vb l l w ha hb).mono fun _ _ h => ⟨by rw [h.1]; simp, h.2⟩

set_option maxRecDepth 100000 in
set_option maxHeartbeats 1000000 in
theorem sameLists_eq (va vb : Value) (l : List (List Int)) (w : World) (ha : RowOf ListR 1 w va l) (hb : RowOf ListR 1 w vb l) :
    Calls Tryz.prog 144 #[va, vb] w fun e w' => e = .returned (.bool true) ∧ Kept [] w w' := by
  obtain ⟨aa, ca, rfl, hla, _⟩ := ha.form
  obtain ⟨ab, cb, rfl, hlb, _⟩ := hb.form
  have HA := Lib.hid ha
  have HB := Lib.hid hb
  have hlq : ((l.length : Int) != (l.length : Int)) = false := by simp
  clear ha hb
  go_enter Tryz.func144, Tryz.ntmps144
  go_wp2_with fail
  go_loopw [5] (fun i wr => ∃ k : Nat, k ≤ l.length ∧ i = .int .i64 k ∧ Kept [] w wr) (fun i _ => l.length - (intOf i).toNat)
  case atStart => exact ⟨0, Nat.zero_le _, rfl, Kept.refl _ _⟩
  case round =>
    obtain ⟨k, hk, rfl, hkr⟩ := hrel
    by_cases hlt : k < l.length
    · obtain ⟨ba, oa, ua, rfl, xa, v1, e1, hva⟩ := (RowOf.kept HA.out (fun _ _ x => x.kept hkr) hkr).one k hlt
      obtain ⟨bb, ob, ub, rfl, xb, v2, e2, hvb⟩ := (RowOf.kept HB.out (fun _ _ x => x.kept hkr) hkr).one k hlt
      injection e1 with e1
      injection e2 with e2
      subst e1 e2
      have HV : Hid (Calls Tryz.prog 49 #[ua, ub] wr.drew fun e w' => e = .returned (.bool true) ∧ Kept [] wr.drew w') := sameInts_eq (hva.kept ((Kept.refl _ _).drew)) (hvb.kept ((Kept.refl _ _).drew))
      have HC : Hid (∀ x : KW wr, Calls Tryz.prog 49 #[ua, ub] x.val fun e w' => e = .returned (.bool true) ∧ Kept [] x.val w') := fun x => sameInts_eq (hva.kept x.property) (hvb.kept x.property)
      have ya : ∀ x : KW wr, x.val.cell? ⟨ba, oa + k, none⟩ = some ua := fun x => x.cell xa
      have yb : ∀ x : KW wr, x.val.cell? ⟨bb, ob + k, none⟩ = some ub := fun x => x.cell xb
      clear hva hvb HV
      go_upto_region 6 with (fail)
      refine wp_region_kept wr (Kept.refl _ _) (by kernel_rfl) (by kernel_rfl) ?_
      repeat (go_big_quiet_step ((go_at_call 49; exact quiet_kept (HC.out _))))
      refine wpQuiet_nil ?_
      rintro w2 ⟨⟨_, hk3⟩, rfl⟩
      go_wp2_with fail
      go_roundw
      case rel => exact ⟨k + 1, by omega, by go_num, hkr.trans hk3⟩
      case measure => simp [intOf]; omega
    · obtain rfl : k = l.length := by omega
      go_wp2_with fail
      go_ret
      exact ⟨rfl, hkr⟩
end Go.Proofs.YtabiklpemoijcaaGreatDoor
