/- The documents' bounds on statutes: FewStatutes. -/
import Derived.Test.YtabiklpemoijcaaDoorGov2
namespace Go.Proofs.YtabiklpemoijcaaDoor
open Go.RowKit

def fewAt (x : Statute) : Bool := decide (x.reasons.length ≤ 18 ∧ x.weights.length ≤ 14) && x.reasons.all (fun r => decide (r.length ≤ 30))
def fewS (l : List Statute) : Bool := decide (l.length ≤ 18) && l.all fewAt

theorem all_no {α : Type} {p : α → Bool} {l : List α} {x : α} (h : x ∈ l) (hp : p x = false) : l.all p = false := by
  rw [Bool.eq_false_iff]; intro h2; rw [List.all_eq_true] at h2; have := h2 x h; rw [hp] at this; cases this
theorem take_all {α : Type} {p : α → Bool} {l : List α} {k : Nat} {x : α} (h : (l.take k).all p = true) (hx : l[k]? = some x) (hp : p x = true) : (l.take (k + 1)).all p = true := by
  have hk := (List.getElem?_eq_some_iff.1 hx).1
  have h1 := List.take_succ_eq_append_getElem hk
  rw [(List.getElem?_eq_some_iff.1 hx).2] at h1
  rw [h1, List.all_append, h]; simp [hp]
theorem fewS_no {l : List Statute} {x : Statute} (h : x ∈ l) (hp : fewAt x = false) : fewS l = false := by unfold fewS; rw [all_no h hp]; simp

set_option maxRecDepth 100000 in
set_option maxHeartbeats 2000000 in
theorem few_any (v : Value) (l : List Statute) (w : World) (h : StatsV w v l) (hs : ∀ x ∈ l, ∀ r ∈ x.reasons, r.length ≤ 9223372036854775807) :
    Calls Tryd.prog 28 #[v] w fun e w' => e = .returned (.bool (fewS l)) ∧ w = w' := by
  obtain ⟨cells, hrow, hcc⟩ := h.row
  obtain ⟨a, c, rfl, hl, _⟩ := hrow.form
  have H := Lib.hid h
  have HLl := Lib.hid hs
  clear h hrow hcc hs
  go_enter Tryd.func28, Tryd.ntmps28
  go_wp2_with fail
  go_loop [3] (fun i => ∃ k : Nat, k ≤ l.length ∧ k ≤ 19 ∧ i = .int .i64 k ∧ (l.take k).all fewAt = true) (fun i => l.length - (intOf i).toNat)
  case atStart => exact ⟨0, Nat.zero_le _, by omega, rfl, by simp⟩
  case round =>
    obtain ⟨k, hk, hk19, rfl, hall⟩ := hrel
    have HA := Lib.hid hall
    clear hall
    by_cases hlt : k < l.length
    · by_cases h18 : k ≤ 18
      · obtain ⟨x, hx⟩ : ∃ x, l[k]? = some x := ⟨_, List.getElem?_eq_getElem hlt⟩
        obtain ⟨b, off, ra, rc, wa, wc, rfl, x0, x1, x2, hst⟩ := H.out.at_ hx
        have hxm := List.mem_of_getElem? hx
        have HX := Lib.hid hx
        have HM := Lib.hid hxm
        obtain ⟨hr, hw⟩ := hst.rows
        obtain ⟨ra', rc', e1, hlr, _⟩ := hr.form
        obtain ⟨wa', wc', e2, hlw, _⟩ := hw.form
        have HR := Lib.hid hr
        have HL : Hid (∀ r ∈ x.reasons, r.length ≤ 9223372036854775807) := fun r hr => HLl.out x HM.out r hr
        clear e1 e2 hx hxm hst hw hr
        by_cases hr18 : x.reasons.length ≤ 18
        · by_cases hw14 : x.weights.length ≤ 14
          · go_wp2_with fail
            go_loop [4] (fun i => ∃ m : Nat, m ≤ x.reasons.length ∧ i = .int .i64 m ∧ (x.reasons.take m).all (fun r => decide (r.length ≤ 30)) = true) (fun i => x.reasons.length - (intOf i).toNat)
            case atStart => exact ⟨0, Nat.zero_le _, rfl, by simp⟩
            case round =>
              obtain ⟨m, hm, rfl, hms⟩ := hrel
              have HS := Lib.hid hms
              clear hms
              by_cases hml : m < x.reasons.length
              · obtain ⟨rb, ro, rfl, hcell⟩ := HR.out.at_ (by omega)
                have xm := hcell m _ (strs_get hml)
                have hrm : x.reasons[m]? = some x.reasons[m] := List.getElem?_eq_getElem hml
                have HRM := Lib.hid hrm
                have hlen := HL.out _ (List.getElem_mem hml)
                clear hcell hrm
                by_cases h30 : x.reasons[m].length ≤ 30
                · have HT := Lib.hid (take_all HS.out HRM.out (decide_eq_true h30))
                  go_wp2_with fail
                  go_round
                  case rel => exact ⟨m + 1, by omega, by go_num, HT.out⟩
                  case measure => simp [intOf]; omega
                · have HF := Lib.hid (fewS_no HM.out (by unfold fewAt; rw [all_no (List.getElem_mem hml) (decide_eq_false h30)]; simp))
                  go_wp2_with fail
                  go_ret
                  exact ⟨by rw [HF.out]; rfl, rfl⟩
              · obtain rfl : m = x.reasons.length := by omega
                rw [List.take_length] at HS
                have HT := Lib.hid (take_all HA.out HX.out (by unfold fewAt; rw [HS.out, decide_eq_true ⟨hr18, hw14⟩]; rfl))
                go_wp2_with fail
                go_round
                case rel => exact ⟨k + 1, by omega, by omega, by go_num, HT.out⟩
                case measure => simp [intOf]; omega
          · have HF := Lib.hid (fewS_no HM.out (by unfold fewAt; rw [decide_eq_false (by omega)]; rfl))
            go_wp2_with fail
            go_ret
            exact ⟨by rw [HF.out]; rfl, rfl⟩
        · have HF := Lib.hid (fewS_no HM.out (by unfold fewAt; rw [decide_eq_false (by omega)]; rfl))
          go_wp2_with fail
          go_ret
          exact ⟨by rw [HF.out]; rfl, rfl⟩
      · have HF : Hid (fewS l = false) := by show fewS l = false; unfold fewS; rw [decide_eq_false (by omega)]; rfl
        go_wp2_with fail
        go_ret
        exact ⟨by rw [HF.out]; simp; omega, rfl⟩
    · obtain rfl : k = l.length := by omega
      rw [List.take_length] at HA
      go_wp2_with fail
      go_ret
      exact ⟨by unfold fewS; rw [HA.out]; simp; omega, rfl⟩
end Go.Proofs.YtabiklpemoijcaaDoor
