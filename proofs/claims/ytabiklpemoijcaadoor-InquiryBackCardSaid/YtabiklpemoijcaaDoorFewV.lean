/- The documents' bounds on votes: FewVotes. -/
import Derived.Test.YtabiklpemoijcaaDoorFew
import Derived.Test.YtabiklpemoijcaaDoorBallot
namespace Go.Proofs.YtabiklpemoijcaaDoor
open Go.RowKit

/-- a list of votes, as far as its bounds ask -/
structure VotesV (w : World) (v : Value) (l : List Vote) : Prop where
  row : ∃ cells, Row w 8 v l.length cells ∧ ∀ (i : Nat) (x : Vote), l[i]? = some x →
    ∃ ps n, cells[i * 8 + 4]? = some (.string ⟨x.reason.toArray⟩) ∧ cells[i * 8 + 5]? = some ps ∧ Row w 3 ps n (ints x.pts)

def fewVAt (x : Vote) : Bool := decide (x.pts.length ≤ 42) && decide (x.reason.length ≤ 30)
def fewV (l : List Vote) (m : Nat) : Bool := decide (l.length ≤ m) && l.all fewVAt
theorem fewV_no {l : List Vote} {m : Nat} {x : Vote} (h : x ∈ l) (hp : fewVAt x = false) : fewV l m = false := by unfold fewV; rw [all_no h hp]; simp

set_option maxRecDepth 100000 in
set_option maxHeartbeats 2000000 in
theorem fewVotes_any (v : Value) (l : List Vote) (m : Nat) (w : World) (h : VotesV w v l) (hm : m ≤ 1000000) (hs : ∀ x ∈ l, x.reason.length ≤ 9223372036854775807) :
    Calls Tryd.prog 32 #[v, .int .i64 (m : Int)] w fun e w' => e = .returned (.bool (fewV l m)) ∧ w = w' := by
  obtain ⟨cells, hrow, hcc⟩ := h.row
  obtain ⟨a, c, rfl, hl, _⟩ := hrow.form
  have HROW := Lib.hid hrow
  have HCC := Lib.hid hcc
  have HS := Lib.hid hs
  clear h hrow hcc hs
  go_enter Tryd.func32, Tryd.ntmps32
  go_wp2_with fail
  go_loop [5] (fun i => ∃ k : Nat, k ≤ l.length ∧ k ≤ m + 1 ∧ i = .int .i64 k ∧ (l.take k).all fewVAt = true) (fun i => l.length - (intOf i).toNat)
  case atStart => exact ⟨0, Nat.zero_le _, by omega, rfl, by simp⟩
  case round =>
    obtain ⟨k, hk, hkm, rfl, hall⟩ := hrel
    have HA := Lib.hid hall
    clear hall
    by_cases hlt : k < l.length
    · by_cases h18 : k ≤ m
      · obtain ⟨x, hx⟩ : ∃ x, l[k]? = some x := ⟨_, List.getElem?_eq_getElem hlt⟩
        obtain ⟨ps, n, g4, g5, hps⟩ := HCC.out k x hx
        obtain ⟨b, off, rfl, hc⟩ := HROW.out.at_ (by omega)
        obtain ⟨pa, pc, rfl, hpl, _⟩ := hps.form
        have x4 := hc _ _ g4
        have x5 := hc _ _ g5
        rw [← Nat.add_assoc] at x4 x5
        have hn3 : x.pts.length = n * 3 := by simpa [ints] using hps.1
        have hlen := HS.out x (List.mem_of_getElem? hx)
        have HX := Lib.hid hx
        have HM := Lib.hid (List.mem_of_getElem? hx)
        clear hc g4 g5 hps hx
        by_cases hp14 : n ≤ 14
        · by_cases hr30 : x.reason.length ≤ 30
          · have HT := Lib.hid (take_all HA.out HX.out (by unfold fewVAt; rw [hn3, decide_eq_true (by omega), decide_eq_true hr30]; rfl))
            clear hn3
            go_wp2_with fail
            go_round
            case rel => exact ⟨k + 1, by omega, by omega, by go_num, HT.out⟩
            case measure => simp [intOf]; omega
          · have HF := Lib.hid (fewV_no (m := m) HM.out (by unfold fewVAt; rw [decide_eq_false hr30]; simp))
            clear hn3
            go_wp2_with fail
            go_ret
            exact ⟨by rw [HF.out]; rfl, rfl⟩
        · have HF := Lib.hid (fewV_no (m := m) HM.out (by unfold fewVAt; rw [hn3, decide_eq_false (by omega)]; rfl))
          clear hn3
          go_wp2_with fail
          go_ret
          exact ⟨by rw [HF.out]; rfl, rfl⟩
      · have HF : Hid (fewV l m = false) := by show fewV l m = false; unfold fewV; rw [decide_eq_false (by omega)]; rfl
        go_wp2_with fail
        go_ret
        exact ⟨by rw [HF.out]; simp; omega, rfl⟩
    · obtain rfl : k = l.length := by omega
      rw [List.take_length] at HA
      go_wp2_with fail
      go_ret
      exact ⟨by unfold fewV; rw [HA.out]; simp, rfl⟩
end Go.Proofs.YtabiklpemoijcaaDoor
