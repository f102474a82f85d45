/- base.letter, digit, inner, run, Name. -/
import Derived.Test.YtabiklpemoijcaaDoorEnc
namespace Go.Proofs.YtabiklpemoijcaaDoor
open Go.RowKit

def letterB (c : UInt8) : Bool := (97 ≤ c.toNat && c.toNat ≤ 122) || (65 ≤ c.toNat && c.toNat ≤ 90)
def digitB (c : UInt8) : Bool := 48 ≤ c.toNat && c.toNat ≤ 57
def innerB (c : UInt8) : Bool := letterB c || digitB c || c.toNat == 95
def nameB (l : List UInt8) : Bool := !l.isEmpty && letterB (l.headD 0) && decide (l.length ≤ 20) && l.all innerB

theorem retB {a b : Bool} (h : a = true ↔ b = true) : Ending.returned (.bool a) = .returned (.bool b) := by rw [Bool.eq_iff_iff.2 h]

set_option maxHeartbeats 400000 in
theorem letter_any (c : UInt8) (w : World) : Calls Tryd.prog 80 #[.int .u8 (c.toNat : Int)] w fun e w' => e = .returned (.bool (letterB c)) ∧ w = w' := by
  obtain ⟨n, hn⟩ : ∃ n : Nat, c.toNat = n := ⟨_, rfl⟩
  have hb : n < 256 := by rw [← hn]; exact c.toNat_lt
  unfold letterB
  rw [hn]
  clear hn
  rcases (by omega : n < 65 ∨ (65 ≤ n ∧ n ≤ 90) ∨ (90 < n ∧ n < 97) ∨ (97 ≤ n ∧ n ≤ 122) ∨ 122 < n) with h | h | h | h | h
  all_goals
    go_enter Tryd.func80, Tryd.ntmps80
    go_wp2
    go_ret
    refine ⟨retB ?_, rfl⟩
    simp <;> omega

set_option maxHeartbeats 400000 in
theorem digit_any (c : UInt8) (w : World) : Calls Tryd.prog 93 #[.int .u8 (c.toNat : Int)] w fun e w' => e = .returned (.bool (digitB c)) ∧ w = w' := by
  obtain ⟨n, hn⟩ : ∃ n : Nat, c.toNat = n := ⟨_, rfl⟩
  have hb : n < 256 := by rw [← hn]; exact c.toNat_lt
  unfold digitB
  rw [hn]
  clear hn
  rcases (by omega : n < 48 ∨ (48 ≤ n ∧ n ≤ 57) ∨ 57 < n) with h | h | h
  all_goals
    go_enter Tryd.func93, Tryd.ntmps93
    go_wp2
    go_ret
    refine ⟨retB ?_, rfl⟩
    simp <;> omega

set_option maxHeartbeats 400000 in
theorem inner_any (c : UInt8) (w : World) : Calls Tryd.prog 82 #[.int .u8 (c.toNat : Int)] w fun e w' => e = .returned (.bool (innerB c)) ∧ w = w' := by
  have e95 : ((c.toNat : Int) == 95) = (c.toNat == 95) := by rw [Bool.eq_iff_iff]; simp only [beq_iff_eq]; omega
  have HI : Hid (innerB c = (letterB c || digitB c || c.toNat == 95)) := rfl
  cases h1 : letterB c
  · cases h2 : digitB c
    · go_enter Tryd.func82, Tryd.ntmps82
      go_wp2_with (first
        | (go_at_call 80; refine (letter_any c _).mono ?_; rw [h1]; rintro e w' ⟨rfl, rfl⟩)
        | (go_at_call 93; refine (digit_any c _).mono ?_; rw [h2]; rintro e w' ⟨rfl, rfl⟩))
      go_ret
      exact ⟨by rw [HI.out, h1, h2]; simp, rfl⟩
    · go_enter Tryd.func82, Tryd.ntmps82
      go_wp2_with (first
        | (go_at_call 80; refine (letter_any c _).mono ?_; rw [h1]; rintro e w' ⟨rfl, rfl⟩)
        | (go_at_call 93; refine (digit_any c _).mono ?_; rw [h2]; rintro e w' ⟨rfl, rfl⟩))
      go_ret
      exact ⟨by rw [HI.out, h1, h2]; simp, rfl⟩
  · go_enter Tryd.func82, Tryd.ntmps82
    go_wp2_with (first
      | (go_at_call 80; refine (letter_any c _).mono ?_; rw [h1]; rintro e w' ⟨rfl, rfl⟩))
    go_ret
    exact ⟨by rw [HI.out, h1]; simp, rfl⟩

/-- how many bytes at the head are inner ones -/
def runB (l : List UInt8) : Nat := (l.takeWhile innerB).length

set_option maxHeartbeats 800000 in
theorem run_inner (s : List UInt8) (w : World) (hs : s.length ≤ 1000000) :
    Calls Tryd.prog 81 #[.string ⟨s.toArray⟩, .func (.func 82) #[] #[]] w fun e w' => e = .returned (.int .i64 (runB s)) ∧ w = w' := by
  go_enter Tryd.func81, Tryd.ntmps81
  go_wp2_with fail
  go_loop [5] (fun i => ∃ k : Nat, k ≤ s.length ∧ i = .int .i64 k ∧ runB s = k + runB (s.drop k)) (fun i => s.length - (intOf i).toNat)
  case atStart => exact ⟨0, Nat.zero_le _, rfl, by simp⟩
  case round =>
    obtain ⟨k, hk, rfl, hr⟩ := hrel
    have HR := Lib.hid hr
    clear hr
    by_cases hlt : k < s.length
    · have hsz : k < (⟨s.toArray⟩ : ByteArray).size := by simpa [ByteArray.size] using hlt
      have hd : s.drop k = s[k] :: s.drop (k + 1) := List.drop_eq_getElem_cons hlt
      cases hb : innerB ((⟨s.toArray⟩ : ByteArray)[k]'hsz)
      · have hfin : runB s = k := by
          have : innerB s[k] = false := hb
          rw [HR.out, hd]
          show k + (List.takeWhile innerB (s[k] :: s.drop (k + 1))).length = k
          rw [List.takeWhile_cons, this]
          rfl
        have HF := Lib.hid hfin
        clear hfin hd
        go_wp2_with (go_at_call 82; refine (inner_any _ _).mono ?_; rw [hb]; rintro e w' ⟨rfl, rfl⟩)
        go_ret
        exact ⟨by rw [HF.out]; rfl, rfl⟩
      · have hn : runB s = (k + 1) + runB (s.drop (k + 1)) := by
          rw [HR.out, hd]
          have : innerB s[k] = true := hb
          simp only [runB, List.takeWhile_cons, this, if_true, List.length_cons]
          omega
        have HN := Lib.hid hn
        clear hn hd
        go_wp2_with (go_at_call 82; refine (inner_any _ _).mono ?_; rw [hb]; rintro e w' ⟨rfl, rfl⟩)
        go_round
        case rel => exact ⟨k + 1, by omega, by go_num, HN.out⟩
        case measure => simp [intOf]; omega
    · obtain rfl : k = s.length := by omega
      have hfin : runB s = s.length := by rw [HR.out]; simp [runB]
      have HF := Lib.hid hfin
      clear hfin
      go_wp2_with fail
      go_ret
      exact ⟨by rw [HF.out]; rfl, rfl⟩

theorem run_all (l : List UInt8) : (runB l = l.length) ↔ l.all innerB = true := by
  unfold runB
  induction l with
  | nil => simp
  | cons a l ih =>
    rw [List.takeWhile_cons, List.all_cons]
    cases h : innerB a
    · simp
    · simp only [if_true, List.length_cons, Bool.true_and]
      rw [← ih]; omega

set_option maxHeartbeats 800000 in
theorem name_any (s : List UInt8) (w : World) (hs : s.length ≤ 1000000) :
    Calls Tryd.prog 58 #[.string ⟨s.toArray⟩] w fun e w' => e = .returned (.bool (nameB s)) ∧ w = w' := by
  rcases s with _ | ⟨a, t⟩
  · go_enter Tryd.func58, Tryd.ntmps58
    go_wp2_with fail
    go_ret
    exact ⟨rfl, rfl⟩
  · have HN : Hid (nameB (a :: t) = (letterB a && decide ((a :: t).length ≤ 20) && (a :: t).all innerB)) := by simp [nameB, Hid]
    have HR := Lib.hid (run_all (a :: t))
    have hl : (a :: t).length = t.length + 1 := rfl
    have ht : t.length + 1 ≤ 1000000 := hs
    clear hs hl
    have hsz : 0 < (⟨(a :: t).toArray⟩ : ByteArray).size := by simp [ByteArray.size]
    have hg : letterB ((⟨(a :: t).toArray⟩ : ByteArray)[0]'hsz) = letterB a := rfl
    have HG := Lib.hid hg
    clear hg
    cases h1 : letterB a
    · go_enter Tryd.func58, Tryd.ntmps58
      go_wp2_with (go_at_call 80; refine (letter_any _ _).mono ?_; rw [HG.out, h1]; rintro e w' ⟨rfl, rfl⟩)
      go_ret
      exact ⟨by rw [HN.out, h1]; rfl, rfl⟩
    · by_cases h20 : t.length + 1 ≤ 20
      · have hrun := Lib.hid (run_inner (a :: t) w ht)
        obtain ⟨q, hq⟩ : ∃ q, runB (a :: t) = q := ⟨_, rfl⟩
        rw [hq] at HR hrun
        have HQ := Lib.hid hq
        clear hq
        by_cases hall : q = t.length + 1
        · have e1 : (a :: t).all innerB = true := HR.out.1 hall
          have E1 := Lib.hid e1
          have hqb : ((q : Int) == (t.length : Int) + 1) = true := by simp; omega
          clear e1 hall
          go_enter Tryd.func58, Tryd.ntmps58
          go_wp2_with (first
            | (go_at_call 80; refine (letter_any _ _).mono ?_; rw [HG.out, h1]; rintro e w' ⟨rfl, rfl⟩)
            | (go_at_call 81; refine hrun.out.mono ?_; rintro e w' ⟨rfl, rfl⟩))
          go_ret
          exact ⟨by rw [HN.out, h1, E1.out]; simp [h20], rfl⟩
        · have e1 : (a :: t).all innerB = false := by
            cases h : (a :: t).all innerB
            · rfl
            · exact absurd (HR.out.2 h) hall
          have E1 := Lib.hid e1
          have hqb : ((q : Int) == (t.length : Int) + 1) = false := by simp; omega
          clear e1 hall
          go_enter Tryd.func58, Tryd.ntmps58
          go_wp2_with (first
            | (go_at_call 80; refine (letter_any _ _).mono ?_; rw [HG.out, h1]; rintro e w' ⟨rfl, rfl⟩)
            | (go_at_call 81; refine hrun.out.mono ?_; rintro e w' ⟨rfl, rfl⟩))
          go_ret
          exact ⟨by rw [HN.out, h1, E1.out]; simp [h20], rfl⟩
      · go_enter Tryd.func58, Tryd.ntmps58
        go_wp2_with (go_at_call 80; refine (letter_any _ _).mono ?_; rw [HG.out, h1]; rintro e w' ⟨rfl, rfl⟩)
        go_ret
        exact ⟨by rw [HN.out, h1]; simp [h20], rfl⟩
end Go.Proofs.YtabiklpemoijcaaDoor
