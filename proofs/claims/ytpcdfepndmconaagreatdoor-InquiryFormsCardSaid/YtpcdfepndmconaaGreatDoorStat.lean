/- Statutes: ValidStatute, Seats. -/
import Derived.Test.YtpcdfepndmconaaGreatDoorEnc
import Derived.Test.YtpcdfepndmconaaGreatDoorBallot
/- JOINED: Name Stat -/
/- base.letter, digit, inner, run, Name. -/
namespace Go.Proofs.YtpcdfepndmconaaGreatDoor
open Go.RowKit

def letterB (c : UInt8) : Bool := (97 ≤ c.toNat && c.toNat ≤ 122) || (65 ≤ c.toNat && c.toNat ≤ 90)
def digitB (c : UInt8) : Bool := 48 ≤ c.toNat && c.toNat ≤ 57
def innerB (c : UInt8) : Bool := letterB c || digitB c || c.toNat == 95
def nameB (l : List UInt8) : Bool := !l.isEmpty && letterB (l.headD 0) && decide (l.length ≤ 20) && l.all innerB

theorem retB {a b : Bool} (h : a = true ↔ b = true) : Ending.returned (.bool a) = .returned (.bool b) := by rw [Bool.eq_iff_iff.2 h]

set_option maxHeartbeats 400000 in
theorem letter_any (c : UInt8) (w : World) : Calls Tryz.prog 130 #[.int .u8 (c.toNat : Int)] w fun e w' => e = .returned (.bool (letterB c)) ∧ w = w' := by
  obtain ⟨n, hn⟩ : ∃ n : Nat, c.toNat = n := ⟨_, rfl⟩
  have hb : n < 256 := by rw [← hn]; exact c.toNat_lt
  unfold letterB
  rw [hn]
  clear hn
  rcases (by omega : n < 65 ∨ (65 ≤ n ∧ n ≤ 90) ∨ (90 < n ∧ n < 97) ∨ (97 ≤ n ∧ n ≤ 122) ∨ 122 < n) with h | h | h | h | h
  all_goals
    go_enter Tryz.func130, Tryz.ntmps130
    go_wp2
    go_ret
    refine ⟨retB ?_, rfl⟩
    simp <;> omega

set_option maxHeartbeats 400000 in
theorem digit_any (c : UInt8) (w : World) : Calls Tryz.prog 186 #[.int .u8 (c.toNat : Int)] w fun e w' => e = .returned (.bool (digitB c)) ∧ w = w' := by
  obtain ⟨n, hn⟩ : ∃ n : Nat, c.toNat = n := ⟨_, rfl⟩
  have hb : n < 256 := by rw [← hn]; exact c.toNat_lt
  unfold digitB
  rw [hn]
  clear hn
  rcases (by omega : n < 48 ∨ (48 ≤ n ∧ n ≤ 57) ∨ 57 < n) with h | h | h
  all_goals
    go_enter Tryz.func186, Tryz.ntmps186
    go_wp2
    go_ret
    refine ⟨retB ?_, rfl⟩
    simp <;> omega

set_option maxHeartbeats 400000 in
theorem inner_any (c : UInt8) (w : World) : Calls Tryz.prog 132 #[.int .u8 (c.toNat : Int)] w fun e w' => e = .returned (.bool (innerB c)) ∧ w = w' := by
  have e95 : ((c.toNat : Int) == 95) = (c.toNat == 95) := by rw [Bool.eq_iff_iff]; simp only [beq_iff_eq]; omega
  have HI : Hid (innerB c = (letterB c || digitB c || c.toNat == 95)) := rfl
  cases h1 : letterB c
  · cases h2 : digitB c
    · go_enter Tryz.func132, Tryz.ntmps132
      go_wp2_with (first
        | (go_at_call 130; refine (letter_any c _).mono ?_; rw [h1]; rintro e w' ⟨rfl, rfl⟩)
        | (go_at_call 186; refine (digit_any c _).mono ?_; rw [h2]; rintro e w' ⟨rfl, rfl⟩))
      go_ret
      exact ⟨by rw [HI.out, h1, h2]; simp, rfl⟩
    · go_enter Tryz.func132, Tryz.ntmps132
      go_wp2_with (first
        | (go_at_call 130; refine (letter_any c _).mono ?_; rw [h1]; rintro e w' ⟨rfl, rfl⟩)
        | (go_at_call 186; refine (digit_any c _).mono ?_; rw [h2]; rintro e w' ⟨rfl, rfl⟩))
      go_ret
      exact ⟨by rw [HI.out, h1, h2]; simp, rfl⟩
  · go_enter Tryz.func132, Tryz.ntmps132
    go_wp2_with (first
      | (go_at_call 130; refine (letter_any c _).mono ?_; rw [h1]; rintro e w' ⟨rfl, rfl⟩))
    go_ret
    exact ⟨by rw [HI.out, h1]; simp, rfl⟩

/-- how many bytes at the head are inner ones -/
def runB (l : List UInt8) : Nat := (l.takeWhile innerB).length

set_option maxHeartbeats 800000 in
theorem run_inner (s : List UInt8) (w : World) (hs : s.length ≤ 100000000) :
    Calls Tryz.prog 131 #[.string ⟨s.toArray⟩, .func (.func 132) #[] #[]] w fun e w' => e = .returned (.int .i64 (runB s)) ∧ w = w' := by
  go_enter Tryz.func131, Tryz.ntmps131
  go_wp2_with fail
  go_loop [5] (fun i => ∃ k : Nat, k ≤ s.length ∧ i = .int .i64 k ∧ runB s = k + runB (s.drop k)) (fun i => s.length - (intOf i).toNat)
  case atStart => exact ⟨0, Nat.zero_le _, rfl, by simp⟩
  case round =>
    obtain ⟨k, hk, rfl, hr⟩ := hrel
    have HR := Lib.hid hr
    clear hr
    by_cases hlt : k < s.length
    · have hsz : k < (⟨s.toArray⟩ : ByteArray).size := by simpa [ByteArray.size] using hlt
      have hd : s.drop k = s[k] :: s.drop (k + 1) := List.drop_eq_getElem_cons hlt
      cases hb : innerB ((⟨s.toArray⟩ : ByteArray)[k]'hsz)
      · have hfin : runB s = k := by
          have : innerB s[k] = false := hb
          rw [HR.out, hd]
          show k + (List.takeWhile innerB (s[k] :: s.drop (k + 1))).length = k
          rw [List.takeWhile_cons, this]
          rfl
        have HF := Lib.hid hfin
        clear hfin hd
        go_wp2_with (go_at_call 132; refine (inner_any _ _).mono ?_; rw [hb]; rintro e w' ⟨rfl, rfl⟩)
        go_ret
        exact ⟨by rw [HF.out]; rfl, rfl⟩
      · have hn : runB s = (k + 1) + runB (s.drop (k + 1)) := by
          rw [HR.out, hd]
          have : innerB s[k] = true := hb
          simp only [runB, List.takeWhile_cons, this, if_true, List.length_cons]
          omega
        have HN := Lib.hid hn
        clear hn hd
        go_wp2_with (go_at_call 132; refine (inner_any _ _).mono ?_; rw [hb]; rintro e w' ⟨rfl, rfl⟩)
        go_round
        case rel => exact ⟨k + 1, by omega, by go_num, HN.out⟩
        case measure => simp [intOf]; omega
    · obtain rfl : k = s.length := by omega
      have hfin : runB s = s.length := by rw [HR.out]; simp [runB]
      have HF := Lib.hid hfin
      clear hfin
      go_wp2_with fail
      go_ret
      exact ⟨by rw [HF.out]; rfl, rfl⟩

theorem run_all (l : List UInt8) : (runB l = l.length) ↔ l.all innerB = true := by
  unfold runB
  induction l with
  | nil => simp
  | cons a l ih =>
    rw [List.takeWhile_cons, List.all_cons]
    cases h : innerB a
    · simp
    · simp only [if_true, List.length_cons, Bool.true_and]
      rw [← ih]; omega

set_option maxHeartbeats 800000 in
theorem name_any (s : List UInt8) (w : World) (hs : s.length ≤ 100000000) :
    Calls Tryz.prog 49 #[.string ⟨s.toArray⟩] w fun e w' => e = .returned (.bool (nameB s)) ∧ w = w' := by
  rcases s with _ | ⟨a, t⟩
  · go_enter Tryz.func49, Tryz.ntmps49
    go_wp2_with fail
    go_ret
    exact ⟨rfl, rfl⟩
  · have HN : Hid (nameB (a :: t) = (letterB a && decide ((a :: t).length ≤ 20) && (a :: t).all innerB)) := by simp [nameB, Hid]
    have HR := Lib.hid (run_all (a :: t))
    have hl : (a :: t).length = t.length + 1 := rfl
    have ht : t.length + 1 ≤ 100000000 := hs
    clear hs hl
    have hsz : 0 < (⟨(a :: t).toArray⟩ : ByteArray).size := by simp [ByteArray.size]
    have hg : letterB ((⟨(a :: t).toArray⟩ : ByteArray)[0]'hsz) = letterB a := rfl
    have HG := Lib.hid hg
    clear hg
    cases h1 : letterB a
    · go_enter Tryz.func49, Tryz.ntmps49
      go_wp2_with (go_at_call 130; refine (letter_any _ _).mono ?_; rw [HG.out, h1]; rintro e w' ⟨rfl, rfl⟩)
      go_ret
      exact ⟨by rw [HN.out, h1]; rfl, rfl⟩
    · by_cases h20 : t.length + 1 ≤ 20
      · have hrun := Lib.hid (run_inner (a :: t) w ht)
        obtain ⟨q, hq⟩ : ∃ q, runB (a :: t) = q := ⟨_, rfl⟩
        rw [hq] at HR hrun
        have HQ := Lib.hid hq
        clear hq
        by_cases hall : q = t.length + 1
        · have e1 : (a :: t).all innerB = true := HR.out.1 hall
          have E1 := Lib.hid e1
          have hqb : ((q : Int) == (t.length : Int) + 1) = true := by simp; omega
          clear e1 hall
          go_enter Tryz.func49, Tryz.ntmps49
          go_wp2_with (first
            | (go_at_call 130; refine (letter_any _ _).mono ?_; rw [HG.out, h1]; rintro e w' ⟨rfl, rfl⟩)
            | (go_at_call 131; refine hrun.out.mono ?_; rintro e w' ⟨rfl, rfl⟩))
          go_ret
          exact ⟨by rw [HN.out, h1, E1.out]; simp [h20], rfl⟩
        · have e1 : (a :: t).all innerB = false := by
            cases h : (a :: t).all innerB
            · rfl
            · exact absurd (HR.out.2 h) hall
          have E1 := Lib.hid e1
          have hqb : ((q : Int) == (t.length : Int) + 1) = false := by simp; omega
          clear e1 hall
          go_enter Tryz.func49, Tryz.ntmps49
          go_wp2_with (first
            | (go_at_call 130; refine (letter_any _ _).mono ?_; rw [HG.out, h1]; rintro e w' ⟨rfl, rfl⟩)
            | (go_at_call 131; refine hrun.out.mono ?_; rintro e w' ⟨rfl, rfl⟩))
          go_ret
          exact ⟨by rw [HN.out, h1, E1.out]; simp [h20], rfl⟩
      · go_enter Tryz.func49, Tryz.ntmps49
        go_wp2_with (go_at_call 130; refine (letter_any _ _).mono ?_; rw [HG.out, h1]; rintro e w' ⟨rfl, rfl⟩)
        go_ret
        exact ⟨by rw [HN.out, h1]; simp [h20], rfl⟩
end Go.Proofs.YtpcdfepndmconaaGreatDoor
namespace Go.Proofs.YtpcdfepndmconaaGreatDoor
open Go.RowKit

structure Statute where
  reasons : List (List UInt8)
  quorum : Int
  weights : List Int

def strs (l : List (List UInt8)) : List Value := l.map fun s => .string ⟨s.toArray⟩
theorem strs_get {l : List (List UInt8)} {k : Nat} (h : k < l.length) : (strs l)[k]? = some (.string ⟨l[k].toArray⟩) := by simp [strs, h]

/-- a statute's value -/
structure StatV (w : World) (v : Value) (x : Statute) : Prop where
  form : ∃ rs ws, v = .agg #[rs, .int .i64 x.quorum, ws] ∧ Row w 1 rs x.reasons.length (strs x.reasons) ∧ Row w 1 ws x.weights.length (ints x.weights)
  q : Wire.I64 x.quorum
  ws : ∀ n ∈ x.weights, Wire.I64 n

theorem StatV.kept {w w' : World} {v : Value} {x : Statute} (h : StatV w v x) (k : Kept [] w w') : StatV w' v x := by
  obtain ⟨⟨rs, ws, hv, h1, h2⟩, h3, h4⟩ := h
  exact ⟨⟨rs, ws, hv, h1.kept k, h2.kept k⟩, h3, h4⟩

def goodAt (rs : List (List UInt8)) (i : Nat) : Bool := nameB (rs.getD i []) && (i == 0 || Op.bytesLess (rs.getD (i - 1) []) (rs.getD i []))
def sumOk (q : Int) (s : Int) : Bool := decide (s ≤ 12) && (decide (1 ≤ q) && decide (q ≤ s))
def validS (x : Statute) : Bool :=
  decide (1 ≤ x.reasons.length ∧ x.reasons.length ≤ 16 ∧ 1 ≤ x.weights.length ∧ x.weights.length ≤ 12) && (List.range x.reasons.length).all (goodAt x.reasons) &&
    x.weights.all (fun n => decide (0 ≤ n ∧ n ≤ 12)) && sumOk x.quorum (sumW x.weights)

theorem foldl_min_le (l : List Int) : ∀ a : Int, l.foldl min a ≤ a ∧ (∀ x ∈ l, l.foldl min a ≤ x) ∧ (l.foldl min a = a ∨ l.foldl min a ∈ l) := by
  induction l with
  | nil => intro a; simp
  | cons b l ih =>
    intro a
    obtain ⟨h1, h2, h3⟩ := ih (min a b)
    refine ⟨by rw [List.foldl_cons]; omega, ?_, ?_⟩
    · intro x hx
      rw [List.mem_cons] at hx
      rw [List.foldl_cons]
      rcases hx with rfl | hx
      · omega
      · exact h2 x hx
    · rw [List.foldl_cons]
      rcases h3 with h3 | h3
      · rw [h3]
        rcases Int.le_total a b with hab | hab
        · left; omega
        · right; rw [show min a b = b by omega]; simp
      · right; exact List.mem_cons_of_mem _ h3
theorem foldl_max_le (l : List Int) : ∀ a : Int, a ≤ l.foldl max a ∧ (∀ x ∈ l, x ≤ l.foldl max a) ∧ (l.foldl max a = a ∨ l.foldl max a ∈ l) := by
  induction l with
  | nil => intro a; simp
  | cons b l ih =>
    intro a
    obtain ⟨h1, h2, h3⟩ := ih (max a b)
    refine ⟨by rw [List.foldl_cons]; omega, ?_, ?_⟩
    · intro x hx
      rw [List.mem_cons] at hx
      rw [List.foldl_cons]
      rcases hx with rfl | hx
      · omega
      · exact h2 x hx
    · rw [List.foldl_cons]
      rcases h3 with h3 | h3
      · rw [h3]
        rcases Int.le_total a b with hab | hab
        · right; rw [show max a b = b by omega]; simp
        · left; omega
      · right; exact List.mem_cons_of_mem _ h3
theorem minOf_spec {l : List Int} (h : l ≠ []) : Lib.minOf l ∈ l ∧ ∀ x ∈ l, Lib.minOf l ≤ x := by
  rcases l with _ | ⟨a, l⟩
  · exact absurd rfl h
  · obtain ⟨h1, h2, h3⟩ := foldl_min_le (a :: l) a
    refine ⟨?_, h2⟩
    rcases h3 with h3 | h3
    · show (a :: l).foldl min a ∈ _
      rw [h3]; simp
    · exact h3
theorem maxOf_spec {l : List Int} (h : l ≠ []) : Lib.maxOf l ∈ l ∧ ∀ x ∈ l, x ≤ Lib.maxOf l := by
  rcases l with _ | ⟨a, l⟩
  · exact absurd rfl h
  · obtain ⟨h1, h2, h3⟩ := foldl_max_le (a :: l) a
    refine ⟨?_, h2⟩
    rcases h3 with h3 | h3
    · show (a :: l).foldl max a ∈ _
      rw [h3]; simp
    · exact h3

theorem min_any (b off c : Nat) (l : List Int) (w : World) (hn : 0 < l.length) (hb : l.length ≤ 9223372036854775807) (hc : ∀ k u, (ints l)[k]? = some u → w.cell? ⟨b, off + k, none⟩ = some u) :
    Calls Tryz.prog 50 #[.slice (some ⟨b, off, none⟩) l.length c] w fun e w' => e = .returned (.int .i64 (Lib.minOf l)) ∧ w = w' := by
  refine (Tryz.slices_Min_int b off l.length c l w hn (Nat.le_refl _) hb (fun j hj => ?_)).mono fun e w' h => ?_
  · rw [hc j _ (ints_get hj)]; simp [hj]
  · rw [List.take_length] at h; exact ⟨h.1, h.2.symm⟩
theorem max_any (b off c : Nat) (l : List Int) (w : World) (hn : 0 < l.length) (hb : l.length ≤ 9223372036854775807) (hc : ∀ k u, (ints l)[k]? = some u → w.cell? ⟨b, off + k, none⟩ = some u) :
    Calls Tryz.prog 51 #[.slice (some ⟨b, off, none⟩) l.length c] w fun e w' => e = .returned (.int .i64 (Lib.maxOf l)) ∧ w = w' := by
  refine (Tryz.slices_Max_int b off l.length c l w hn (Nat.le_refl _) hb (fun j hj => ?_)).mono fun e w' h => ?_
  · rw [hc j _ (ints_get hj)]; simp [hj]
  · rw [List.take_length] at h; exact ⟨h.1, h.2.symm⟩

set_option maxHeartbeats 1000000 in
/-- the sizes are out of their ranges -/
theorem valid_sizes (rs ws : Value) (x : Statute) (w : World) (hr : Row w 1 rs x.reasons.length (strs x.reasons)) (hw : Row w 1 ws x.weights.length (ints x.weights))
    (hno : ¬ (1 ≤ x.reasons.length ∧ x.reasons.length ≤ 16 ∧ 1 ≤ x.weights.length ∧ x.weights.length ≤ 12)) :
    Calls Tryz.prog 9 #[.agg #[rs, .int .i64 x.quorum, ws]] w fun e w' => e = .returned (.bool false) ∧ Kept [] w w' := by
  obtain ⟨ra, rc, rfl, hlr, _⟩ := hr.form
  obtain ⟨wa, wc, rfl, hlw, _⟩ := hw.form
  obtain ⟨n, hn⟩ : ∃ n, x.reasons.length = n := ⟨_, rfl⟩
  obtain ⟨m, hm⟩ : ∃ m, x.weights.length = m := ⟨_, rfl⟩
  rw [hn, hm] at hno
  rw [hn] at hlr ⊢
  rw [hm] at hlw ⊢
  clear hn hm hr hw
  rcases (by omega : n = 0 ∨ 16 < n ∨ (1 ≤ n ∧ n ≤ 16 ∧ m = 0) ∨ (1 ≤ n ∧ n ≤ 16 ∧ 12 < m)) with h | h | h | h
  · subst h
    go_enter Tryz.func9, Tryz.ntmps9
    go_wp2_with fail
    go_ret
    exact ⟨rfl, (Kept.refl _ _).alloc _⟩
  · have q1 : ((n : Int) == 0) = false := by simp; omega
    go_enter Tryz.func9, Tryz.ntmps9
    go_wp2_with fail
    go_ret
    exact ⟨rfl, (Kept.refl _ _).alloc _⟩
  · obtain ⟨h1, h2, rfl⟩ := h
    have q1 : ((n : Int) == 0) = false := by simp; omega
    go_enter Tryz.func9, Tryz.ntmps9
    go_wp2_with fail
    go_ret
    exact ⟨rfl, (Kept.refl _ _).alloc _⟩
  · obtain ⟨h1, h2, h3⟩ := h
    have q1 : ((n : Int) == 0) = false := by simp; omega
    have q2 : ((m : Int) == 0) = false := by simp; omega
    go_enter Tryz.func9, Tryz.ntmps9
    go_wp2_with fail
    go_ret
    exact ⟨rfl, (Kept.refl _ _).alloc _⟩

theorem take_all_succ {f : Nat → Bool} {k : Nat} (h : (List.range k).all f = true) (hk : f k = true) : (List.range (k + 1)).all f = true := by
  rw [List.range_succ, List.all_append, h]; simp [hk]
theorem all_false {f : Nat → Bool} {n k : Nat} (hk : k < n) (h : f k = false) : (List.range n).all f = false := by
  rw [Bool.eq_false_iff]
  intro ha
  rw [List.all_eq_true] at ha
  have := ha k (List.mem_range.2 hk)
  rw [h] at this; cases this

/-- the rest of ValidStatute's answer, behind the sizes -/
def validRest (x : Statute) : Bool :=
  (List.range x.reasons.length).all (goodAt x.reasons) && x.weights.all (fun n => decide (0 ≤ n ∧ n ≤ 12)) && sumOk x.quorum (sumW x.weights)

set_option maxRecDepth 100000 in
set_option maxHeartbeats 2000000 in
theorem valid_walk (rs ws : Value) (x : Statute) (w : World) (hr : Row w 1 rs x.reasons.length (strs x.reasons)) (hw : Row w 1 ws x.weights.length (ints x.weights))
    (hs : ∀ r ∈ x.reasons, r.length ≤ 100000000)
    (h1 : 1 ≤ x.reasons.length) (h2 : x.reasons.length ≤ 16) (h3 : 1 ≤ x.weights.length) (h4 : x.weights.length ≤ 12) :
    Calls Tryz.prog 9 #[.agg #[rs, .int .i64 x.quorum, ws]] w fun e w' => e = .returned (.bool (validRest x)) ∧ Kept [] w w' := by
  obtain ⟨ra, rc, rfl, hlr, _⟩ := hr.form
  obtain ⟨wa, wc, rfl, hlw, _⟩ := hw.form
  obtain ⟨W, hW⟩ : ∃ W, w.alloc (.cells #[.slice ra x.reasons.length rc, .int .i64 x.quorum, .slice wa x.weights.length wc] 46) = W := ⟨_, rfl⟩
  have hb : Blk W w.heap.size 46 #[.slice ra x.reasons.length rc, .int .i64 x.quorum, .slice wa x.weights.length wc] := hW ▸ Blk.new _ _ _
  have hkW : Kept [] w W := hW ▸ (Kept.refl _ _).alloc _
  obtain ⟨rb, ro, rfl, hrc⟩ := (hr.kept hkW).at_ (by omega)
  obtain ⟨wb, wo, rfl, hwc⟩ := (hw.kept hkW).at_ (by omega)
  have e0 : W.cell? ⟨w.heap.size, 0, none⟩ = some (.slice (some ⟨rb, ro, none⟩) x.reasons.length rc) := hb.cell 0
  have e1 : W.cell? ⟨w.heap.size, 1, none⟩ = some (.int .i64 x.quorum) := hb.cell 1
  have e2 : W.cell? ⟨w.heap.size, 2, none⟩ = some (.slice (some ⟨wb, wo, none⟩) x.weights.length wc) := hb.cell 2
  have hwW := Lib.hid (hw.kept hkW)
  have HRC := Lib.hid hrc
  have HWC := Lib.hid hwc
  have HS := Lib.hid hs
  clear hrc hwc hs hr hw
  have q1 : ((x.reasons.length : Int) == 0) = false := beq_eq_false_iff_ne.2 (by omega)
  have q2 : ((x.weights.length : Int) == 0) = false := beq_eq_false_iff_ne.2 (by omega)
  have HW := Lib.hid hW
  have HV : Hid (validRest x = ((List.range x.reasons.length).all (goodAt x.reasons) && x.weights.all (fun n => decide (0 ≤ n ∧ n ≤ 12)) && sumOk x.quorum (sumW x.weights))) := rfl
  clear hW hb
  go_enter Tryz.func9, Tryz.ntmps9
  go_wp2_with fail
  have hW' : w.alloc (.cells #[.slice (some ⟨rb, ro, none⟩) x.reasons.length rc, .int .i64 x.quorum, .slice (some ⟨wb, wo, none⟩) x.weights.length wc] 46) = W := HW.out
  rw [hW']
  clear hW'
  go_loop [3, 4, 31] (fun _ _ i => ∃ k : Nat, k ≤ x.reasons.length ∧ i = .int .i64 k ∧ (List.range k).all (goodAt x.reasons) = true) (fun _ _ i => x.reasons.length - (intOf i).toNat)
  case atStart => exact ⟨0, Nat.zero_le _, rfl, by simp⟩
  case round =>
    obtain ⟨k, hk, rfl, hall⟩ := hrel
    have HA := Lib.hid hall
    clear hall
    by_cases hlt : k < x.reasons.length
    · have xk := HRC.out k _ (strs_get hlt)
      have hsk := HS.out _ (List.getElem_mem hlt)
      have hG : goodAt x.reasons k = (nameB x.reasons[k] && (k == 0 || Op.bytesLess (x.reasons.getD (k - 1) []) x.reasons[k])) := by
        unfold goodAt
        rw [show x.reasons.getD k [] = x.reasons[k] by simp [hlt]]
      have HG := Lib.hid hG
      clear hG
      cases hn : nameB x.reasons[k]
      · have hfin : validRest x = false := by
          rw [HV.out, all_false hlt (by rw [HG.out, hn]; rfl)]; rfl
        have HF := Lib.hid hfin
        clear hfin
        go_wp2_with (go_at_call 49; refine (name_any _ _ hsk).mono ?_; rw [hn]; rintro e w' ⟨rfl, rfl⟩)
        go_ret
        exact ⟨by rw [HF.out]; rfl, hkW⟩
      · rcases k with _ | j
        · have hg : (List.range 1).all (goodAt x.reasons) = true := take_all_succ (k := 0) HA.out (by rw [HG.out, hn]; rfl)
          have HGG := Lib.hid hg
          have xk0 : W.cell? ⟨rb, ro, none⟩ = some (.string ⟨(x.reasons[0]).toArray⟩) := xk
          clear hg xk
          go_wp2_with (go_at_call 49; refine (name_any _ _ hsk).mono ?_; rw [hn]; rintro e w' ⟨rfl, rfl⟩)
          go_round
          case rel => exact ⟨1, by omega, by go_num, HGG.out⟩
          case measure => simp [intOf]; omega
        · have xj := HRC.out j _ (strs_get (by omega : j < x.reasons.length))
          have hgd : x.reasons.getD (j + 1 - 1) [] = x.reasons[j]'(by omega) := by
            rw [Nat.add_sub_cancel]; simp [show j < x.reasons.length by omega]
          cases hbl : Op.bytesLess (x.reasons[j]'(by omega)) x.reasons[j + 1]
          · have hfin : validRest x = false := by
              rw [HV.out, all_false hlt (by rw [HG.out, hn, hgd, hbl]; rfl)]; rfl
            have HF := Lib.hid hfin
            clear hfin hgd
            go_wp2_with (go_at_call 49; refine (name_any _ _ hsk).mono ?_; rw [hn]; rintro e w' ⟨rfl, rfl⟩)
            go_ret
            exact ⟨by rw [HF.out]; rfl, hkW⟩
          · have hg : (List.range (j + 1 + 1)).all (goodAt x.reasons) = true := take_all_succ HA.out (by rw [HG.out, hn, hgd, hbl]; simp)
            have HGG := Lib.hid hg
            clear hg hgd
            go_wp2_with (go_at_call 49; refine (name_any _ _ hsk).mono ?_; rw [hn]; rintro e w' ⟨rfl, rfl⟩)
            go_round
            case rel => exact ⟨j + 1 + 1, by omega, by go_num, HGG.out⟩
            case measure => simp [intOf]; omega
    · obtain rfl : k = x.reasons.length := by omega
      have hne : x.weights ≠ [] := by intro h; rw [h] at h3; simp at h3
      obtain ⟨m1, m2⟩ := minOf_spec hne
      obtain ⟨M1, M2⟩ := maxOf_spec hne
      have HM1 := Lib.hid m1
      have HM2 := Lib.hid m2
      have HX1 := Lib.hid M1
      have HX2 := Lib.hid M2
      have HNE := Lib.hid hne
      clear m1 m2 M1 M2 hne
      by_cases hmin : Lib.minOf x.weights < 0
      · have hfin : validRest x = false := by
          have : x.weights.all (fun n => decide (0 ≤ n ∧ n ≤ 12)) = false := by
            rw [Bool.eq_false_iff]
            intro h
            rw [List.all_eq_true] at h
            have := h _ HM1.out
            simp at this; omega
          rw [HV.out, this]; simp
        have HF := Lib.hid hfin
        clear hfin
        go_wp2_with (go_at_call 50; refine (min_any wb wo wc x.weights _ (by omega) hlw HWC.out).mono ?_; rintro e w' ⟨rfl, rfl⟩)
        go_ret
        exact ⟨by rw [HF.out]; rfl, hkW⟩
      · by_cases hmax : 12 < Lib.maxOf x.weights
        · have hfin : validRest x = false := by
            have : x.weights.all (fun n => decide (0 ≤ n ∧ n ≤ 12)) = false := by
              rw [Bool.eq_false_iff]
              intro h
              rw [List.all_eq_true] at h
              have := h _ HX1.out
              simp at this; omega
            rw [HV.out, this]; simp
          have HF := Lib.hid hfin
          clear hfin
          go_wp2_with (first
            | (go_at_call 50; refine (min_any wb wo wc x.weights _ (by omega) hlw HWC.out).mono ?_; rintro e w' ⟨rfl, rfl⟩)
            | (go_at_call 51; refine (max_any wb wo wc x.weights _ (by omega) hlw HWC.out).mono ?_; rintro e w' ⟨rfl, rfl⟩))
          go_ret
          exact ⟨by rw [HF.out]; rfl, hkW⟩
        · have hall : ∀ n ∈ x.weights, 0 ≤ n ∧ n ≤ 12 := by
            intro n hn
            have a1 := HM2.out n hn
            have a2 := HX2.out n hn
            omega
          have hfin : validRest x = sumOk x.quorum (sumW x.weights) := by
            have : x.weights.all (fun n => decide (0 ≤ n ∧ n ≤ 12)) = true := by
              rw [List.all_eq_true]; intro n hn; simp; exact hall n hn
            rw [HV.out, this, HA.out]; simp
          have HF := Lib.hid hfin
          have hsb := sumW_bound x.weights hall
          have HT := Lib.hid (total_any _ x.weights W hwW.out hall (by omega))
          obtain ⟨S, hS⟩ : ∃ S, sumW x.weights = S := ⟨_, rfl⟩
          rw [hS] at HF HT hsb
          have HO : Hid (sumOk x.quorum S = (decide (S ≤ 12) && (decide (1 ≤ x.quorum) && decide (x.quorum ≤ S)))) := rfl
          clear hfin hall hS
          rcases (by omega : 12 < S ∨ (S ≤ 12 ∧ x.quorum < 1) ∨ (S ≤ 12 ∧ 1 ≤ x.quorum ∧ S < x.quorum) ∨ (S ≤ 12 ∧ 1 ≤ x.quorum ∧ x.quorum ≤ S)) with hc | hc | hc | hc
          all_goals
            go_wp2_with (first
              | (go_at_call 50; refine (min_any wb wo wc x.weights _ (by omega) hlw HWC.out).mono ?_; rintro e w' ⟨rfl, rfl⟩)
              | (go_at_call 51; refine (max_any wb wo wc x.weights _ (by omega) hlw HWC.out).mono ?_; rintro e w' ⟨rfl, rfl⟩)
              | (go_at_call 52; refine HT.out.mono ?_; rintro e w' ⟨rfl, rfl⟩))
            go_ret
            refine ⟨?_, hkW⟩
            rw [HF.out, HO.out]
            refine retB ?_
            simp <;> omega

theorem valid_any (v : Value) (x : Statute) (w : World) (h : StatV w v x) (hs : ∀ r ∈ x.reasons, r.length ≤ 100000000) :
    Calls Tryz.prog 9 #[v] w fun e w' => e = .returned (.bool (validS x)) ∧ Kept [] w w' := by
  obtain ⟨rs, ws, rfl, hr, hw⟩ := h.form
  by_cases hz : 1 ≤ x.reasons.length ∧ x.reasons.length ≤ 16 ∧ 1 ≤ x.weights.length ∧ x.weights.length ≤ 12
  · have e1 : validS x = validRest x := by unfold validS validRest; rw [decide_eq_true hz]; simp
    rw [e1]
    exact valid_walk rs ws x w hr hw hs hz.1 hz.2.1 hz.2.2.1 hz.2.2.2
  · have e1 : validS x = false := by unfold validS; rw [decide_eq_false hz]; simp
    rw [e1]
    exact valid_sizes rs ws x w hr hw hz

theorem validS_facts {x : Statute} (h : validS x = true) : 1 ≤ x.reasons.length ∧ x.reasons.length ≤ 16 ∧ 1 ≤ x.weights.length ∧ x.weights.length ≤ 12 ∧
    (∀ n ∈ x.weights, 0 ≤ n ∧ n ≤ 12) ∧ sumW x.weights ≤ 12 ∧ 1 ≤ x.quorum ∧ x.quorum ≤ sumW x.weights := by
  unfold validS sumOk at h
  simp only [Bool.and_eq_true, decide_eq_true_eq, List.all_eq_true] at h
  obtain ⟨⟨⟨⟨h1, h2, h3, h4⟩, _⟩, h5⟩, h6, h7, h8⟩ := h
  exact ⟨h1, h2, h3, h4, h5, h6, h7, h8⟩
end Go.Proofs.YtpcdfepndmconaaGreatDoor
