/- Entries of gates' logs, the graph of bounds on their true times, and what its solutions are. Plain Lean. -/
import Derived.Test.YtcidfldeiklcjaaGreatDoorBf
/- JOINED: Bg Tm -/
/- Closed walks of negative weight: the fewest edges, the smallest of them. Plain Lean. -/
namespace Go.Proofs.YtcidfldeiklcjaaGreatDoor.Bf

variable {g : Gf} {n : Nat}

/-- a closed walk from a with k edges and negative weight -/
def Neg (g : Gf) (n k a : Nat) : Prop := ∃ l, Walk g n a a l ∧ l.length = k + 1 ∧ wt g l < 0
theorem walk_sub {a b x : Nat} {p q : List Nat} (h : Walk g n a b (p ++ x :: q)) : Walk g n a x (p ++ [x]) ∧ Walk g n x b (x :: q) ∧ wt g (p ++ x :: q) = wt g (p ++ [x]) + wt g (x :: q) := by
  have hs := h.steps
  rw [steps_append] at hs
  refine ⟨⟨?_, by simp, fun z hz => h.lt z (by simp at hz ⊢; rcases hz with hz | hz <;> simp [hz]), hs.1⟩, ⟨rfl, ?_, fun z hz => h.lt z (by simp at hz ⊢; rcases hz with hz | hz <;> simp [hz]), hs.2⟩, wt_append x p q⟩
  · have := h.head
    cases p <;> simpa using this
  · have := h.last
    simp only [List.getLast?_append, List.getLast?_cons] at this ⊢
    cases hr : q.getLast? with
    | none => rw [hr] at this; simpa using this
    | some y => rw [hr] at this; simpa using this
theorem walk_join {a b x : Nat} {p q : List Nat} (h1 : Walk g n a x (p ++ [x])) (h2 : Walk g n x b (x :: q)) : Walk g n a b (p ++ x :: q) ∧ wt g (p ++ x :: q) = wt g (p ++ [x]) + wt g (x :: q) := by
  refine ⟨⟨?_, ?_, fun z hz => ?_, ?_⟩, wt_append x p q⟩
  · have := h1.head
    cases p <;> simpa using this
  · have := h2.last
    simp only [List.getLast?_append, List.getLast?_cons] at this ⊢
    cases hr : q.getLast? with
    | none => rw [hr] at this; simpa using this
    | some y => rw [hr] at this; simpa using this
  · rcases List.mem_append.1 hz with hz | hz
    · exact h1.lt z (by simp [hz])
    · exact h2.lt z hz
  · rw [steps_append]; exact ⟨h1.steps, h2.steps⟩
/-- a walk can be made short, or there is a closed walk of negative weight with few edges -/
theorem shorten_or : ∀ (k : Nat) (l : List Nat) (a b : Nat), l.length = k → Walk g n a b l → (∃ m, m.length ≤ n ∧ Walk g n a b m ∧ wt g m ≤ wt g l) ∨ ∃ j x, 1 ≤ j ∧ j + 1 ≤ l.length ∧ Neg g n j x := by
  intro k
  induction k using Nat.strongRecOn with
  | _ k ih =>
    intro l a b hk h
    by_cases hl : l.length ≤ n
    · exact Or.inl ⟨l, hl, h, Int.le_refl _⟩
    · obtain ⟨x, p, q, r, rfl⟩ := not_nodup l fun hn => hl (nodup_le n l hn h.lt)
      obtain ⟨h1, h2, h3⟩ := walk_sub h
      obtain ⟨h4, h5, h6⟩ := walk_sub (p := x :: q) (x := x) (q := r) (by simpa using h2)
      by_cases hc : wt g (x :: q ++ [x]) < 0
      · exact Or.inr ⟨q.length + 1, x, by omega, by simp; omega, x :: q ++ [x], h4, by simp, hc⟩
      · obtain ⟨h7, h8⟩ := walk_join h1 h5
        rw [List.cons_append] at h6
        rcases ih _ (by subst hk; simp; omega) (p ++ x :: r) a b rfl h7 with ⟨m, g1, g2, g3⟩ | ⟨j, y, g1, g2, g3⟩
        · exact Or.inl ⟨m, g1, g2, by omega⟩
        · exact Or.inr ⟨j, y, g1, by simp at g2 ⊢; omega, g3⟩
/-- a closed walk of negative weight with the fewest edges meets each node once -/
theorem neg_nodup {k a : Nat} {c : List Nat} (h : Walk g n a a (c ++ [a])) (hl : c.length = k) (hw : wt g (c ++ [a]) < 0) (hmin : ∀ j x, 1 ≤ j → j < k → ¬ Neg g n j x) : c.Nodup := by
  refine Decidable.byContradiction fun hn => ?_
  obtain ⟨x, p, q, r, rfl⟩ := not_nodup c hn
  have e : p ++ x :: (q ++ x :: r) ++ [a] = p ++ x :: (q ++ x :: (r ++ [a])) := by simp
  rw [e] at h hw
  obtain ⟨h1, h2, h3⟩ := walk_sub h
  obtain ⟨h4, h5, h6⟩ := walk_sub (p := x :: q) (x := x) (q := r ++ [a]) (by simpa using h2)
  rw [List.cons_append] at h6
  simp at hl
  have h0 : ¬ wt g (x :: q ++ [x]) < 0 := fun hc => hmin (q.length + 1) x (by omega) (by omega) ⟨_, h4, by simp, hc⟩
  obtain ⟨h7, h8⟩ := walk_join h1 h5
  exact hmin (p.length + r.length + 1) a (by omega) (by omega) ⟨_, h7, by simp; omega, by omega⟩
/-- where no closed walk of at most n edges has negative weight none has -/
theorem neg_small {k a : Nat} (hk : 1 ≤ k) (h : Neg g n k a) : ∃ j x, 1 ≤ j ∧ j ≤ n ∧ Neg g n j x := by
  induction k using Nat.strongRecOn generalizing a with
  | _ k ih =>
    by_cases hkn : k ≤ n
    · exact ⟨k, a, hk, hkn, h⟩
    · obtain ⟨l, h1, h2, h3⟩ := h
      obtain ⟨c, rfl⟩ := List.getLast?_eq_some_iff.1 h1.last
      simp at h2
      refine Classical.byContradiction fun hno => ?_
      have hnd := neg_nodup h1 h2 h3 fun j x hj1 hj2 hj => hno (ih j hj2 hj1 hj)
      have := nodup_le n c hnd fun x hx => h1.lt x (by simp [hx])
      omega

/-- least weights of walks with k edges -/
def Back (g : Gf) (n k : Nat) (M : Gf) : Prop := ∀ a b, a < n → b < n → (M a b = far ∧ ∀ l, Walk g n a b l → l.length ≠ k + 1) ∨
  (M a b < far ∧ (∃ l, Walk g n a b l ∧ l.length = k + 1 ∧ wt g l = M a b) ∧ ∀ l, Walk g n a b l → l.length = k + 1 → M a b ≤ wt g l)
theorem back_zero : Back g n 0 (fun a b => if a = b then 0 else far) := by
  intro a b ha hb
  by_cases e : a = b
  · subst e
    refine Or.inr ⟨by simp [far], ⟨[a], walk_nil ha, rfl, by simp [wt]⟩, fun l _ hl => ?_⟩
    match l, hl with
    | [x], _ => simp [wt]
  · refine Or.inl ⟨by simp [e], fun l h hl => ?_⟩
    match l, h, hl with
    | [x], h, _ =>
      have h1 := h.head
      have h2 := h.last
      simp at h1 h2
      exact e (h1.symm.trans h2)
/-- the first step of a walk -/
theorem walk_first {a b x : Nat} {l : List Nat} (h : Walk g n a b (a :: x :: l)) : a < n ∧ x < n ∧ g a x < far ∧ Walk g n x b (x :: l) ∧ wt g (a :: x :: l) = g a x + wt g (x :: l) :=
  ⟨h.lt a (by simp), h.lt x (by simp), h.steps.1, ⟨rfl, by simpa using h.last, fun z hz => h.lt z (List.mem_cons_of_mem _ hz), h.steps.2⟩, rfl⟩
theorem walk_cons {a b x : Nat} {l : List Nat} (ha : a < n) (he : g a x < far) (h : Walk g n x b (x :: l)) : Walk g n a b (a :: x :: l) :=
  ⟨rfl, by simpa using h.last, fun z hz => by rcases List.mem_cons.1 hz with rfl | hz; exact ha; exact h.lt z hz, ⟨he, h.steps⟩⟩
theorem walk_head {a b : Nat} {l : List Nat} (h : Walk g n a b l) : ∃ m, l = a :: m := by
  have := h.head
  cases l with
  | nil => simp at this
  | cons x m => simp at this; subst this; exact ⟨m, rfl⟩
/-- what has been found of the next least weights: nodes below m taken as the first step's end -/
def NextP (g : Gf) (n k : Nat) (a b m : Nat) (x : Int) : Prop := (x = far ∧ ∀ y l, y < m → Walk g n a b (a :: y :: l) → l.length ≠ k) ∨
  (x < far ∧ (∃ y l, Walk g n a b (a :: y :: l) ∧ l.length = k ∧ wt g (a :: y :: l) = x) ∧ ∀ y l, y < m → Walk g n a b (a :: y :: l) → l.length = k → x ≤ wt g (a :: y :: l))
theorem next_start (k a b : Nat) : NextP g n k a b 0 far := Or.inl ⟨rfl, fun y l hy => by omega⟩
theorem next_skip {k a b m : Nat} {x : Int} {M : Gf} (hM : Back g n k M) (hm : m < n) (hb : b < n) (h : NextP g n k a b m x) (hs : far ≤ g a m ∨ far ≤ M m b) : NextP g n k a b (m + 1) x := by
  have no : ∀ l, Walk g n a b (a :: m :: l) → l.length ≠ k := by
    intro l hl hk
    obtain ⟨_, _, h3, h4, _⟩ := walk_first hl
    rcases hs with hs | hs
    · omega
    · rcases hM m b hm hb with ⟨_, h5⟩ | ⟨h5, _⟩
      · exact h5 _ h4 (by simp [hk])
      · omega
  rcases h with ⟨h1, h2⟩ | ⟨h1, h2, h3⟩
  · refine Or.inl ⟨h1, fun y l hy hl => ?_⟩
    by_cases e : y = m
    · subst e; exact no l hl
    · exact h2 y l (by omega) hl
  · refine Or.inr ⟨h1, h2, fun y l hy hl hk => ?_⟩
    by_cases e : y = m
    · subst e; exact absurd hk (no l hl)
    · exact h3 y l (by omega) hl hk
theorem next_take {k a b m : Nat} {x : Int} {M : Gf} (hM : Back g n k M) (ha : a < n) (hm : m < n) (hb : b < n) (h : NextP g n k a b m x) (h1 : g a m < far) (h2 : M m b < far) (hsum : g a m + M m b < far) :
    NextP g n k a b (m + 1) (min x (g a m + M m b)) := by
  rcases hM m b hm hb with ⟨h3, _⟩ | ⟨_, ⟨l, w1, w2, w3⟩, w4⟩
  · omega
  obtain ⟨t, rfl⟩ := walk_head w1
  have w5 := walk_cons ha h1 w1
  have w6 : wt g (a :: m :: t) = g a m + M m b := by rw [wt, w3]
  simp at w2
  have lo : ∀ l, Walk g n a b (a :: m :: l) → l.length = k → g a m + M m b ≤ wt g (a :: m :: l) := by
    intro l hl hk
    obtain ⟨_, _, _, h4, h5⟩ := walk_first hl
    have := w4 _ h4 (by simp [hk])
    omega
  rcases h with ⟨g1, g2⟩ | ⟨g1, ⟨y, l, g2, g3, g4⟩, g5⟩
  · subst g1
    refine Or.inr ⟨by omega, ⟨m, t, w5, w2, by omega⟩, fun y l hy hl hk => ?_⟩
    by_cases e : y = m
    · subst e; have := lo l hl hk; omega
    · exact absurd hk (g2 y l (by omega) hl)
  · refine Or.inr ⟨by omega, ?_, fun y l hy hl hk => ?_⟩
    · by_cases hc : x ≤ g a m + M m b
      · exact ⟨y, l, g2, g3, by omega⟩
      · exact ⟨m, t, w5, w2, by omega⟩
    · by_cases e : y = m
      · subst e; have := lo l hl hk; omega
      · have := g5 y l (by omega) hl hk; omega
theorem next_done {k : Nat} {N : Gf} (h : ∀ a b, a < n → b < n → NextP g n k a b n (N a b)) : Back g n (k + 1) N := by
  intro a b ha hb
  rcases h a b ha hb with ⟨h1, h2⟩ | ⟨h1, ⟨y, l, h2, h3, h4⟩, h5⟩
  · refine Or.inl ⟨h1, fun l hl hk => ?_⟩
    obtain ⟨t, rfl⟩ := walk_head hl
    match t, hl, hk with
    | [], _, hk => simp at hk
    | y :: t, hl, hk => exact h2 y t (walk_first hl).2.1 hl (by simpa using hk)
  · refine Or.inr ⟨h1, ⟨_, h2, by simp [h3], h4⟩, fun l hl hk => ?_⟩
    obtain ⟨t, rfl⟩ := walk_head hl
    match t, hl, hk with
    | [], _, hk => simp at hk
    | y :: t, hl, hk => exact h5 y t (walk_first hl).2.1 hl (by simpa using hk)
theorem back_neg {k a : Nat} {M : Gf} (hM : Back g n k M) (ha : a < n) : M a a < 0 ↔ Neg g n k a := by
  rcases hM a a ha ha with ⟨h1, h2⟩ | ⟨h1, ⟨l, h2, h3, h4⟩, h5⟩
  · constructor
    · intro h; rw [h1] at h; unfold far at h; omega
    · rintro ⟨l, h3, h4, _⟩; exact absurd h4 (h2 l h3)
  · constructor
    · intro h; exact ⟨l, h2, h3, by omega⟩
    · rintro ⟨l, h6, h7, h8⟩; have := h5 l h6 h7; omega

/-! ### the smallest cycle -/
def NegCyc (g : Gf) (n : Nat) (c : List Nat) : Prop := ∃ a t, c = a :: t ∧ Walk g n a a (c ++ [a]) ∧ wt g (c ++ [a]) < 0
/-- c begins with o, or comes after it -/
def After (o c : List Nat) : Prop := (∃ r, c = o ++ r) ∨ ∃ p x y q r, o = p ++ x :: q ∧ c = p ++ y :: r ∧ x < y
theorem negCyc_neg {c : List Nat} (h : NegCyc g n c) : ∃ a t, c = a :: t ∧ Neg g n c.length a := by
  obtain ⟨a, t, rfl, h1, h2⟩ := h
  exact ⟨a, t, rfl, _, h1, by simp, h2⟩
/-- what the search for the smallest cycle holds -/
structure Path (g : Gf) (n k first : Nat) (o : List Nat) (at_ : Nat) (sum : Int) (left : Nat) : Prop where
  walk : Walk g n first at_ o
  wt : wt g o = sum
  len : o.length + left = k
  goes : ∃ l, Walk g n at_ first l ∧ l.length = left + 2 ∧ sum + Bf.wt g l < 0
  least : ∀ c, NegCyc g n c → c.length = k → After o c
def Cond (g : Gf) (M : Gf) (first at_ : Nat) (sum : Int) (b : Nat) : Prop := g at_ b < far ∧ M b first < far ∧ sum + g at_ b + M b first < 0
theorem path_start {k first : Nat} (hk : 1 ≤ k) (hf : first < n) (h : Neg g n k first) (hmin : ∀ x, x < first → ¬ Neg g n k x) : Path g n k first [first] first 0 (k - 1) := by
  obtain ⟨l, h1, h2, h3⟩ := h
  refine ⟨walk_nil hf, by simp [Bf.wt], by simp; omega, ⟨l, h1, by omega, by omega⟩, fun c hc hl => ?_⟩
  obtain ⟨a, t, rfl, h4⟩ := negCyc_neg hc
  rw [hl] at h4
  rcases Nat.lt_trichotomy a first with h | h | h
  · exact absurd h4 (hmin a h)
  · subst h; exact Or.inl ⟨t, rfl⟩
  · exact Or.inr ⟨[], first, a, [], t, rfl, rfl, h⟩
theorem path_cond {k first at_ left : Nat} {o : List Nat} {sum : Int} {M : Gf} (h : Path g n k first o at_ sum (left + 1)) (hM : Back g n (left + 1) M) (hf : first < n) : ∃ b, b < n ∧ Cond g M first at_ sum b := by
  obtain ⟨l, h1, h2, h3⟩ := h.goes
  obtain ⟨t, rfl⟩ := walk_head h1
  match t, h1, h2, h3 with
  | [], _, h2, _ => simp at h2
  | b :: t, h1, h2, h3 =>
    obtain ⟨_, hb, he, hw, hwt⟩ := walk_first h1
    refine ⟨b, hb, he, ?_⟩
    rcases hM b first hb hf with ⟨_, h4⟩ | ⟨h4, _, h5⟩
    · exact absurd (by simpa using h2) (h4 _ hw)
    · have := h5 _ hw (by simpa using h2)
      exact ⟨h4, by omega⟩
theorem path_step {k first at_ left b : Nat} {o : List Nat} {sum : Int} {M : Gf} (h : Path g n k first o at_ sum (left + 1)) (hM : Back g n (left + 1) M) (hf : first < n) (hb : b < n) (hc : Cond g M first at_ sum b)
    (hmin : ∀ x, x < b → ¬ Cond g M first at_ sum x) : Path g n k first (o ++ [b]) b (sum + g at_ b) left := by
  obtain ⟨h1, h2⟩ := walk_snoc h.walk hb hc.1
  refine ⟨h1, by rw [h2, h.wt], by have := h.len; simp; omega, ?_, fun c hcyc hl => ?_⟩
  · rcases hM b first hb hf with ⟨h3, _⟩ | ⟨_, ⟨l, h4, h5, h6⟩, _⟩
    · have := hc.2.1; omega
    · exact ⟨l, h4, by omega, by rw [h6]; have := hc.2.2; omega⟩
  · rcases h.least c hcyc hl with ⟨r, rfl⟩ | ⟨p, x, y, q, r, rfl, rfl, hlt⟩
    · have hlen := h.len
      match r, hcyc, hl with
      | [], _, hl => simp at hl; omega
      | y :: r, hcyc, hl =>
        obtain ⟨a, t, e1, h3, h4⟩ := hcyc
        have ha : a = first := by
          have e2 := h.walk.head
          cases o with
          | nil => simp at e2
          | cons z o => simp at e1 e2; omega
        rw [ha] at h3 h4
        clear e1 ha
        obtain ⟨m, rfl⟩ := List.getLast?_eq_some_iff.1 h.walk.last
        have e3 : m ++ [at_] ++ y :: r ++ [first] = m ++ at_ :: (y :: r ++ [first]) := by simp
        rw [e3] at h3 h4
        obtain ⟨h5, h6, h7⟩ := walk_sub h3
        obtain ⟨_, hy, he, hw, hwt⟩ := walk_first (l := r ++ [first]) (by simpa using h6)
        have hwt0 := h.wt
        rw [List.cons_append] at h7 h4
        have hcy : Cond g M first at_ sum y := by
          refine ⟨he, ?_⟩
          simp at hl hlen
          rcases hM y first hy hf with ⟨_, h8⟩ | ⟨h8, _, h9⟩
          · exact absurd (by simp; omega) (h8 _ hw)
          · have := h9 _ hw (by simp; omega)
            exact ⟨h8, by omega⟩
        rcases Nat.lt_trichotomy b y with hby | hby | hby
        · exact Or.inr ⟨m ++ [at_], b, y, [], r, rfl, rfl, hby⟩
        · subst hby; exact Or.inl ⟨r, by simp⟩
        · exact absurd hcy (hmin y hby)
    · exact Or.inr ⟨p, x, y, q ++ [b], r, by simp, rfl, hlt⟩
/-- the search's end -/
theorem path_end {k first at_ : Nat} {o : List Nat} {sum : Int} (h : Path g n k first o at_ sum 0) (hmin : ∀ j x, 1 ≤ j → j < k → ¬ Neg g n j x) :
    o.length = k ∧ NegCyc g n o ∧ o.Nodup ∧ ∀ c, NegCyc g n c → c.length = k → c = o ∨ ∃ p x y q r, o = p ++ x :: q ∧ c = p ++ y :: r ∧ x < y := by
  have hlen := h.len
  obtain ⟨l, h1, h2, h3⟩ := h.goes
  obtain ⟨t, rfl⟩ := walk_head h1
  obtain ⟨m, hm⟩ := List.getLast?_eq_some_iff.1 h1.last
  match t, h1, h2, h3, hm with
  | [y], h1, h2, h3, hm =>
    have hy : y = first := by have := h1.last; simpa using this
    subst hy
    obtain ⟨_, hy, he, _, hwt⟩ := walk_first h1
    obtain ⟨g1, g2⟩ := walk_snoc h.walk hy he
    obtain ⟨t, ht⟩ := walk_head h.walk
    have hwt0 := h.wt
    have hw : wt g (o ++ [y]) < 0 := by rw [hwt] at h3; simp [wt] at h3; omega
    refine ⟨by omega, ⟨y, t, ht, g1, hw⟩, neg_nodup g1 (by omega) hw hmin, fun c hc hl => ?_⟩
    rcases h.least c hc hl with ⟨r, rfl⟩ | h4
    · have : r = [] := List.eq_nil_of_length_eq_zero (by simp at hl; omega)
      subst this; exact Or.inl (by simp)
    · exact Or.inr h4
  | [], h1, h2, _, _ => simp at h2
  | _ :: _ :: _, _, h2, _, _ => simp at h2
end Go.Proofs.YtcidfldeiklcjaaGreatDoor.Bf
namespace Go.Proofs.YtcidfldeiklcjaaGreatDoor.Tm
open Bf

structure Ent where
  gate : Int
  no : Int
  time : Int
  kind : Int
  nums : List Int
  text : List UInt8
  c : Int
  s : Int
def mt : Int := 2147483648
abbrev Edge := Nat × Nat × Int
/-- the graph that edges make: the smaller weight counts -/
def gOf (es : List Edge) : Gf := fun a b => es.foldl (fun m e => if e.1 = a ∧ e.2.1 = b then min m e.2.2 else m) far
theorem gOf_snoc (es : List Edge) (e : Edge) (a b : Nat) : gOf (es ++ [e]) a b = if e.1 = a ∧ e.2.1 = b then min (gOf es a b) e.2.2 else gOf es a b := by
  unfold gOf; rw [List.foldl_append]; rfl
theorem gOf_from (a b : Nat) : ∀ (es : List Edge) (m : Int), (es.foldl (fun m e => if e.1 = a ∧ e.2.1 = b then min m e.2.2 else m) m ≤ m) ∧
    (∀ e ∈ es, e.1 = a → e.2.1 = b → es.foldl (fun m e => if e.1 = a ∧ e.2.1 = b then min m e.2.2 else m) m ≤ e.2.2) ∧
    (es.foldl (fun m e => if e.1 = a ∧ e.2.1 = b then min m e.2.2 else m) m = m ∨ ∃ e ∈ es, e.1 = a ∧ e.2.1 = b ∧ es.foldl (fun m e => if e.1 = a ∧ e.2.1 = b then min m e.2.2 else m) m = e.2.2)
  | [], m => ⟨Int.le_refl _, by simp, Or.inl rfl⟩
  | x :: es, m => by
    simp only [List.foldl_cons]
    by_cases h : x.1 = a ∧ x.2.1 = b
    · rw [if_pos h]
      obtain ⟨h1, h2, h3⟩ := gOf_from a b es (min m x.2.2)
      refine ⟨by omega, fun e he e1 e2 => ?_, ?_⟩
      · rcases List.mem_cons.1 he with rfl | he
        · omega
        · exact h2 e he e1 e2
      · rcases h3 with h3 | ⟨e, he, e1, e2, e3⟩
        · by_cases hm : m ≤ x.2.2
          · exact Or.inl (by rw [h3]; omega)
          · exact Or.inr ⟨x, by simp, h.1, h.2, by rw [h3]; omega⟩
        · exact Or.inr ⟨e, by simp [he], e1, e2, e3⟩
    · rw [if_neg h]
      obtain ⟨h1, h2, h3⟩ := gOf_from a b es m
      refine ⟨h1, fun e he e1 e2 => ?_, ?_⟩
      · rcases List.mem_cons.1 he with rfl | he
        · exact absurd ⟨e1, e2⟩ h
        · exact h2 e he e1 e2
      · rcases h3 with h3 | ⟨e, he, e1, e2, e3⟩
        · exact Or.inl h3
        · exact Or.inr ⟨e, by simp [he], e1, e2, e3⟩
theorem gOf_le {es : List Edge} {e : Edge} (he : e ∈ es) : gOf es e.1 e.2.1 ≤ e.2.2 := (gOf_from _ _ es far).2.1 e he rfl rfl
theorem gOf_far (es : List Edge) (a b : Nat) : gOf es a b ≤ far := (gOf_from a b es far).1
theorem gOf_mem {es : List Edge} {a b : Nat} (h : gOf es a b < far) : ∃ e ∈ es, e.1 = a ∧ e.2.1 = b ∧ gOf es a b = e.2.2 := by
  rcases (gOf_from a b es far).2.2 with h1 | h1
  · unfold gOf at h; omega
  · exact h1
/-- times satisfy the graph just if they satisfy each edge -/
theorem feas_iff {es : List Edge} {n : Nat} {t : Nat → Int} (hlt : ∀ e ∈ es, e.1 < n ∧ e.2.1 < n ∧ e.2.2 < far) : Feas (gOf es) n t ↔ ∀ e ∈ es, t e.2.1 ≤ t e.1 + e.2.2 := by
  constructor
  · intro h e he
    obtain ⟨h1, h2, h3⟩ := hlt e he
    have h4 := gOf_le he
    have := h e.1 e.2.1 h1 h2 (by omega)
    omega
  · intro h a b ha hb hg
    obtain ⟨e, he, rfl, rfl, h2⟩ := gOf_mem hg
    rw [h2]; exact h e he

/-! ### the edges of entries -/
def near (x y : Ent) : Bool := decide (x.gate = y.gate) && (!decide (x.no = y.no) && decide (x.time ≤ y.time))
def hears (y x : Ent) : Bool := decide (x.gate = y.nums.getD 0 0) && decide (x.no = y.nums.getD 1 0)
def upW (d dr : Int) : Int := (d * (1000 + dr) + 999) / 1000
def downW (d dr : Int) : Int := -(d * (1000 - dr) / 1000)
def hearE (l : List Ent) (y : Ent) (i m : Nat) : List Edge := ((List.range m).filter fun k => match l[k]? with | some x => hears y x | none => false).map fun k => (i, k, 0)
def nearE (l : List Ent) (dr : Int) (i : Nat) : List Edge :=
  match l[i - 1]?, l[i]? with
  | some x, some y => if 0 < i ∧ near x y = true then [(i - 1, i, upW (y.time - x.time) dr), (i, i - 1, downW (y.time - x.time) dr)] else []
  | _, _ => []
def kindE (l : List Ent) (i : Nat) : List Edge :=
  match l[i]? with
  | some y => if y.kind = 1 then [(l.length, i, y.nums.getD 1 0), (i, l.length, -y.nums.getD 0 0)] else if y.kind = 2 then hearE l y i l.length else []
  | none => []
def baseE (l : List Ent) (i : Nat) : List Edge := [(l.length, i, mt), (i, l.length, 0)]
def edgesAt (l : List Ent) (dr : Int) (i : Nat) : List Edge := baseE l i ++ (nearE l dr i ++ kindE l i)
def edges (l : List Ent) (dr : Int) (m : Nat) : List Edge := (List.range m).flatMap (edgesAt l dr)
theorem edges_succ (l : List Ent) (dr : Int) (m : Nat) : edges l dr (m + 1) = edges l dr m ++ edgesAt l dr m := by
  unfold edges; rw [List.range_succ, List.flatMap_append]; simp

/-- what an entry that has form fulfils of this -/
structure WF (x : Ent) : Prop where
  time : 0 ≤ x.time ∧ x.time ≤ mt
  sync : x.kind = 1 → ∃ a b, x.nums = [a, b] ∧ 0 ≤ a ∧ a ≤ b ∧ b ≤ mt
  hear : x.kind = 2 → ∃ a b, x.nums = [a, b]
/-- what 'possible' asks at one entry -/
def PossAt (l : List Ent) (dr : Int) (at_ : Nat → Int) (i : Nat) : Prop :=
  (0 ≤ at_ i ∧ at_ i ≤ mt) ∧
  (∀ x y, 0 < i → l[i - 1]? = some x → l[i]? = some y → near x y = true → 1000 * (at_ i - at_ (i - 1)) ≤ (y.time - x.time) * (1000 + dr) + 999 ∧ (y.time - x.time) * (1000 - dr) - 1000 < 1000 * (at_ i - at_ (i - 1))) ∧
  (∀ y, l[i]? = some y → y.kind = 1 → y.nums.length = 2 → y.nums.getD 0 0 ≤ at_ i ∧ at_ i ≤ y.nums.getD 1 0) ∧
  (∀ y, l[i]? = some y → y.kind = 2 → y.nums.length = 2 → ∀ k x, l[k]? = some x → hears y x = true → at_ k ≤ at_ i)
def tOf (l : List Ent) (at_ : Nat → Int) : Nat → Int := fun i => if i = l.length then 0 else at_ i
theorem up_iff (d dr g : Int) : g ≤ upW d dr ↔ 1000 * g ≤ d * (1000 + dr) + 999 := by unfold upW; omega
theorem down_iff (d dr g : Int) : -downW d dr ≤ g ↔ d * (1000 - dr) - 1000 < 1000 * g := by unfold downW; omega
theorem at_iff (l : List Ent) (dr : Int) (at_ : Nat → Int) (i : Nat) (hi : i < l.length) (hw : ∀ x ∈ l, WF x) :
    PossAt l dr at_ i ↔ ∀ e ∈ edgesAt l dr i, tOf l at_ e.2.1 ≤ tOf l at_ e.1 + e.2.2 := by
  have ti : tOf l at_ i = at_ i := by unfold tOf; rw [if_neg (by omega)]
  have tE : tOf l at_ l.length = 0 := by unfold tOf; simp
  have tk : ∀ k, k < l.length → tOf l at_ k = at_ k := fun k hk => by unfold tOf; rw [if_neg (by omega)]
  have hy : l[i]? = some l[i] := List.getElem?_eq_getElem hi
  have base : (∀ e ∈ baseE l i, tOf l at_ e.2.1 ≤ tOf l at_ e.1 + e.2.2) ↔ 0 ≤ at_ i ∧ at_ i ≤ mt := by
    unfold baseE
    simp only [List.mem_cons, List.not_mem_nil, or_false, forall_eq_or_imp, forall_eq, ti, tE]
    omega
  have nearI : (∀ e ∈ nearE l dr i, tOf l at_ e.2.1 ≤ tOf l at_ e.1 + e.2.2) ↔
      ∀ x y, 0 < i → l[i - 1]? = some x → l[i]? = some y → near x y = true → 1000 * (at_ i - at_ (i - 1)) ≤ (y.time - x.time) * (1000 + dr) + 999 ∧ (y.time - x.time) * (1000 - dr) - 1000 < 1000 * (at_ i - at_ (i - 1)) := by
    have hp : l[i - 1]? = some (l[i - 1]'(by omega)) := List.getElem?_eq_getElem (by omega)
    unfold nearE
    rw [hy, hp]
    simp only
    by_cases hc : 0 < i ∧ near (l[i - 1]'(by omega)) l[i] = true
    · rw [if_pos hc]
      simp only [List.mem_cons, List.not_mem_nil, or_false, forall_eq_or_imp, forall_eq, ti, tk (i - 1) (by omega)]
      constructor
      · rintro ⟨h1, h2⟩ x y _ hx hy' _
        injection hx with hx; injection hy' with hy'
        subst hx; subst hy'
        exact ⟨(up_iff _ _ _).1 (by omega), (down_iff _ _ _).1 (by omega)⟩
      · intro h
        obtain ⟨h1, h2⟩ := h _ _ hc.1 rfl rfl hc.2
        have h3 := (up_iff _ _ _).2 h1
        have h4 := (down_iff _ _ _).2 h2
        omega
    · rw [if_neg hc]
      constructor
      · intro _ x y h0 hx hy' hn
        injection hx with hx; injection hy' with hy'
        subst hx; subst hy'
        exact absurd ⟨h0, hn⟩ hc
      · intro _ e he; cases he
  have kindI : (∀ e ∈ kindE l i, tOf l at_ e.2.1 ≤ tOf l at_ e.1 + e.2.2) ↔
      (∀ y, l[i]? = some y → y.kind = 1 → y.nums.length = 2 → y.nums.getD 0 0 ≤ at_ i ∧ at_ i ≤ y.nums.getD 1 0) ∧
      (∀ y, l[i]? = some y → y.kind = 2 → y.nums.length = 2 → ∀ k x, l[k]? = some x → hears y x = true → at_ k ≤ at_ i) := by
    have hwi := hw l[i] (List.getElem_mem hi)
    unfold kindE
    rw [hy]
    simp only [Option.some.injEq, forall_eq']
    by_cases k1 : l[i].kind = 1
    · obtain ⟨a, b, hn, _⟩ := hwi.sync k1
      rw [if_pos k1, hn]
      simp only [List.mem_cons, List.not_mem_nil, or_false, forall_eq_or_imp, forall_eq, ti, tE, k1]
      simp
      omega
    · by_cases k2 : l[i].kind = 2
      · obtain ⟨a, b, hn⟩ := hwi.hear k2
        rw [if_neg k1, if_pos k2]
        constructor
        · intro h
          refine ⟨fun h1 => absurd h1 k1, fun _ _ k x hx hh => ?_⟩
          have hk := (List.getElem?_eq_some_iff.1 hx).1
          have h2 := h (i, k, 0) (by
            unfold hearE
            rw [List.mem_map]
            exact ⟨k, List.mem_filter.2 ⟨List.mem_range.2 hk, by rw [hx]; exact hh⟩, rfl⟩)
          simp only [ti, tk k hk] at h2
          omega
        · rintro ⟨_, h⟩ e he
          unfold hearE at he
          rw [List.mem_map] at he
          obtain ⟨k, hk, rfl⟩ := he
          rw [List.mem_filter, List.mem_range] at hk
          obtain ⟨hk, hh⟩ := hk
          rw [List.getElem?_eq_getElem hk] at hh
          have := h k2 (by rw [hn]; rfl) k _ (List.getElem?_eq_getElem hk) hh
          simp only [ti, tk k hk]
          omega
      · rw [if_neg k1, if_neg k2]
        constructor
        · intro _; exact ⟨fun h1 => absurd h1 k1, fun h1 => absurd h1 k2⟩
        · intro _ e he; cases he
  unfold PossAt edgesAt
  rw [← base, ← nearI, ← kindI]
  constructor
  · rintro ⟨h1, h2, h3⟩ e he
    rcases List.mem_append.1 he with he | he
    · exact h1 e he
    · rcases List.mem_append.1 he with he | he
      · exact h2 e he
      · exact h3 e he
  · intro h
    exact ⟨fun e he => h e (List.mem_append_left _ he), fun e he => h e (List.mem_append_right _ (List.mem_append_left _ he)), fun e he => h e (List.mem_append_right _ (List.mem_append_right _ he))⟩
theorem edges_lt (l : List Ent) (dr : Int) (h0 : 0 ≤ dr) (h1 : dr ≤ 1000) (hw : ∀ x ∈ l, WF x) (m : Nat) (hm : m ≤ l.length) : ∀ e ∈ edges l dr m, e.1 < l.length + 1 ∧ e.2.1 < l.length + 1 ∧ -8589934592 ≤ e.2.2 ∧ e.2.2 ≤ 8589934592 := by
  intro e he
  unfold edges at he
  rw [List.mem_flatMap] at he
  obtain ⟨i, hi, he⟩ := he
  rw [List.mem_range] at hi
  have hil : i < l.length := by omega
  have hy : l[i]? = some l[i] := List.getElem?_eq_getElem hil
  have hwi := hw l[i] (List.getElem_mem hil)
  unfold edgesAt at he
  rcases List.mem_append.1 he with he | he
  · unfold baseE at he
    simp only [List.mem_cons, List.not_mem_nil, or_false] at he
    rcases he with rfl | rfl <;> simp [mt] <;> omega
  rcases List.mem_append.1 he with he | he
  · have hp : l[i - 1]? = some (l[i - 1]'(by omega)) := List.getElem?_eq_getElem (by omega)
    have hwp := hw (l[i - 1]'(by omega)) (List.getElem_mem _)
    unfold nearE at he
    rw [hy, hp] at he
    simp only at he
    split at he
    · next hc =>
      have hn := hc.2
      unfold near at hn
      simp only [Bool.and_eq_true, decide_eq_true_eq] at hn
      have t1 := hwi.time
      have t2 := hwp.time
      obtain ⟨d, hd⟩ : ∃ d, l[i].time - (l[i - 1]'(by omega)).time = d := ⟨_, rfl⟩
      rw [hd] at he
      have d0 : 0 ≤ d := by omega
      have d1 : d ≤ 2147483648 := by unfold mt at t1 t2; omega
      have u1 : d * (1000 + dr) ≤ d * 2000 := Int.mul_le_mul_of_nonneg_left (by omega) d0
      have u0 : 0 ≤ d * (1000 + dr) := Int.mul_nonneg d0 (by omega)
      have v1 : d * (1000 - dr) ≤ d * 1000 := Int.mul_le_mul_of_nonneg_left (by omega) d0
      have v0 : 0 ≤ d * (1000 - dr) := Int.mul_nonneg d0 (by omega)
      simp only [List.mem_cons, List.not_mem_nil, or_false] at he
      rcases he with rfl | rfl
      · refine ⟨?_, ?_, ?_⟩
        · simp only; omega
        · simp only; omega
        · simp only; unfold upW; omega
      · refine ⟨?_, ?_, ?_⟩
        · simp only; omega
        · simp only; omega
        · simp only; unfold downW; omega
    · cases he
  · unfold kindE at he
    rw [hy] at he
    simp only at he
    split at he
    · next k1 =>
      obtain ⟨a, b, hn, ha, hab, hb⟩ := hwi.sync k1
      unfold mt at hb
      rw [hn] at he
      simp only [List.mem_cons, List.not_mem_nil, or_false] at he
      rcases he with rfl | rfl <;> simp <;> omega
    · split at he
      · unfold hearE at he
        rw [List.mem_map] at he
        obtain ⟨k, hk, rfl⟩ := he
        rw [List.mem_filter, List.mem_range] at hk
        simp only
        omega
      · cases he
/-- 'possible' is what the whole graph asks -/
theorem poss_iff (l : List Ent) (dr : Int) (at_ : Nat → Int) (h0 : 0 ≤ dr) (h1 : dr ≤ 1000) (hw : ∀ x ∈ l, WF x) :
    (∀ i, i < l.length → PossAt l dr at_ i) ↔ Feas (gOf (edges l dr l.length)) (l.length + 1) (tOf l at_) := by
  rw [feas_iff (fun e he => by have := edges_lt l dr h0 h1 hw l.length (Nat.le_refl _) e he; unfold far; omega)]
  constructor
  · intro h e he
    unfold edges at he
    rw [List.mem_flatMap] at he
    obtain ⟨i, hi, he⟩ := he
    rw [List.mem_range] at hi
    exact (at_iff l dr at_ i hi hw).1 (h i hi) e he
  · intro h i hi
    refine (at_iff l dr at_ i hi hw).2 fun e he => h e ?_
    unfold edges
    rw [List.mem_flatMap]
    exact ⟨i, List.mem_range.2 hi, he⟩
end Go.Proofs.YtcidfldeiklcjaaGreatDoor.Tm
