/- Walks in a weighted graph: bounds by potentials, walks made short, what a fixpoint of relaxations is. Plain Lean. -/
import Derived.Test.YtcidfldeiklcjaaGreatDoorApp
import Derived.Laws.CopyOwn
import Derived.Deep.RegionLaw
/- JOINED: Rpt Bf -/
/- slices.Repeat of one number. -/
namespace Go.Proofs.YtcidfldeiklcjaaGreatDoor
open Go.RowKit

/-- how Repeat ends: a new block of equal numbers -/
def RepE (x : Int) (m : Nat) (w : World) (e : Ending) (w' : World) : Prop :=
  ∃ b, e = .returned (.slice (some ⟨b, 0, none⟩) m m) ∧ w.heap.size ≤ b ∧ Blk w' b 3 (List.replicate m (Value.int .i64 x)).toArray ∧ Kept [] w w'

theorem splice_pre {α : Type} (cur : List α) (k j : Nat) (v : α) (hp : cur.take k = List.replicate k v) (hj : k + j ≤ cur.length) :
    (splice cur k (List.replicate j v)).length = cur.length ∧ (splice cur k (List.replicate j v)).take (k + j) = List.replicate (k + j) v := by
  refine ⟨length_splice _ _ _ (by simpa using hj), ?_⟩
  unfold splice
  rw [hp, ← List.append_assoc, List.replicate_append_replicate, List.take_append_of_le_length (by simp), List.take_of_length_le (by simp)]

set_option maxRecDepth 100000 in
set_option maxHeartbeats 1000000 in
theorem rep_any (x : Int) (m : Nat) (a : Option Addr) (c : Nat) (w : World) (h : Row w 1 (.slice a 1 c) 1 (ints [x])) (h1 : 1 ≤ m) (h2 : m ≤ 1000) :
    Calls Tryz.prog 33 #[.slice a 1 c, .int .i64 m] w (RepE x m w) := by
  obtain ⟨b, off, rfl, hc⟩ := h.at_ (by omega)
  have x0 := hc 0 _ rfl
  obtain ⟨i0, hi, hz0, hz1, hz2⟩ := info_parts infoInt
  have hsz : (Tryz.prog.info? 3).map (·.size) = some 1 := by kernel_rfl
  have MU := Lib.hid (fun W => Tryz.bits_Mul 1 m (by omega) (by omega) W)
  have q1 : 1 * m / 18446744073709551616 = 0 := by omega
  have q2 : 1 * m % 18446744073709551616 = m := by omega
  rw [q1, q2] at MU
  clear q1 q2 hc
  have hbw := World.block_lt_of_cell? _ _ x0
  have d1 : decide ((m : Int) < 0) = false := by simp
  have d2 : decide ((9223372036854775807 : Int) < (m : Int)) = false := by simp; omega
  go_enter Tryz.func33, Tryz.ntmps33
  go_wp2_with (first
    | (go_at_call 68; refine (MU.out _).mono ?_; rintro e w1 ⟨rfl, rfl⟩)
    | (at_make; refine wpList_make_full _ rfl _ _ 24 rfl w1.heap.size 3 i0 (.int .i64 0) 1 Tryz.underlying24 hi hz0 hz1 _ _ _ _ m rfl rfl rfl rfl ?b1 ?b2 (Nat.le_refl _) ?_))
  case b1 => rw [hz2]; omega
  case b2 => unfold maxLen; omega
  intro w2 hown hgr
  obtain ⟨hl0, hr⟩ := hown
  rcases hr with ⟨hv, _⟩ | ⟨g, cap, cur, hv, hBg, hg, hnc, hcm, hcs, htk⟩
  · cases hv
  injection hv with hv1 hv2 hv3
  injection hv1 with hv1
  injection hv1 with hv1
  subst hv3
  obtain ⟨C, rfl⟩ : ∃ C : List Value, cur = C.toArray := ⟨cur.toList, by simp⟩
  have hCl : C.length = m := by simpa using hcs
  have hB2 : Below w1.heap.size w1 w2 := (Below.refl _ _).grown hgr (Nat.le_refl _) (by simp)
  have hx2 : w2.cell? ⟨b, off + 0, none⟩ = some (.int .i64 x) := (hB2.cell (p := ⟨b, off + 0, none⟩) hbw).trans x0
  rw [← hv1] at hg hBg
  clear hl0 htk hcs hgr hv1 hv2
  have HC := Lib.hid hCl
  clear hCl x0
  have N2 : Hid (∀ j v, [Value.int .i64 x][j]? = some v → w2.cell? ((⟨b, off, none⟩ : Addr).add j) = some v) := fun j v hj => by
    match j, hj with
    | 0, hj => simp at hj; subst hj; exact hx2
  have N3 : Hid (0 + [Value.int .i64 x].length ≤ C.length) := by show 0 + 1 ≤ C.length; rw [HC.out]; omega
  have N4 : Hid (∀ v ∈ [Value.int .i64 x], v.oneCell' = true) := fun v hv => by rw [List.mem_singleton] at hv; subst hv; rfl
  have N1 : Hid ([Value.int .i64 x].length = Nat.min 1 m) := by show 1 = min 1 m; omega
  go_wp2_with (with_reducible refine wpList_copy_splice rfl (.tmp 31) (.tmp 32) 24 24 rfl 3 Tryz.underlying24 hsz (some ⟨w1.heap.size, 0, none⟩) (some ⟨b, off, none⟩) m m 1 c rfl rfl w1.heap.size 0 C 3 hg [.int .i64 x] N1.out (fun _ => ⟨rfl, _, rfl, N2.out⟩) N3.out N4.out w1.heap.size w1 hB2 (Nat.le_refl _) ?_)
  intro w3 HG hB3
  have s0 := splice_pre C 0 1 (Value.int .i64 x) (by simp) (by rw [HC.out]; omega)
  obtain ⟨C1, hC1⟩ : ∃ C1, splice C 0 [Value.int .i64 x] = C1 := ⟨_, rfl⟩
  rw [hC1] at HG
  have s1 : C1.length = m ∧ C1.take 1 = List.replicate 1 (Value.int .i64 x) := by
    rw [← hC1]; exact ⟨s0.1.trans HC.out, by simpa using s0.2⟩
  have S1 := Lib.hid s1
  clear s0 s1 hC1 HC hg hB2 hx2 hBg
  go_wp2_with fail
  go_loopw [8] (fun i wr => ∃ (k : Nat) (D : List Value), 1 ≤ k ∧ k ≤ m ∧ i = .int .i64 k ∧ wr.heap[w1.heap.size]? = some (.cells D.toArray 3 (0, 0)) ∧ D.length = m ∧ D.take k = List.replicate k (.int .i64 x) ∧ Below w1.heap.size w1 wr) (fun i _ => m - (intOf i).toNat)
  case atStart => exact ⟨1, C1, Nat.le_refl _, h1, rfl, HG.out, S1.out.1, S1.out.2, hB3⟩
  case round =>
    obtain ⟨k, D, hk1, hk, rfl, hg, hDl, hDt, hBr⟩ := hrel
    have HD := Lib.hid (And.intro hDl hDt)
    clear hDl hDt
    by_cases hlt : k < m
    · go_wp2_with fail
      have N1 : Hid ((List.replicate (min k (m - k)) (Value.int .i64 x)).length = Nat.min k (m - k)) := by show _ = min k (m - k); simp
      have N2 : Hid (∀ j v, (List.replicate (min k (m - k)) (Value.int .i64 x))[j]? = some v → wr.drew.cell? ((⟨w1.heap.size, 0, none⟩ : Addr).add j) = some v) := fun j v hj => by
        have hjl := (List.getElem?_eq_some_iff.1 hj).1
        rw [List.length_replicate] at hjl
        rw [List.getElem?_replicate, if_pos hjl] at hj
        have h5 : (D.take k)[j]? = some v := by rw [HD.out.2, List.getElem?_replicate, if_pos (by omega)]; exact hj
        rw [List.getElem?_take, if_pos (by omega)] at h5
        have h6 : Blk wr w1.heap.size 3 D.toArray := hg
        have h7 := h6.cell j
        rw [List.getElem?_toArray, h5] at h7
        rw [Addr.add_lit, Nat.zero_add]
        exact h7
      have N3 : Hid (k + (List.replicate (min k (m - k)) (Value.int .i64 x)).length ≤ D.length) := by show _ ≤ _; rw [List.length_replicate, HD.out.1]; omega
      have N4 : Hid (∀ v ∈ List.replicate (min k (m - k)) (Value.int .i64 x), v.oneCell' = true) := fun v hv => by rw [(List.mem_replicate.1 hv).2]; rfl
      have hg' : wr.drew.heap[w1.heap.size]? = some (.cells D.toArray 3 (0, 0)) := hg
      have hBd : Below w1.heap.size w1 wr.drew := ⟨hBr.os, hBr.tape, hBr.output, hBr.size, hBr.block⟩
      have hmk : ¬ m = k := by omega
      have hwr : IntKind.i64.wrap ((k : Int) + ((min k (m - k) : Nat) : Int)) = ((k + min k (m - k) : Nat) : Int) := by rw [IntKind.wrap_i64]; omega
      have hsp := splice_pre D k (min k (m - k)) (Value.int .i64 x) HD.out.2 (by rw [HD.out.1]; omega)
      have HS := Lib.hid hsp
      clear hsp
      go_region_law (refine step_copy_splice rfl (.tmp 41) (.tmp 44) 24 24 rfl 3 Tryz.underlying24 hsz (some ⟨w1.heap.size, k, none⟩) (some ⟨w1.heap.size, 0, none⟩) (m - k) (m - k) k m (by simp [Act.eval, Act.put]) (by simp [Act.eval, Act.put]) w1.heap.size k D 3 hg' _ N1.out (fun _ => ⟨rfl, _, rfl, N2.out⟩) N3.out N4.out w1.heap.size w1 hBd (Nat.le_refl _) ?_; intro w4 HG4 hB4)
      simp only [List.getElem_toArray, List.getElem_cons_succ, List.getElem_cons_zero]; go_frame; go_wp2
      go_roundw
      case rel => exact ⟨k + min k (m - k), _, by omega, by omega, rfl, HG4.out, HS.out.1.trans HD.out.1, HS.out.2, hB4⟩
      case measure => simp [intOf]; omega
    · obtain rfl : k = m := by omega
      go_wp2_with fail
      go_ret
      exact ⟨_, rfl, Nat.le_refl _, by
        have := HD.out.2
        rw [List.take_of_length_le (by rw [HD.out.1]; omega)] at this
        rw [← this]; exact hg, ⟨hBr.os, hBr.tape, hBr.output, hBr.size, fun k hk _ => hBr.block k hk⟩⟩
end Go.Proofs.YtcidfldeiklcjaaGreatDoor
namespace Go.Proofs.YtcidfldeiklcjaaGreatDoor.Bf

def far : Int := 1152921504606846976
abbrev Gf := Nat → Nat → Int
/-- a walk's weight, its nodes told -/
def wt (g : Gf) : List Nat → Int
  | a :: b :: l => g a b + wt g (b :: l)
  | _ => 0
/-- a list of nodes whose steps are edges -/
def Steps (g : Gf) : List Nat → Prop
  | a :: b :: l => g a b < far ∧ Steps g (b :: l)
  | _ => True
structure Walk (g : Gf) (n a b : Nat) (l : List Nat) : Prop where
  head : l.head? = some a
  last : l.getLast? = some b
  lt : ∀ x ∈ l, x < n
  steps : Steps g l
/-- times that satisfy all edges -/
def Feas (g : Gf) (n : Nat) (t : Nat → Int) : Prop := ∀ a b, a < n → b < n → g a b < far → t b ≤ t a + g a b

variable {g : Gf} {n : Nat}

theorem wt_append (x : Nat) : ∀ (l m : List Nat), wt g (l ++ x :: m) = wt g (l ++ [x]) + wt g (x :: m)
  | [], m => by simp [wt]
  | [a], m => by simp [wt]
  | a :: b :: l, m => by
    have ih := wt_append x (b :: l) m
    simp only [List.cons_append] at ih ⊢
    rw [wt, wt, ih]; omega
theorem steps_append (x : Nat) : ∀ (l m : List Nat), Steps g (l ++ x :: m) ↔ Steps g (l ++ [x]) ∧ Steps g (x :: m)
  | [], m => by simp [Steps]
  | [a], m => by simp [Steps]
  | a :: b :: l, m => by
    have ih := steps_append x (b :: l) m
    simp only [List.cons_append] at ih ⊢
    rw [Steps, Steps, ih]
    constructor
    · rintro ⟨h1, h2, h3⟩; exact ⟨⟨h1, h2⟩, h3⟩
    · rintro ⟨⟨h1, h2⟩, h3⟩; exact ⟨h1, h2, h3⟩
theorem walk_nil {a : Nat} (h : a < n) : Walk g n a a [a] := ⟨rfl, rfl, by simpa using h, trivial⟩
theorem walk_snoc {a b c : Nat} {l : List Nat} (h : Walk g n a b l) (hc : c < n) (he : g b c < far) : Walk g n a c (l ++ [c]) ∧ wt g (l ++ [c]) = wt g l + g b c := by
  obtain ⟨m, rfl⟩ := List.getLast?_eq_some_iff.1 h.last
  have hs := h.steps
  have e1 : m ++ [b] ++ [c] = m ++ b :: [c] := by simp
  refine ⟨⟨?_, by simp, fun x hx => ?_, ?_⟩, ?_⟩
  · have := h.head
    cases m <;> simpa using this
  · rcases List.mem_append.1 hx with hx | hx
    · exact h.lt x hx
    · rw [List.mem_singleton.1 hx]; exact hc
  · rw [e1, steps_append]
    exact ⟨hs, he, trivial⟩
  · rw [e1, wt_append]
    simp [wt]
/-- along a walk times grow by its weight at most -/
theorem walk_le {t : Nat → Int} (hf : Feas g n t) : ∀ (l : List Nat) (a b : Nat), Walk g n a b l → t b ≤ t a + wt g l
  | [], a, b, h => by have := h.head; simp at this
  | [x], a, b, h => by
    have h1 := h.head
    have h2 := h.last
    simp at h1 h2
    subst h1; subst h2
    simp [wt]
  | x :: y :: l, a, b, h => by
    have h1 := h.head
    simp at h1
    subst h1
    have hs := h.steps
    have ih := walk_le hf (y :: l) y b ⟨rfl, by simpa using h.last, fun z hz => h.lt z (List.mem_cons_of_mem _ hz), hs.2⟩
    have := hf x y (h.lt x (by simp)) (h.lt y (by simp)) hs.1
    rw [wt]; omega

/-- among numbers below n, each once, there are n at most -/
theorem nodup_le : ∀ (n : Nat) (l : List Nat), l.Nodup → (∀ x ∈ l, x < n) → l.length ≤ n
  | 0, [], _, _ => Nat.le_refl _
  | 0, x :: l, _, h => absurd (h x (by simp)) (by omega)
  | n + 1, l, hd, h => by
    have ih := nodup_le n (l.erase n) (hd.erase n) (fun x hx => by
      have h1 := h x (List.mem_of_mem_erase hx)
      have h2 : x ≠ n := fun e => by subst e; exact (List.Nodup.not_mem_erase hd) hx
      omega)
    rw [List.length_erase] at ih
    split at ih <;> omega
theorem not_nodup : ∀ l : List Nat, ¬ l.Nodup → ∃ x p q r, l = p ++ x :: (q ++ x :: r)
  | [], h => absurd List.nodup_nil h
  | a :: l, h => by
    by_cases ha : a ∈ l
    · obtain ⟨q, r, rfl⟩ := List.append_of_mem ha
      exact ⟨a, [], q, r, rfl⟩
    · have : ¬ l.Nodup := fun hn => h (List.nodup_cons.2 ⟨ha, hn⟩)
      obtain ⟨x, p, q, r, rfl⟩ := not_nodup l this
      exact ⟨x, a :: p, q, r, rfl⟩
/-- where times satisfy all edges, a walk can be made short without more weight -/
theorem shorten {t : Nat → Int} (hf : Feas g n t) : ∀ (k : Nat) (l : List Nat) (a b : Nat), l.length = k → Walk g n a b l → ∃ m, m.length ≤ n ∧ Walk g n a b m ∧ wt g m ≤ wt g l := by
  intro k
  induction k using Nat.strongRecOn with
  | _ k ih =>
    intro l a b hk h
    by_cases hl : l.length ≤ n
    · exact ⟨l, hl, h, Int.le_refl _⟩
    · obtain ⟨x, p, q, r, rfl⟩ := not_nodup l fun hn => hl (nodup_le n l hn h.lt)
      have hs := h.steps
      rw [steps_append] at hs
      have hs2 := hs.2
      rw [← List.cons_append, steps_append] at hs2
      have hcyc : Walk g n x x (x :: q ++ [x]) := ⟨rfl, by rw [List.getLast?_append]; simp, fun z hz => h.lt z (by simp at hz ⊢; rcases hz with hz | hz | hz <;> simp [hz]), hs2.1⟩
      have hc := walk_le hf _ _ _ hcyc
      have hw : Walk g n a b (p ++ x :: r) := by
        refine ⟨?_, ?_, fun z hz => h.lt z (by simp at hz ⊢; rcases hz with hz | hz | hz <;> simp [hz]), ?_⟩
        · have := h.head
          cases p <;> simpa using this
        · have := h.last
          simp only [List.getLast?_append, List.getLast?_cons] at this ⊢
          cases hr : r.getLast? with
          | none => rw [hr] at this; simpa using this
          | some y => rw [hr] at this; simpa using this
        · rw [steps_append]; exact ⟨hs.1, hs2.2⟩
      have hwt : wt g (p ++ x :: (q ++ x :: r)) = wt g (p ++ [x]) + (wt g (x :: q ++ [x]) + wt g (x :: r)) := by
        have e := wt_append (g := g) x (x :: q) r
        rw [wt_append, ← e, List.cons_append]
      have hwt2 : wt g (p ++ x :: r) = wt g (p ++ [x]) + wt g (x :: r) := wt_append x p r
      obtain ⟨m, h1, h2, h3⟩ := ih _ (by subst hk; simp; omega) (p ++ x :: r) a b rfl hw
      exact ⟨m, h1, h2, by omega⟩

/-! ### relaxation -/
def upd (o : Nat → Int) (b : Nat) (x : Int) : Nat → Int := fun v => if v = b then x else o v
def Sound (g : Gf) (n s : Nat) (o : Nat → Int) : Prop := ∀ v, v < n → o v = far ∨ (o v < far ∧ ∃ l, Walk g n s v l ∧ o v = wt g l)
def Reach (g : Gf) (n s k : Nat) (o : Nat → Int) : Prop := ∀ v l, Walk g n s v l → l.length ≤ k → o v ≤ wt g l
/-- what a round has done so far: o0 was there when it began -/
structure Part (g : Gf) (n : Nat) (o0 o : Nat → Int) (a b : Nat) : Prop where
  le : ∀ v, o v ≤ o0 v
  did : ∀ u v, u < n → v < n → (u < a ∨ (u = a ∧ v < b)) → g u v < far → o0 u < far → o v ≤ o0 u + g u v
variable {s : Nat} {o o0 : Nat → Int}
theorem sound_start (hs : s < n) : Sound g n s (upd (fun _ => far) s 0) := fun v hv => by
  by_cases e : v = s
  · subst e; exact Or.inr ⟨by simp [upd, far], [v], walk_nil hv, by simp [upd, wt]⟩
  · exact Or.inl (by simp [upd, e])
theorem reach_start : Reach g n s 1 (upd (fun _ => far) s 0) := fun v l h hl => by
  match l, h, hl with
  | [x], h, _ =>
    have h1 := h.head
    have h2 := h.last
    simp at h1 h2
    subst h1; subst h2
    simp [upd, wt]
  | [], h, _ => have := h.head; simp at this
  | _ :: _ :: _, _, hl => simp at hl
theorem sound_relax (hs : Sound g n s o) {a b : Nat} (ha : a < n) (hb : b < n) (he : g a b < far) (hoa : o a < far) (hlt : o a + g a b < o b) : Sound g n s (upd o b (o a + g a b)) := fun v hv => by
  by_cases e : v = b
  · subst e
    rcases hs a ha with h | ⟨_, l, hl, hw⟩
    · omega
    · obtain ⟨h1, h2⟩ := walk_snoc hl hb he
      refine Or.inr ⟨?_, l ++ [v], h1, ?_⟩
      · rcases hs v hv with h | ⟨h, _⟩ <;> simp [upd] <;> omega
      · simp [upd]; omega
  · have := hs v hv
    simpa [upd, e] using this
/-- where times satisfy all edges, and walks of n nodes have been reckoned with, nothing is left to relax -/
theorem no_relax {t : Nat → Int} (hf : Feas g n t) (hs : Sound g n s o) (hr : Reach g n s n o) {a b : Nat} (ha : a < n) (hb : b < n) (he : g a b < far) (hoa : o a < far) : o b ≤ o a + g a b := by
  rcases hs a ha with h | ⟨_, l, hl, hw⟩
  · omega
  · obtain ⟨h1, h2⟩ := walk_snoc hl hb he
    obtain ⟨m, h3, h4, h5⟩ := shorten hf _ _ _ _ rfl h1
    have := hr b m h4 h3
    omega
theorem part_start : Part g n o o 0 0 := ⟨fun _ => Int.le_refl _, fun u v _ _ h => by omega⟩
theorem part_row {a : Nat} (h : Part g n o0 o a n) : Part g n o0 o (a + 1) 0 := ⟨h.le, fun u v hu hv hd => h.did u v hu hv (by omega)⟩
theorem part_skip {a b : Nat} (h : Part g n o0 o a b) (hskip : ¬ (g a b < far ∧ o a < far ∧ o a + g a b < o b)) : Part g n o0 o a (b + 1) := ⟨h.le, fun u v hu hv hd he h0 => by
  by_cases e : u < a ∨ (u = a ∧ v < b)
  · exact h.did u v hu hv e he h0
  · obtain ⟨rfl, rfl⟩ : u = a ∧ v = b := by omega
    have := h.le u
    have h1 : o u < far := by omega
    have : ¬ o u + g u v < o v := fun hx => hskip ⟨he, h1, hx⟩
    omega⟩
theorem part_relax {a b : Nat} (h : Part g n o0 o a b) (hlt : o a + g a b < o b) : Part g n o0 (upd o b (o a + g a b)) a (b + 1) := by
  have hle : ∀ v, upd o b (o a + g a b) v ≤ o v := fun v => by unfold upd; split <;> (try subst v) <;> omega
  refine ⟨fun v => Int.le_trans (hle v) (h.le v), fun u v hu hv hd he h0 => ?_⟩
  by_cases e : u < a ∨ (u = a ∧ v < b)
  · exact Int.le_trans (hle v) (h.did u v hu hv e he h0)
  · obtain ⟨rfl, rfl⟩ : u = a ∧ v = b := by omega
    have := h.le u
    simp [upd]; omega
/-- a whole round -/
theorem reach_step {k : Nat} (hr : Reach g n s k o0) (hp : Part g n o0 o n 0) (hw : ∀ v l, Walk g n s v l → l.length ≤ n → wt g l < far) (hk : k < n) (h1 : 1 ≤ k) : Reach g n s (k + 1) o := by
  intro v l hl hlen
  by_cases h : l.length ≤ k
  · exact Int.le_trans (hp.le v) (hr v l hl h)
  · obtain ⟨m, rfl⟩ := List.getLast?_eq_some_iff.1 hl.last
    have hm : m.length = k := by simp at hlen h; omega
    have hne : m ≠ [] := by intro e; subst e; simp at hm; omega
    obtain ⟨m', u, rfl⟩ : ∃ m' u, m = m' ++ [u] := ⟨m.dropLast, m.getLast hne, (List.dropLast_concat_getLast hne).symm⟩
    have hst := hl.steps
    have e1 : m' ++ [u] ++ [v] = m' ++ u :: [v] := by simp
    rw [e1, steps_append] at hst
    have hu : u < n := hl.lt u (by simp)
    have hv : v < n := hl.lt v (by simp)
    have hwalk : Walk g n s u (m' ++ [u]) := ⟨by have := hl.head; cases m' <;> simpa using this, by simp, fun x hx => hl.lt x (by simp at hx ⊢; rcases hx with hx | hx <;> simp [hx]), hst.1⟩
    have h2 := hr u _ hwalk (by omega)
    have h3 := hw u _ hwalk (by omega)
    have h4 := hp.did u v hu hv (Or.inl hu) hst.2.1 (by omega)
    have h5 : wt g (m' ++ [u] ++ [v]) = wt g (m' ++ [u]) + g u v := by rw [e1, wt_append]; simp [wt]
    omega
/-- a fixpoint: potentials that no edge lowers -/
def Fix (g : Gf) (n : Nat) (o : Nat → Int) : Prop := ∀ u v, u < n → v < n → g u v < far → o u < far → o v ≤ o u + g u v
theorem fix_of (hp : Part g n o o n 0) : Fix g n o := fun u v hu hv he h0 => hp.did u v hu hv (Or.inl hu) he h0
/-- least weights of walks from s: what has been found when nothing is left to relax -/
structure Top (g : Gf) (n s : Nat) (o : Nat → Int) : Prop where
  sound : Sound g n s o
  fix : Fix g n o
  all : ∀ v, v < n → o v < far
  zero : o s ≤ 0
theorem Top.feas (h : Top g n s o) : Feas g n o := fun a b ha hb he => h.fix a b ha hb he (h.all a ha)
theorem Top.is_zero (h : Top g n s o) (hs : s < n) : o s = 0 := by
  rcases h.sound s hs with h1 | ⟨_, l, h1, h2⟩
  · have := h.all s hs; omega
  · have := walk_le h.feas l s s h1
    have := h.zero
    omega
theorem Top.greatest (h : Top g n s o) {t : Nat → Int} (hf : Feas g n t) (ht : t s = 0) {v : Nat} (hv : v < n) : t v ≤ o v := by
  rcases h.sound v hv with h1 | ⟨_, l, h1, h2⟩
  · have := h.all v hv; omega
  · have := walk_le hf l s v h1; omega
def turn (g : Gf) : Gf := fun a b => g b a
theorem feas_turn {t : Nat → Int} : Feas (turn g) n t ↔ Feas g n fun v => -t v := by
  constructor
  · intro h a b ha hb he; have := h b a hb ha he; unfold turn at this; simp only; omega
  · intro h a b ha hb he; have := h b a hb ha he; unfold turn; simp only at this; omega
end Go.Proofs.YtcidfldeiklcjaaGreatDoor.Bf
