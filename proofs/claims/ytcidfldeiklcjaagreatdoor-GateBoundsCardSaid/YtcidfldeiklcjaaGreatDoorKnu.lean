/- Division of two words by one, as math/bits does it: the arithmetic alone. -/
import Derived.Test.YtcidfldeiklcjaaGreatDoorGe
/- JOINED: Ev Knu -/
/- Entries in memory. -/
namespace Go.Proofs.YtcidfldeiklcjaaGreatDoor
open Go.RowKit Tm

/-- an entry's cells -/
def entC (e : Ent) (v : Value) : List Value := [.int .i64 e.gate, .int .i64 e.no, .int .i64 e.time, .int .i64 e.kind, v, .string ⟨e.text.toArray⟩, .int .i64 e.c, .int .i64 e.s]
def EntR (w : World) (c : List Value) (e : Ent) : Prop := ∃ v, c = entC e v ∧ Row w 1 v e.nums.length (ints e.nums)
theorem EntR.kept {w w' : World} {c : List Value} {e : Ent} (h : EntR w c e) (k : Kept [] w w') : EntR w' c e := by obtain ⟨v, h1, h2⟩ := h; exact ⟨v, h1, h2.kept k⟩
abbrev EntsV (w : World) (v : Value) (l : List Ent) : Prop := RowOf EntR 8 w v l
theorem EntsV.kept {w w' : World} {v : Value} {l : List Ent} (h : EntsV w v l) (k : Kept [] w w') : EntsV w' v l := RowOf.kept h (fun _ _ x => EntR.kept x k) k
/-- an entry's eight cells -/
structure Cells8 (w : World) (b o : Nat) (e : Ent) (u : Value) : Prop where
  c0 : w.cell? ⟨b, o, none⟩ = some (.int .i64 e.gate)
  c1 : w.cell? ⟨b, o + 1, none⟩ = some (.int .i64 e.no)
  c2 : w.cell? ⟨b, o + 2, none⟩ = some (.int .i64 e.time)
  c3 : w.cell? ⟨b, o + 3, none⟩ = some (.int .i64 e.kind)
  c4 : w.cell? ⟨b, o + 4, none⟩ = some u
  c5 : w.cell? ⟨b, o + 5, none⟩ = some (.string ⟨e.text.toArray⟩)
  c6 : w.cell? ⟨b, o + 6, none⟩ = some (.int .i64 e.c)
  c7 : w.cell? ⟨b, o + 7, none⟩ = some (.int .i64 e.s)
theorem Cells8.kept {w w' : World} {b o : Nat} {e : Ent} {u : Value} (h : Cells8 w b o e u) (k : Kept [] w w') : Cells8 w' b o e u :=
  ⟨Kept.cellOf h.c0 _ k, Kept.cellOf h.c1 _ k, Kept.cellOf h.c2 _ k, Kept.cellOf h.c3 _ k, Kept.cellOf h.c4 _ k, Kept.cellOf h.c5 _ k, Kept.cellOf h.c6 _ k, Kept.cellOf h.c7 _ k⟩
theorem Cells8.keptS {w w' : World} {S : List Nat} {b o : Nat} {e : Ent} {u : Value} (h : Cells8 w b o e u) (k : Kept S w w') (hb : b ∉ S) : Cells8 w' b o e u := by
  have hl := World.block_lt_of_cell? _ _ h.c0
  have one : ∀ {j : Nat} {v : Value}, w.cell? ⟨b, j, none⟩ = some v → w'.cell? ⟨b, j, none⟩ = some v := fun {j} {_} hv => (k.cell (p := ⟨b, j, none⟩) hl hb).trans hv
  exact ⟨one h.c0, one h.c1, one h.c2, one h.c3, one h.c4, one h.c5, one h.c6, one h.c7⟩
theorem Cells8.of_blk {w : World} {b : Nat} {T : TypeId} {e : Ent} {u : Value} (h : Blk w b T (entC e u).toArray) : Cells8 w b 0 e u :=
  ⟨h.cell 0, h.cell 1, h.cell 2, h.cell 3, h.cell 4, h.cell 5, h.cell 6, h.cell 7⟩
/-- the cells of one entry of a slice -/
theorem EntsV.at_ {w : World} {v : Value} {l : List Ent} (h : EntsV w v l) (hp : 0 < l.length) : ∃ b off c, v = .slice (some ⟨b, off, none⟩) l.length c ∧ l.length ≤ c ∧
    ∀ (k : Nat) (hk : k < l.length), ∃ u, Row w 1 u l[k].nums.length (ints l[k].nums) ∧ Cells8 w b (off + k * 8) l[k] u := by
  obtain ⟨a, c, rfl, _, hc⟩ := RowOf.form h
  obtain ⟨b, off, rfl, hcell⟩ := RowOf.at_ h hp
  refine ⟨b, off, c, rfl, hc, fun k hk => ?_⟩
  obtain ⟨cs, h1, ⟨u, rfl, h2⟩, h3⟩ := hcell k _ (List.getElem?_eq_getElem hk)
  have g : ∀ (j : Nat) x, j < 8 → (entC l[k] u)[j]? = some x → w.cell? ⟨b, off + k * 8 + j, none⟩ = some x := fun j x hj hx => by rw [Nat.add_assoc]; exact h3 j x hj hx
  exact ⟨u, h2, g 0 _ (by omega) rfl, g 1 _ (by omega) rfl, g 2 _ (by omega) rfl, g 3 _ (by omega) rfl, g 4 _ (by omega) rfl, g 5 _ (by omega) rfl, g 6 _ (by omega) rfl, g 7 _ (by omega) rfl⟩
end Go.Proofs.YtcidfldeiklcjaaGreatDoor
namespace Go.Knu

/-- one step of the division by halves: the state of the loop -/
structure St (Y yn1 yn0 u un1 q rh : Nat) : Prop where
  hy : Y = yn1 * 4294967296 + yn0
  hy1 : 2147483648 ≤ yn1
  hy1' : yn1 < 4294967296
  hy0 : yn0 < 4294967296
  hu : u < Y
  h1 : un1 < 4294967296
  hq : (u * 4294967296 + un1) / Y ≤ q
  hr : q * yn1 + rh = u

theorem St.start {Y yn1 yn0 u un1 : Nat} (hy : Y = yn1 * 4294967296 + yn0) (hy1 : 2147483648 ≤ yn1) (hy1' : yn1 < 4294967296) (hy0 : yn0 < 4294967296) (hu : u < Y) (h1 : un1 < 4294967296) :
    St Y yn1 yn0 u un1 (u / yn1) (u % yn1) := by
  refine ⟨hy, hy1, hy1', hy0, hu, h1, ?_, by rw [Nat.mul_comm]; exact Nat.div_add_mod u yn1⟩
  -- N / Y ≤ u / yn1
  have hY : 0 < Y := by omega
  refine (Nat.div_le_iff_le_mul_add_pred hY).2 ?_
  -- N ≤ Y * (u / yn1) + (Y - 1)
  have e := Nat.div_add_mod u yn1
  have hm := Nat.mod_lt u (show 0 < yn1 by omega)
  generalize u / yn1 = k at *
  generalize u % yn1 = r at *
  subst hy
  rw [Nat.add_mul]
  have : yn1 * 4294967296 * k = (yn1 * k) * 4294967296 := by rw [Nat.mul_right_comm]
  rw [this, ← e, Nat.add_mul]
  have h3 : 0 ≤ yn0 * k := Nat.zero_le _
  generalize yn1 * k = p at *
  generalize yn0 * k = t at *
  omega

theorem St.q_lt {Y yn1 yn0 u un1 q rh : Nat} (h : St Y yn1 yn0 u un1 q rh) : q ≤ 4294967297 := by
  obtain ⟨hy, hy1, hy1', hy0, hu, h1, hq, hr⟩ := h
  rcases Nat.lt_or_ge 4294967297 q with h | h
  · have : 4294967298 * yn1 ≤ q * yn1 := Nat.mul_le_mul_right _ (by omega)
    omega
  · exact h

theorem St.big {Y yn1 yn0 u un1 q rh : Nat} (h : St Y yn1 yn0 u un1 q rh) (hb : 4294967296 ≤ rh) : q < 4294967296 := by
  obtain ⟨hy, hy1, hy1', hy0, hu, h1, hq, hr⟩ := h
  rcases Nat.lt_or_ge q 4294967296 with h | h
  · exact h
  · have : 4294967296 * yn1 ≤ q * yn1 := Nat.mul_le_mul_right _ h
    omega

theorem St.qlt {Y yn1 yn0 u un1 q rh : Nat} (h : St Y yn1 yn0 u un1 q rh) : (u * 4294967296 + un1) / Y < 4294967296 := by
  obtain ⟨hy, hy1, hy1', hy0, hu, h1, hq, hr⟩ := h
  refine Nat.div_lt_of_lt_mul ?_
  have : (u + 1) * 4294967296 ≤ Y * 4294967296 := Nat.mul_le_mul_right _ hu
  omega

theorem split {Y yn1 yn0 u un1 q rh : Nat} (hy : Y = yn1 * 4294967296 + yn0) (hr : q * yn1 + rh = u) :
    q * Y + (rh * 4294967296 + un1) = (u * 4294967296 + un1) + q * yn0 := by
  subst hy hr
  rw [Nat.mul_add, Nat.add_mul, ← Nat.mul_assoc]
  omega

/-- the loop's test is false: the quotient is exact -/
theorem St.done {Y yn1 yn0 u un1 q rh : Nat} (h : St Y yn1 yn0 u un1 q rh) (hc : q * yn0 ≤ rh * 4294967296 + un1) : q = (u * 4294967296 + un1) / Y := by
  obtain ⟨hy, hy1, hy1', hy0, hu, h1, hq, hr⟩ := h
  have e := split (un1 := un1) hy hr
  have hle : q * Y ≤ u * 4294967296 + un1 := by omega
  have := (Nat.le_div_iff_mul_le (show 0 < Y by omega)).2 hle
  omega

theorem ar1 {a b N R : Nat} (e : a + R = N + b) (h : R < b) : N < a := by omega
/-- the loop's test is true: one less -/
theorem St.step {Y yn1 yn0 u un1 q rh : Nat} (h : St Y yn1 yn0 u un1 q rh) (hc : 4294967296 ≤ q ∨ rh * 4294967296 + un1 < q * yn0) : 1 ≤ q ∧ St Y yn1 yn0 u un1 (q - 1) (rh + yn1) := by
  have hql := h.qlt
  obtain ⟨hy, hy1, hy1', hy0, hu, h1, hq, hr⟩ := h
  have hlt : (u * 4294967296 + un1) / Y < q := by
    rcases hc with hc | hc
    · omega
    · refine (Nat.div_lt_iff_lt_mul (show 0 < Y by omega)).2 ?_
      have e := split (un1 := un1) hy hr
      exact ar1 e hc
  have hq1 : 1 ≤ q := Nat.lt_of_le_of_lt (Nat.zero_le _) hlt
  refine ⟨hq1, hy, hy1, hy1', hy0, hu, h1, Nat.le_sub_one_of_lt hlt, ?_⟩
  have : q * yn1 = (q - 1) * yn1 + yn1 := by
    conv => lhs; rw [show q = (q - 1) + 1 by omega, Nat.add_mul, Nat.one_mul]
  omega

/-- behind a step, with a remainder of more than a half word -/
theorem St.broke {Y yn1 yn0 u un1 q rh : Nat} (h : St Y yn1 yn0 u un1 q rh) (hb : 4294967296 ≤ rh) : q = (u * 4294967296 + un1) / Y := by
  have hql := h.big hb
  refine h.done ?_
  have : q * yn0 ≤ 4294967295 * 4294967295 := Nat.mul_le_mul (by omega) (by have := h.hy0; omega)
  have : 4294967296 * 4294967296 ≤ rh * 4294967296 := Nat.mul_le_mul_right _ hb
  omega

theorem rest {N Y q : Nat} (hq : q = N / Y) : q * Y ≤ N ∧ N - q * Y = N % Y := by
  subst hq
  have := Nat.div_add_mod N Y
  rw [Nat.mul_comm] at this
  constructor <;> omega

theorem ar2 {a b D : Nat} (e : a * 18446744073709551616 + b = D) : (a * 4294967296 + b / 4294967296) * 4294967296 + b % 4294967296 = D := by
  have hb := Nat.div_add_mod b 4294967296
  have h1 : a * 18446744073709551616 = a * 4294967296 * 4294967296 := by rw [Nat.mul_assoc]
  rw [Nat.add_mul, Nat.add_assoc, Nat.mul_comm (b / 4294967296), hb, ← h1, e]
/-- two steps: the remainder of the scaled numbers, scaled back -/
theorem two {hi lo y s un32 un10 un21 : Nat} (e1 : un32 * 18446744073709551616 + un10 = (hi * 18446744073709551616 + lo) * 2 ^ s) 
    (e2 : un21 = (un32 * 4294967296 + un10 / 4294967296) % (y * 2 ^ s)) :
    (un21 * 4294967296 + un10 % 4294967296) % (y * 2 ^ s) / 2 ^ s = (hi * 18446744073709551616 + lo) % y := by
  have e3 : (un21 * 4294967296 + un10 % 4294967296) % (y * 2 ^ s) = ((hi * 18446744073709551616 + lo) * 2 ^ s) % (y * 2 ^ s) := by
    generalize y * 2 ^ s = Z at *
    subst e2
    have hg : ∀ M H : Nat, M % Z * H % Z = M * H % Z := fun M H => Nat.mod_mul_mod M H Z
    have h := hg (un32 * 4294967296 + un10 / 4294967296) 4294967296
    have h2 : (un32 * 4294967296 + un10 / 4294967296) * 4294967296 + un10 % 4294967296 = (hi * 18446744073709551616 + lo) * 2 ^ s := ar2 e1
    rw [Nat.add_mod, h, ← Nat.add_mod, h2]
  rw [e3, Nat.mul_mod_mul_right, Nat.mul_div_cancel _ (Nat.two_pow_pos s)]

/-- the shifted halves -/
theorem shifted {hi lo s : Nat} (hs : s ≤ 64) : (hi * 2 ^ s + lo / 2 ^ (64 - s)) * 18446744073709551616 + lo * 2 ^ s % 18446744073709551616 = (hi * 18446744073709551616 + lo) * 2 ^ s := by
  have e : lo * 2 ^ s / 18446744073709551616 = lo / 2 ^ (64 - s) := by
    have h2 : 18446744073709551616 = 2 ^ (64 - s) * 2 ^ s := by rw [← Nat.pow_add, show 64 - s + s = 64 by omega]
    rw [h2, Nat.mul_div_mul_right _ _ (Nat.two_pow_pos s)]
  have h3 := Nat.div_add_mod (lo * 2 ^ s) 18446744073709551616
  rw [e] at h3
  have h4 : (hi * 18446744073709551616 + lo) * 2 ^ s = hi * 2 ^ s * 18446744073709551616 + lo * 2 ^ s := by rw [Nat.add_mul, Nat.mul_right_comm hi]
  rw [h4, Nat.add_mul, Nat.add_assoc]
  refine congrArg _ ?_
  rw [Nat.mul_comm (lo / 2 ^ (64 - s))]
  exact h3

/-- the halves' or is their sum -/
theorem or_add {a b s : Nat} (hb : b < 2 ^ s) : a * 2 ^ s ||| b = a * 2 ^ s + b := by
  rw [Nat.mul_comm a (2 ^ s), Nat.two_pow_add_eq_or_of_lt hb]
theorem div_lt {lo s : Nat} (hl : lo < 18446744073709551616) (hs : s ≤ 64) : lo / 2 ^ (64 - s) < 2 ^ s := by
  rw [Nat.div_lt_iff_lt_mul (Nat.two_pow_pos _), ← Nat.pow_add, show s + (64 - s) = 64 by omega]
  exact hl
theorem un_lt {hi lo y s : Nat} (hh : hi < y) (hl : lo < 18446744073709551616) (hs : s ≤ 64) : hi * 2 ^ s + lo / 2 ^ (64 - s) < y * 2 ^ s := by
  have h1 := div_lt hl hs
  have h2 : (hi + 1) * 2 ^ s ≤ y * 2 ^ s := Nat.mul_le_mul_right _ hh
  rw [Nat.add_mul, Nat.one_mul] at h2
  generalize lo / 2 ^ (64 - s) = a at *
  generalize hi * 2 ^ s = b at *
  generalize y * 2 ^ s = c at *
  omega
end Go.Knu
