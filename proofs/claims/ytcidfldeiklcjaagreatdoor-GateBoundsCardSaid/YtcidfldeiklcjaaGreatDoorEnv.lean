/- The listed package-level variables, as every contract takes them; numerals by strconv. -/
import Derived.Test.YtcidfldeiklcjaaGreatDoorRows
import Derived.WalkKit
import Derived.WalkSpells
import Derived.WalkLawsBesides
import Derived.Laws.OwnMore
import Derived.Deep.Draws
import Derived.Deep.AppendLies
import Derived.Lib.Hide
import Derived.Deep.QuietTactic
import Derived.BigQuiet
import Derived.Lib.ItoaLen
import Derived.Lib.AtoiAllCases
import Derived.Lib.Bytealg
import Derived.Test.YtcidfldeiklcjaaGreatDoorShelf
import Derived.Lib.AtoiErrMem
import Derived.LaidLaws
import Derived.Sort.Grow
/- JOINED: Mem Wire Env -/
/- Words for memory: a block known whole; a world that has turned at some blocks alone; a slice that reads as a list. -/
namespace Go.Proofs.YtcidfldeiklcjaaGreatDoor
open Go.RowKit

/-! ### a world that has turned at the blocks of a list alone (and has new blocks) -/

structure Kept (S : List Nat) (w w' : World) : Prop where
  os : w'.os = w.os
  tape : w'.tape = w.tape
  output : w'.output = w.output
  size : w.heap.size ≤ w'.heap.size
  block : ∀ k, k < w.heap.size → k ∉ S → w'.heap[k]? = w.heap[k]?

section
variable {S : List Nat} {w w' w'' : World}

theorem Kept.refl (S : List Nat) (w : World) : Kept S w w := ⟨rfl, rfl, rfl, Nat.le_refl _, fun _ _ _ => rfl⟩
theorem Kept.trans (h : Kept S w w') (k : Kept S w' w'') : Kept S w w'' :=
  ⟨k.os.trans h.os, k.tape.trans h.tape, k.output.trans h.output, Nat.le_trans h.size k.size,
   fun i hi hS => (k.block i (Nat.lt_of_lt_of_le hi h.size) hS).trans (h.block i hi hS)⟩
theorem Kept.mono {S' : List Nat} (h : Kept S w w') (hs : ∀ k, k < w.heap.size → k ∈ S → k ∈ S') : Kept S' w w' :=
  ⟨h.os, h.tape, h.output, h.size, fun i hi hS => h.block i hi fun hx => hS (hs i hi hx)⟩
/-- behind a callee that turned blocks of its caller's own -/
theorem Kept.then_ {S' : List Nat} (h : Kept S w w') (k : Kept S' w' w'') (hs : ∀ k, k < w.heap.size → k ∈ S' → k ∈ S) : Kept S w w'' :=
  ⟨k.os.trans h.os, k.tape.trans h.tape, k.output.trans h.output, Nat.le_trans h.size k.size,
   fun i hi hS => (k.block i (Nat.lt_of_lt_of_le hi h.size) (fun hx => hS (hs i hi hx))).trans (h.block i hi hS)⟩
/-- behind a callee that turned blocks that are new since w -/
theorem Kept.fresh {S' : List Nat} (h : Kept S w w') (k : Kept S' w' w'') (hs : ∀ x ∈ S', w.heap.size ≤ x) : Kept S w w'' :=
  h.then_ k fun x hx hm => absurd (hs x hm) (by omega)
theorem Kept.drew (h : Kept S w w') : Kept S w w'.drew := ⟨h.os, h.tape, h.output, h.size, h.block⟩
theorem Kept.drewN (h : Kept S w w') (n : Nat) : Kept S w (w'.drewN n) := ⟨h.os, h.tape, h.output, h.size, h.block⟩
theorem Kept.alloc (h : Kept S w w') (o : Obj) : Kept S w (w'.alloc o) :=
  h.trans ⟨rfl, rfl, rfl, by simp, fun k hk _ => Below.heap_alloc _ _ _ hk⟩
theorem Kept.setCell (h : Kept S w w') {p : Addr} (hp : p.block ∈ S ∨ w.heap.size ≤ p.block) (u : Value) : Kept S w (w'.setCell p u) :=
  ⟨h.os, h.tape, h.output, by simpa [World.setCell] using h.size, fun k hk hS =>
    (Below.heap_setCell _ _ _ _ (fun e => by rcases hp with hp | hp; exact hS (e ▸ hp); omega)).trans (h.block k hk hS)⟩
theorem Kept.of_below (h : Below w.heap.size w w') : Kept S w w' := ⟨h.os, h.tape, h.output, h.size, fun k hk _ => h.block k hk⟩
theorem Kept.below (h : Kept [] w w') : Below w.heap.size w w' := ⟨h.os, h.tape, h.output, h.size, fun k hk => h.block k hk (by simp)⟩
theorem Kept.of_grown {row : Option Nat} (h : w.grownBy w' row) (hr : ∀ k, row = some k → k ∈ S) : Kept S w w' :=
  ⟨h.os, h.tape, h.output, h.size, fun k hk hS => h.block k hk fun e => hS (hr k e.symm)⟩
theorem Kept.grown (h : Kept S w w') {row : Option Nat} (hg : w'.grownBy w'' row) (hr : ∀ k, row = some k → k ∈ S ∨ w.heap.size ≤ k) : Kept S w w'' :=
  ⟨hg.os.trans h.os, hg.tape.trans h.tape, hg.output.trans h.output, Nat.le_trans h.size hg.size, fun k hk hS =>
    (hg.block k (Nat.lt_of_lt_of_le hk h.size) (fun e => by rcases hr k e.symm with hx | hx; exact hS hx; omega)).trans (h.block k hk hS)⟩
theorem Kept.cell (h : Kept S w w') {p : Addr} (hp : p.block < w.heap.size) (hS : p.block ∉ S) : w'.cell? p = w.cell? p :=
  World.cell?_of_block (w := w) (h.block p.block hp hS)
theorem Kept.frozen (h : Kept S w w') {p : Addr} (hp : p.block < w.heap.size) (hS : p.block ∉ S) : w'.frozen? p = w.frozen? p :=
  World.frozen?_of_block (w := w) (h.block p.block hp hS)
end

theorem Kept.then_below {w0 w1 w2 : World} (h : Kept [] w0 w1) (k : Below w0.heap.size w1 w2) : Kept [] w0 w2 :=
  ⟨k.os.trans h.os, k.tape.trans h.tape, k.output.trans h.output, Nat.le_trans h.size k.size, fun i hi _ => (k.block i hi).trans (h.block i hi (by simp))⟩

/-! ### a region that draws its order, where all that lay in 'w0' stays as it is: one walk, in the order of the text -/

def KW (w0 : World) : Type := {w : World // Kept [] w0 w}
instance KW.some_ (w0 : World) : Nonempty (KW w0) := ⟨⟨w0, Kept.refl _ _⟩⟩

theorem wp_region_kept {P : Program} {id : Nat} {Q : Exit → Act → World → Prop} {a : Act} {w : World} {l : List Oper} (w0 : World) (h0 : Kept [] w0 w)
    (hm : P.follows .mixedOrders = true) (hB : Region.lexB .any l.toArray = true)
    (h : wpQuiet P l.toArray (fun w' => ∃ x : KW w0, w' = x.val) (fun a' => ∀ w', (∃ x : KW w0, w' = x.val) → Q .normal a' w') l a) : (Code.region id l.toArray true).wp P Q a w :=
  wp_region_quiet (C := fun w' => ∃ x : KW w0, w' = x.val) hm hB ⟨⟨_, h0.drew⟩, rfl⟩ (by simpa using h)

/-- a contract that keeps all that was there, met in such a region -/
theorem quiet_kept {P : Program} {f : FuncId} {args : Array Value} {w0 : World} {x : KW w0} {v : Value}
    (h : Calls P f args x.val fun e w' => e = .returned v ∧ Kept [] x.val w') : Calls P f args x.val fun e w'' => e = .returned v ∧ ∃ y : KW w0, w'' = y.val :=
  h.mono fun _ w' ⟨he, hk⟩ => ⟨he, ⟨w', x.property.trans hk⟩, rfl⟩

theorem KW.cell {w0 : World} (x : KW w0) {p : Addr} {v : Value} (h : w0.cell? p = some v) : x.val.cell? p = some v :=
  (x.property.cell (World.block_lt_of_cell? w0 p h) (by simp)).trans h

/-- a contract met in a later world, told from an earlier one on -/
theorem kept_from {P : Program} {f : FuncId} {args : Array Value} {W w : World} {v : Value} (hW : Kept [] W w)
    (h : Calls P f args w fun e w' => e = .returned v ∧ Kept [] w w') : Calls P f args w fun e w' => e = .returned v ∧ Kept [] W w' :=
  h.mono fun _ _ ⟨he, hk⟩ => ⟨he, hW.trans hk⟩

theorem Kept.cellOf {W : World} {p : Addr} {v : Value} (h : W.cell? p = some v) : ∀ w' : World, Kept [] W w' → w'.cell? p = some v :=
  fun _ k => (k.cell (World.block_lt_of_cell? W p h) (by simp)).trans h

/-! ### a block known whole -/

def Blk (w : World) (b : Nat) (T : TypeId) (cs : Array Value) : Prop := w.heap[b]? = some (.cells cs T (0, 0))

section
variable {w w' : World} {b : Nat} {T : TypeId} {cs : Array Value}
theorem Blk.lt (h : Blk w b T cs) : b < w.heap.size := (Array.getElem?_eq_some_iff.1 h).1
theorem Blk.cell (h : Blk w b T cs) (i : Nat) : w.cell? ⟨b, i, none⟩ = cs[i]? := by unfold Blk at h; simp [World.cell?, h]
theorem Blk.frozen (h : Blk w b T cs) (i : Nat) : w.frozen? ⟨b, i, none⟩ = false := by unfold Blk at h; simp [World.frozen?, h]
theorem Blk.set_ (h : Blk w b T cs) (i : Nat) (u : Value) : Blk (w.setCell ⟨b, i, none⟩ u) b T (cs.setIfInBounds i u) := by
  unfold Blk at h ⊢
  simp [World.setCell, Array.getElem?_modify, h]
theorem Blk.kept {S : List Nat} (h : Blk w b T cs) (k : Kept S w w') (hb : b ∉ S) : Blk w' b T cs := (k.block b h.lt hb).trans h
theorem Blk.drew (h : Blk w b T cs) : Blk w.drew b T cs := h
theorem Blk.drewN (h : Blk w b T cs) (n : Nat) : Blk (w.drewN n) b T cs := h
theorem Blk.alloc (h : Blk w b T cs) (o : Obj) : Blk (w.alloc o) b T cs := (Below.heap_alloc w o b h.lt).trans h
theorem Blk.new (w : World) (T : TypeId) (cs : Array Value) : Blk (w.alloc (.cells cs T)) w.heap.size T cs := heap_alloc_new w _
theorem Blk.far (h : Blk w b T cs) {p : Addr} (hp : b ≠ p.block) (u : Value) : Blk (w.setCell p u) b T cs := (Below.heap_setCell w p u b hp).trans h
end

/-! ### an owned row -/

theorem own_kept {w w' : World} {S : List Nat} {B : Nat} {e : TypeId} {size : Nat} {v : Value} {n : Nat} {xs : List Value} (h : w.ownsRow B e size v n xs) (k : Kept S w w')
    (hS : ∀ x ∈ S, x < B) : w'.ownsRow B e size v n xs := by
  refine ⟨h.1, ?_⟩
  rcases h.2 with h1 | ⟨g, cap, cur, hv, hB, hg, r⟩
  · exact Or.inl h1
  · refine Or.inr ⟨g, cap, cur, hv, hB, ?_, r⟩
    rw [k.block g (Array.getElem?_eq_some_iff.1 hg).1 (fun hx => by have := hS g hx; omega)]
    exact hg
theorem own_form {w : World} {B : Nat} {e : TypeId} {size : Nat} {v : Value} {n : Nat} {xs : List Value} (h : w.ownsRow B e size v n xs) : ∃ a c, v = .slice a n c := by
  rcases h.2 with ⟨h1, h2⟩ | ⟨g, cap, cur, hv, _⟩
  · subst h2; exact ⟨_, _, h1⟩
  · exact ⟨_, _, hv⟩
/-- a row owned from a later block on is owned from an earlier one on -/
theorem own_base {w : World} {B B' : Nat} {e : TypeId} {size : Nat} {v : Value} {n : Nat} {xs : List Value} (h : w.ownsRow B e size v n xs) (hB : B' ≤ B) : w.ownsRow B' e size v n xs := by
  refine ⟨h.1, ?_⟩
  rcases h.2 with h1 | ⟨g, cap, cur, hv, hg, r⟩
  · exact Or.inl h1
  · exact Or.inr ⟨g, cap, cur, hv, by omega, r⟩
end Go.Proofs.YtcidfldeiklcjaaGreatDoor
/- The plain wire format: numerals, texts, lists, and the reader that takes them back. No program in sight. -/
namespace Go.Proofs.YtcidfldeiklcjaaGreatDoor.Wire
open Go.Lib

/-! ### digits -/

theorem toNat_digit (d : Nat) (h : d < 10) : (UInt8.ofNat (48 + d)).toNat = 48 + d := by
  rw [UInt8.toNat_ofNat']; omega

theorem decDigits_digit : ∀ (u : Nat), ∀ c ∈ decDigits u, 48 ≤ c.toNat ∧ c.toNat ≤ 57 := by
  intro u
  induction u using Nat.strongRecOn with
  | _ u ih =>
    intro c hc
    rw [decDigits] at hc
    split at hc
    · next h =>
      simp only [List.mem_singleton] at hc
      subst hc
      rw [toNat_digit u h]; omega
    · next h =>
      rw [List.mem_append] at hc
      rcases hc with hc | hc
      · exact ih (u / 10) (by omega) c hc
      · simp only [List.mem_singleton] at hc
        subst hc
        rw [toNat_digit _ (by omega)]; omega

theorem decDigits_ne (u : Nat) : decDigits u ≠ [] := by
  rw [decDigits]; split <;> simp

theorem parseUint10_append : ∀ (l : List UInt8) (acc v : Nat) (r : List UInt8), parseUint10 acc l = .ok v → parseUint10 acc (l ++ r) = parseUint10 v r
  | [], acc, v, r, h => by
    simp only [parseUint10] at h
    injection h with h
    subst h; rfl
  | c :: l, acc, v, r, h => by
    simp only [parseUint10, List.cons_append] at h ⊢
    split at h
    · next hc =>
      rw [if_pos hc]
      split at h
      · cases h
      · next h2 =>
        rw [if_neg h2]
        split at h
        · cases h
        · next h3 =>
          rw [if_neg h3]
          exact parseUint10_append l _ v r h
    · cases h

theorem parseUint10_dec : ∀ (u : Nat), u < 18446744073709551616 → parseUint10 0 (decDigits u) = .ok u := by
  intro u
  induction u using Nat.strongRecOn with
  | _ u ih =>
    intro hu
    rw [decDigits]
    split
    · next h =>
      simp only [parseUint10]
      rw [toNat_digit u h, if_pos (by omega), if_neg (by omega), if_neg (by omega)]
      congr 1; omega
    · next h =>
      rw [parseUint10_append _ _ _ _ (ih (u / 10) (by omega) (by omega))]
      simp only [parseUint10]
      rw [toNat_digit _ (by omega), if_pos (by omega), if_neg (by omega), if_neg (by omega)]
      congr 1; omega

theorem parseMag_dec (u : Nat) (hu : u < 18446744073709551616) : parseMag (decDigits u) = .ok u := by
  unfold parseMag
  rw [if_neg (decDigits_ne u), parseUint10_dec u hu]

def I64 (n : Int) : Prop := -9223372036854775808 ≤ n ∧ n ≤ 9223372036854775807

theorem atoi_itoa (n : Int) (h : I64 n) : atoiAll (itoa n) = .ok n := by
  obtain ⟨h0, h1⟩ := h
  unfold itoa
  by_cases hn : n < 0
  · rw [if_pos hn]
    unfold atoiAll
    have e45 : (45 : UInt8).toNat = 45 := rfl
    have hm : parseMag (decDigits n.natAbs) = .ok n.natAbs := parseMag_dec _ (by omega)
    simp only [e45, or_true, if_true, hm]
    rw [if_neg (by simp), if_neg (by omega)]
    congr 1; omega
  · rw [if_neg hn]
    have hm : parseMag (decDigits n.toNat) = .ok n.toNat := parseMag_dec _ (by omega)
    have hd := decDigits_digit n.toNat
    cases hl : decDigits n.toNat with
    | nil => exact absurd hl (decDigits_ne _)
    | cons c r =>
      rw [hl] at hm hd
      have hc := hd c (by simp)
      unfold atoiAll
      have h43 : ¬ (c.toNat = 43 ∨ c.toNat = 45) := by omega
      have h45 : ¬ c.toNat = 45 := by omega
      simp only [if_neg h43, hm]
      rw [if_neg (by omega), if_neg (by omega), if_neg h45]
      congr 1; omega

/-- The bytes of a numeral. -/
def NumByte (c : UInt8) : Prop := c.toNat = 45 ∨ (48 ≤ c.toNat ∧ c.toNat ≤ 57)

theorem itoa_bytes (n : Int) : ∀ c ∈ itoa n, NumByte c := by
  intro c hc
  unfold itoa at hc
  split at hc
  · rw [List.mem_cons] at hc
    rcases hc with rfl | hc
    · exact Or.inl rfl
    · exact Or.inr (decDigits_digit _ c hc)
  · exact Or.inr (decDigits_digit _ c hc)

theorem itoa_len (n : Int) (h : I64 n) : (itoa n).length ≤ 20 := by
  obtain ⟨h0, h1⟩ := h
  have key : ∀ u : Nat, u < 10 ^ 19 → nDigits u ≤ 19 := by
    intro u hu
    rcases Nat.eq_zero_or_pos u with rfl | hp
    · rw [nDigits_small (by omega)]; omega
    · rcases Nat.lt_or_ge 19 (nDigits u) with hlt | hge
      · exfalso
        have hx : ∀ (k v : Nat), k < nDigits v → 0 < v → 10 ^ k ≤ v := by
          intro k
          induction k with
          | zero => intro v _ hv; exact hv
          | succ k ih =>
            intro v hv hv0
            by_cases hb : v < 10
            · rw [nDigits_small hb] at hv; omega
            · rw [nDigits_big hb] at hv
              have := ih (v / 10) (by omega) (by omega)
              rw [Nat.pow_succ]; omega
        have := hx 19 u hlt hp
        omega
      · exact hge
  unfold itoa
  split
  · rw [List.length_cons, decDigits_length]
    have := key n.natAbs (by omega)
    omega
  · rw [decDigits_length]
    have := key n.toNat (by omega)
    omega

/-! ### indexByte -/

theorem indexByte_append (l : List UInt8) (c : UInt8) (t : List UInt8) (h : ∀ x ∈ l, x ≠ c) : indexByte (l ++ c :: t) c = l.length := by
  induction l with
  | nil => simp [indexByte]
  | cons a l ih =>
    have ha : a ≠ c := h a (by simp)
    have hi := ih (fun x hx => h x (by simp [hx]))
    simp only [List.cons_append, indexByte, beq_iff_eq, if_neg ha, hi, List.length_cons]
    rw [if_neg (by omega)]; omega

theorem indexByte_some : ∀ (l : List UInt8) (c : UInt8), 0 ≤ indexByte l c → ∃ t, l = l.take (indexByte l c).toNat ++ c :: t ∧ (indexByte l c).toNat < l.length
  | [], c, h => by simp [indexByte] at h
  | a :: l, c, h => by
    unfold indexByte at h ⊢
    by_cases ha : a == c
    · rw [if_pos ha]
      have : a = c := by simpa using ha
      subst this
      exact ⟨l, by simp, by simp⟩
    · rw [if_neg ha] at h ⊢
      by_cases h1 : indexByte l c == -1
      · rw [if_pos h1] at h; omega
      · rw [if_neg h1] at h ⊢
        have hge := indexByte_ge l c
        have hne : indexByte l c ≠ -1 := by simpa using h1
        obtain ⟨t, ht, hl⟩ := indexByte_some l c (by omega)
        have e : (indexByte l c + 1).toNat = (indexByte l c).toNat + 1 := by omega
        refine ⟨t, ?_, ?_⟩
        · rw [e, List.take_succ_cons, List.cons_append, ← ht]
        · rw [e, List.length_cons]; omega

/-! ### what is written -/

def intE (n : Int) : List UInt8 := itoa n ++ [59]
def textE (s : List UInt8) : List UInt8 := itoa s.length ++ [58] ++ s ++ [44]
def listE (n : Nat) (l : List UInt8) : List UInt8 := itoa n ++ [91] ++ l ++ [93]
def numsE (l : List Int) : List UInt8 := listE l.length (l.flatMap intE)
def textsE (l : List (List UInt8)) : List UInt8 := listE l.length (l.flatMap textE)

/-! ### what is read -/

structure Rd where
  rest : List UInt8
  bad : Bool

def failed : Rd := ⟨[], true⟩

def number (e : UInt8) (least : Int) (r : Rd) : Int × Rd :=
  if indexByte (r.rest.take 21) e < 0 then (0, failed)
  else match atoiAll ((r.rest.take 21).take (indexByte (r.rest.take 21) e).toNat) with
    | .ok n => if itoa n = (r.rest.take 21).take (indexByte (r.rest.take 21) e).toNat ∧ least ≤ n
        then (n, ⟨r.rest.drop ((indexByte (r.rest.take 21) e).toNat + 1), r.bad⟩) else (0, failed)
    | _ => (0, failed)

theorem number_ok (e : UInt8) (least n : Int) (t : List UInt8) (b : Bool) (hn : I64 n) (hl : least ≤ n) (he : ¬ NumByte e) :
    number e least ⟨itoa n ++ e :: t, b⟩ = (n, ⟨t, b⟩) := by
  have h20 := itoa_len n hn
  have htk : (itoa n ++ e :: t).take 21 = itoa n ++ e :: t.take (20 - (itoa n).length) := by
    rw [List.take_append, List.take_of_length_le (by omega), show 21 - (itoa n).length = (20 - (itoa n).length) + 1 from by omega, List.take_succ_cons]
  have hix : indexByte (itoa n ++ e :: t.take (20 - (itoa n).length)) e = (itoa n).length :=
    indexByte_append _ _ _ fun x hx hxe => he (hxe ▸ itoa_bytes n x hx)
  unfold number
  simp only [htk, hix]
  rw [if_neg (by omega)]
  have e1 : (((itoa n).length : Int)).toNat = (itoa n).length := by omega
  rw [e1, List.take_left, atoi_itoa n hn]
  simp only [true_and]
  rw [if_pos hl, show (itoa n ++ e :: t).drop ((itoa n).length + 1) = t from by
    rw [← List.drop_drop, List.drop_left]; rfl]

theorem number_inv (e : UInt8) (least : Int) (r : Rd) (h : (number e least r).2.bad = false) :
    r.bad = false ∧ r.rest = itoa (number e least r).1 ++ e :: (number e least r).2.rest ∧ least ≤ (number e least r).1 ∧ I64 (number e least r).1 := by
  unfold number at h ⊢
  split at h
  · simp [failed] at h
  · next hge =>
    rw [if_neg hge]
    obtain ⟨t, ht, hlt⟩ := indexByte_some (r.rest.take 21) e (by omega)
    generalize hk : (indexByte (r.rest.take 21) e).toNat = k at *
    cases ha : atoiAll ((r.rest.take 21).take k) with
    | ok n =>
      rw [ha] at h
      simp only at h ⊢
      by_cases hc : itoa n = (r.rest.take 21).take k ∧ least ≤ n
      · rw [if_pos hc] at h ⊢
        refine ⟨h, ?_, hc.2, atoiAll_bounds ha⟩
        simp only
        rw [hc.1]
        have hl21 : (r.rest.take 21).length = min 21 r.rest.length := List.length_take
        have e2 : (r.rest.take 21).take k = r.rest.take k := by rw [List.take_take, Nat.min_eq_left (by omega)]
        have e3 : r.rest[k]'(by omega) = e := by
          have h4 : (r.rest.take 21)[k]? = some e := by
            rw [ht, List.getElem?_append_right (by rw [List.length_take]; omega), List.length_take, Nat.min_eq_left (by omega), Nat.sub_self]; rfl
          rw [List.getElem?_take_of_lt (by omega)] at h4
          exact (List.getElem?_eq_some_iff.1 h4).2
        rw [e2]
        conv => lhs; rw [← List.take_append_drop k r.rest]
        rw [List.drop_eq_getElem_cons (by omega), e3]
      · rw [if_neg hc] at h
        simp [failed] at h
    | _ => rw [ha] at h; simp [failed] at h

theorem number_rest_le (e : UInt8) (least : Int) (r : Rd) : (number e least r).2.rest.length ≤ r.rest.length := by
  unfold number
  split
  · simp [failed]
  · split
    · split
      · simp
      · simp [failed]
    · simp [failed]

theorem number_bounds (e : UInt8) (least : Int) (r : Rd) : I64 (number e least r).1 := by
  have hz : I64 0 := ⟨by omega, by omega⟩
  unfold number
  split
  · exact hz
  · split
    · next n hn =>
      split
      · exact atoiAll_bounds hn
      · exact hz
    · exact hz

theorem number_least (e : UInt8) (least : Int) (h0 : least ≤ 0) (r : Rd) : least ≤ (number e least r).1 := by
  unfold number
  split
  · exact h0
  · split
    · split
      · next h => exact h.2
      · exact h0
    · exact h0

def close (e : List UInt8) (r : Rd) : Rd := if hasPrefix r.rest e then ⟨r.rest.drop e.length, r.bad⟩ else failed

theorem close_ok (e t : List UInt8) (b : Bool) : close e ⟨e ++ t, b⟩ = ⟨t, b⟩ := by
  unfold close hasPrefix
  simp

theorem close_inv (e : List UInt8) (r : Rd) (h : (close e r).bad = false) : r.bad = false ∧ r.rest = e ++ (close e r).rest := by
  unfold close at h ⊢
  split at h
  · next hp =>
    rw [if_pos hp]
    refine ⟨h, ?_⟩
    unfold hasPrefix at hp
    obtain ⟨t, ht⟩ := List.isPrefixOf_iff_prefix.1 hp
    simp only
    rw [← ht, List.drop_left]
  · simp [failed] at h

theorem close_rest_le (e : List UInt8) (r : Rd) : (close e r).rest.length ≤ r.rest.length := by
  unfold close; split <;> simp [failed]

def text (r : Rd) : List UInt8 × Rd :=
  if ((number 58 0 r).2.rest.length : Int) < (number 58 0 r).1 then ([], failed)
  else if (close [44] ⟨(number 58 0 r).2.rest.drop (number 58 0 r).1.toNat, (number 58 0 r).2.bad⟩).bad then
    ([], close [44] ⟨(number 58 0 r).2.rest.drop (number 58 0 r).1.toNat, (number 58 0 r).2.bad⟩)
  else ((number 58 0 r).2.rest.take (number 58 0 r).1.toNat, close [44] ⟨(number 58 0 r).2.rest.drop (number 58 0 r).1.toNat, (number 58 0 r).2.bad⟩)

theorem not58 : ¬ NumByte 58 := by unfold NumByte; decide
theorem not59 : ¬ NumByte 59 := by unfold NumByte; decide
theorem not91 : ¬ NumByte 91 := by unfold NumByte; decide

theorem text_ok (s t : List UInt8) (hs : s.length ≤ 9223372036854775807) : text ⟨textE s ++ t, false⟩ = (s, ⟨t, false⟩) := by
  have hn : number 58 0 ⟨textE s ++ t, false⟩ = ((s.length : Int), ⟨s ++ 44 :: t, false⟩) := by
    have := number_ok 58 0 s.length (s ++ 44 :: t) false ⟨by omega, by omega⟩ (by omega) not58
    rw [← this]
    unfold textE
    simp
  unfold text
  rw [hn]
  simp only [Int.toNat_natCast]
  rw [if_neg (by rw [List.length_append]; omega)]
  rw [List.drop_left, show (44 :: t : List UInt8) = [44] ++ t from rfl, close_ok]
  simp

theorem text_inv (r : Rd) (h : (text r).2.bad = false) : r.bad = false ∧ r.rest = textE (text r).1 ++ (text r).2.rest ∧ (text r).1.length ≤ 9223372036854775807 := by
  unfold text at h ⊢
  split at h
  · simp [failed] at h
  · next hle =>
    rw [if_neg hle]
    split at h
    · next hb => simp only at h; rw [hb] at h; cases h
    · next hb =>
      rw [if_neg hb]
      simp only at h ⊢
      obtain ⟨c1, c2⟩ := close_inv _ _ h
      simp only at c1 c2
      obtain ⟨n1, n2, n3, n4⟩ := number_inv 58 0 r c1
      have hlen : ((number 58 0 r).2.rest.take (number 58 0 r).1.toNat).length = (number 58 0 r).1.toNat := by
        rw [List.length_take]; omega
      refine ⟨n1, ?_, ?_⟩
      · conv => lhs; rw [n2]
        unfold textE
        rw [hlen, show (((number 58 0 r).1.toNat : Nat) : Int) = (number 58 0 r).1 from by omega]
        simp only [List.append_assoc, List.cons_append, List.nil_append]
        congr 2
        have key := (List.take_append_drop (number 58 0 r).1.toNat (number 58 0 r).2.rest).symm
        rw [c2] at key
        exact key
      · rw [hlen]; have := n4.2; omega

def loop {α : Type} (one : Rd → α × Rd) : Nat → Rd → List α → List α × Rd
  | 0, r, acc => (acc, r)
  | n + 1, r, acc => if r.bad then (acc, r) else loop one n (one r).2 (acc ++ [(one r).1])

def items {α : Type} (one : Rd → α × Rd) (r : Rd) : List α × Rd :=
  if (close [93] (loop one (number 91 0 r).1.toNat (number 91 0 r).2 []).2).bad then
    ([], close [93] (loop one (number 91 0 r).1.toNat (number 91 0 r).2 []).2)
  else ((loop one (number 91 0 r).1.toNat (number 91 0 r).2 []).1, close [93] (loop one (number 91 0 r).1.toNat (number 91 0 r).2 []).2)

structure Codec {α : Type} (enc : α → List UInt8) (one : Rd → α × Rd) (ok : α → Prop) : Prop where
  fwd : ∀ x t, ok x → one ⟨enc x ++ t, false⟩ = (x, ⟨t, false⟩)
  inv : ∀ r, (one r).2.bad = false → r.bad = false ∧ r.rest = enc (one r).1 ++ (one r).2.rest ∧ ok (one r).1

theorem loop_ok {α : Type} {enc : α → List UInt8} {one : Rd → α × Rd} {ok : α → Prop} (c : Codec enc one ok) :
    ∀ (l acc : List α) (t : List UInt8), (∀ x ∈ l, ok x) → loop one l.length ⟨l.flatMap enc ++ t, false⟩ acc = (acc ++ l, ⟨t, false⟩)
  | [], acc, t, _ => by simp [loop]
  | x :: l, acc, t, h => by
    simp only [List.length_cons, loop]
    rw [List.flatMap_cons, List.append_assoc, c.fwd x _ (h x (by simp))]
    simp only [Bool.false_eq_true, if_false]
    rw [loop_ok c l (acc ++ [x]) t (fun y hy => h y (by simp [hy]))]
    simp

theorem loop_inv {α : Type} {enc : α → List UInt8} {one : Rd → α × Rd} {ok : α → Prop} (c : Codec enc one ok) :
    ∀ (n : Nat) (r : Rd) (acc : List α), (loop one n r acc).2.bad = false →
      ∃ l, (loop one n r acc).1 = acc ++ l ∧ l.length = n ∧ r.bad = false ∧ r.rest = l.flatMap enc ++ (loop one n r acc).2.rest ∧ ∀ x ∈ l, ok x
  | 0, r, acc, h => ⟨[], by simp [loop], rfl, by simpa [loop] using h, by simp [loop], by simp⟩
  | n + 1, r, acc, h => by
    simp only [loop] at h ⊢
    split at h
    · next hb => simp only at h; rw [hb] at h; cases h
    · next hb =>
      rw [if_neg hb]
      obtain ⟨l, h1, h2, h3, h4, h5⟩ := loop_inv c n _ _ h
      obtain ⟨g1, g2, g3⟩ := c.inv r h3
      refine ⟨(one r).1 :: l, by rw [h1]; simp, by simp [h2], g1, ?_, ?_⟩
      · rw [List.flatMap_cons, List.append_assoc, ← h4, ← g2]
      · intro x hx
        rw [List.mem_cons] at hx
        rcases hx with rfl | hx
        · exact g3
        · exact h5 x hx

theorem items_ok {α : Type} {enc : α → List UInt8} {one : Rd → α × Rd} {ok : α → Prop} (c : Codec enc one ok)
    (l : List α) (t : List UInt8) (hl : l.length ≤ 9223372036854775807) (h : ∀ x ∈ l, ok x) :
    items one ⟨listE l.length (l.flatMap enc) ++ t, false⟩ = (l, ⟨t, false⟩) := by
  have hn : number 91 0 ⟨listE l.length (l.flatMap enc) ++ t, false⟩ = ((l.length : Int), ⟨l.flatMap enc ++ 93 :: t, false⟩) := by
    have := number_ok 91 0 l.length (l.flatMap enc ++ 93 :: t) false ⟨by omega, by omega⟩ (by omega) not91
    rw [← this]
    unfold listE
    simp
  unfold items
  rw [hn]
  simp only [Int.toNat_natCast]
  rw [loop_ok c l [] (93 :: t) h]
  simp only [List.nil_append]
  rw [show (93 :: t : List UInt8) = [93] ++ t from rfl, close_ok]
  simp

theorem items_inv {α : Type} {enc : α → List UInt8} {one : Rd → α × Rd} {ok : α → Prop} (c : Codec enc one ok) (r : Rd) (h : (items one r).2.bad = false) :
    r.bad = false ∧ r.rest = listE (items one r).1.length ((items one r).1.flatMap enc) ++ (items one r).2.rest ∧
      (items one r).1.length ≤ 9223372036854775807 ∧ ∀ x ∈ (items one r).1, ok x := by
  unfold items at h ⊢
  split at h
  · next hb => simp only at h; rw [hb] at h; cases h
  · next hb =>
    rw [if_neg hb]
    simp only at h ⊢
    obtain ⟨c1, c2⟩ := close_inv _ _ h
    obtain ⟨l, h1, h2, h3, h4, h5⟩ := loop_inv c _ _ _ c1
    obtain ⟨n1, n2, n3, n4⟩ := number_inv 91 0 r h3
    rw [h1]
    simp only [List.nil_append]
    refine ⟨n1, ?_, by rw [h2]; have := n4.2; omega, h5⟩
    conv => lhs; rw [n2]
    unfold listE
    rw [h2, show (((number 91 0 r).1.toNat : Nat) : Int) = (number 91 0 r).1 from by omega, h4, c2]
    simp

theorem int_codec : Codec intE (number 59 (-9223372036854775808)) I64 :=
  ⟨fun x t hx => by
      have := number_ok 59 (-9223372036854775808) x t false hx hx.1 not59
      rw [← this]; simp [intE],
   fun r h => by
      obtain ⟨h1, h2, _, h4⟩ := number_inv 59 (-9223372036854775808) r h
      exact ⟨h1, by rw [h2]; simp [intE], h4⟩⟩

theorem text_codec : Codec textE text (fun s => s.length ≤ 9223372036854775807) :=
  ⟨fun x t hx => text_ok x t hx, fun r h => text_inv r h⟩

def nums (r : Rd) : List Int × Rd := items (number 59 (-9223372036854775808)) r
def texts (r : Rd) : List (List UInt8) × Rd := items text r

theorem nums_ok (l : List Int) (t : List UInt8) (hl : l.length ≤ 9223372036854775807) (h : ∀ x ∈ l, I64 x) : nums ⟨numsE l ++ t, false⟩ = (l, ⟨t, false⟩) :=
  items_ok int_codec l t hl h
theorem nums_inv (r : Rd) (h : (nums r).2.bad = false) : r.bad = false ∧ r.rest = numsE (nums r).1 ++ (nums r).2.rest ∧ (nums r).1.length ≤ 9223372036854775807 ∧ ∀ x ∈ (nums r).1, I64 x :=
  items_inv int_codec r h
theorem texts_inv (r : Rd) (h : (texts r).2.bad = false) : r.bad = false ∧ r.rest = textsE (texts r).1 ++ (texts r).2.rest ∧ (texts r).1.length ≤ 9223372036854775807 ∧ ∀ x ∈ (texts r).1, x.length ≤ 9223372036854775807 :=
  items_inv text_codec r h

end Go.Proofs.YtcidfldeiklcjaaGreatDoor.Wire
namespace Go.Proofs.YtcidfldeiklcjaaGreatDoor
open Go.RowKit

/-- the blocks below this number hold the listed package-level variables -/
def NG : Nat := max (max 3 5) 6 + 1

theorem g_pow10 : Tryz.prog.globalNamed "internal/strconv.uint64pow10" = some 3 := by kernel_rfl
theorem g_syn : Tryz.prog.globalNamed "strconv.ErrSyntax" = some 5 := by kernel_rfl
theorem g_rng : Tryz.prog.globalNamed "strconv.ErrRange" = some 6 := by kernel_rfl

structure Env (w : World) : Prop where
  size : NG ≤ w.heap.size
  pow10 : Lib.TabIs Tryz.prog w "internal/strconv.uint64pow10" .u64 Lib.pow10Tab
  syn : ∃ tp p, w.var? Tryz.prog "strconv.ErrSyntax" = some #[.iface tp p]
  rng : ∃ tp p, w.var? Tryz.prog "strconv.ErrRange" = some #[.iface tp p]

theorem var_kept {S : List Nat} {w w' : World} {n : String} {g : Nat} {cs : Array Value} (hg : Tryz.prog.globalNamed n = some g) (h : Kept S w w') (hS : g ∉ S)
    (hv : w.var? Tryz.prog n = some cs) : w'.var? Tryz.prog n = some cs := by
  unfold World.var? at hv ⊢
  rw [hg] at hv ⊢
  simp only [Option.bind_some] at hv ⊢
  have hlt : g < w.heap.size := by
    rcases Nat.lt_or_ge g w.heap.size with h1 | h1
    · exact h1
    · rw [Array.getElem?_eq_none h1] at hv; cases hv
  rw [h.block g hlt hS]
  exact hv

theorem Env.kept {S : List Nat} {w w' : World} (hE : Env w) (h : Kept S w w') (hS : ∀ k ∈ S, NG ≤ k) : Env w' := by
  have ne : ∀ g, g < NG → g ∉ S := fun g hg hx => by have := hS g hx; omega
  refine ⟨Nat.le_trans hE.size h.size, var_kept g_pow10 h (ne _ (by decide)) hE.pow10, ?_, ?_⟩
  · obtain ⟨tp, p, hv⟩ := hE.syn
    exact ⟨tp, p, var_kept g_syn h (ne _ (by decide)) hv⟩
  · obtain ⟨tp, p, hv⟩ := hE.rng
    exact ⟨tp, p, var_kept g_rng h (ne _ (by decide)) hv⟩
theorem Env.kept0 {w w' : World} (hE : Env w) (h : Kept [] w w') : Env w' := hE.kept h (by simp)
theorem Env.drewN {w : World} (hE : Env w) (n : Nat) : Env (w.drewN n) := hE.kept0 ((Kept.refl _ _).drewN n)
theorem Env.drew {w : World} (hE : Env w) : Env w.drew := hE.kept0 (Kept.refl _ _).drew
theorem Env.alloc {w : World} (hE : Env w) (o : Obj) : Env (w.alloc o) := hE.kept0 ((Kept.refl _ _).alloc o)

theorem kept_grow (w : World) (os : Array Obj) : Kept [] w (Sort.grow w os) :=
  ⟨rfl, rfl, rfl, by simp [Sort.grow], fun k hk _ => by
    show (w.heap ++ os)[k]? = _
    rw [Array.getElem?_append_left hk]⟩

theorem itoa_any (n : Int) (w : World) (hn : Wire.I64 n) (hE : Env w) :
    Calls Tryz.prog 139 #[.int .i64 n] w fun e w' => e = .returned (.string ⟨(Lib.itoa n).toArray⟩) ∧ Kept [] w w' :=
  (Tryz.strconv_Itoa n hn.1 hn.2 w hE.pow10).mono fun _ _ ⟨he, k, os, hw⟩ => ⟨he, by subst hw; exact (((Kept.refl _ _).drewN k).trans (kept_grow _ os))⟩

theorem atoi_ok (s : ByteArray) (v : Int) (w : World) (hs : s.size ≤ 100000000) (h : Lib.atoiAll s.data.toList = .ok v) :
    Calls Tryz.prog 210 #[.string s] w fun e w' => e = .returned (.tuple #[.int .i64 v, .nilIface]) ∧ Kept [] w w' :=
  (Tryz.strconv_Atoi_ok s (by omega) v h w).mono fun _ _ ⟨he, hw⟩ => ⟨he, by
    rcases hw with rfl | ⟨t, rfl⟩
    · exact Kept.refl _ _
    · exact Kept.of_below (Lib.bytesWorld_below _ _ _)⟩

/-- how Atoi ends where there is no number -/
def AtoiBad (w : World) (e : Ending) (w' : World) : Prop := ∃ (k : Int) (T : TypeId) (N : Nat), e = .returned (.tuple #[.int .i64 k, .iface T (.pointer (some ⟨N, 0, none⟩))]) ∧ Kept [] w w'

theorem atoi_bad (s : ByteArray) (w : World) (hs : s.size ≤ 100000000) (h : ∀ v, Lib.atoiAll s.data.toList ≠ .ok v) (hE : Env w) :
    Calls Tryz.prog 210 #[.string s] w (AtoiBad w) := by
  obtain ⟨tp, p, h1⟩ := hE.syn
  obtain ⟨tq, q, h2⟩ := hE.rng
  cases ha : Lib.atoiAll s.data.toList with
  | ok v => exact absurd ha (h v)
  | range => exact (Tryz.strconv_Atoi_range_var s (by omega) ha tq q w h2).mono fun _ _ ⟨N, he, _, _, hb⟩ => ⟨_, _, _, he, Kept.of_below hb⟩
  | _ => exact (Tryz.strconv_Atoi_syntax_var s (by omega) ha tp p w h1).mono fun _ _ ⟨N, he, _, _, hb⟩ => ⟨_, _, _, he, Kept.of_below hb⟩

end Go.Proofs.YtcidfldeiklcjaaGreatDoor
