/- Words for memory: a block known whole; a world that has turned at some blocks alone; a slice that reads as a list. -/
import Derived.Test.YtpcdfepndmconaaGreatDoorRows
import Derived.WalkKit
import Derived.WalkSpells
import Derived.WalkLawsBesides
import Derived.Laws.OwnMore
import Derived.Deep.Draws
import Derived.Deep.AppendLies
import Derived.Lib.Hide
import Derived.Deep.QuietTactic
import Derived.BigQuiet
namespace Go.Proofs.YtpcdfepndmconaaGreatDoor
open Go.RowKit

/-! ### a world that has turned at the blocks of a list alone (and has new blocks) -/

structure Kept (S : List Nat) (w w' : World) : Prop where
  os : w'.os = w.os
  tape : w'.tape = w.tape
  output : w'.output = w.output
  size : w.heap.size ≤ w'.heap.size
  block : ∀ k, k < w.heap.size → k ∉ S → w'.heap[k]? = w.heap[k]?

section
variable {S : List Nat} {w w' w'' : World}

theorem Kept.refl (S : List Nat) (w : World) : Kept S w w := ⟨rfl, rfl, rfl, Nat.le_refl _, fun _ _ _ => rfl⟩
theorem Kept.trans (h : Kept S w w') (k : Kept S w' w'') : Kept S w w'' :=
  ⟨k.os.trans h.os, k.tape.trans h.tape, k.output.trans h.output, Nat.le_trans h.size k.size,
   fun i hi hS => (k.block i (Nat.lt_of_lt_of_le hi h.size) hS).trans (h.block i hi hS)⟩
theorem Kept.mono {S' : List Nat} (h : Kept S w w') (hs : ∀ k, k < w.heap.size → k ∈ S → k ∈ S') : Kept S' w w' :=
  ⟨h.os, h.tape, h.output, h.size, fun i hi hS => h.block i hi fun hx => hS (hs i hi hx)⟩
/-- behind a callee that turned blocks of its caller's own -/
theorem Kept.then_ {S' : List Nat} (h : Kept S w w') (k : Kept S' w' w'') (hs : ∀ k, k < w.heap.size → k ∈ S' → k ∈ S) : Kept S w w'' :=
  ⟨k.os.trans h.os, k.tape.trans h.tape, k.output.trans h.output, Nat.le_trans h.size k.size,
   fun i hi hS => (k.block i (Nat.lt_of_lt_of_le hi h.size) (fun hx => hS (hs i hi hx))).trans (h.block i hi hS)⟩
/-- behind a callee that turned blocks that are new since w -/
theorem Kept.fresh {S' : List Nat} (h : Kept S w w') (k : Kept S' w' w'') (hs : ∀ x ∈ S', w.heap.size ≤ x) : Kept S w w'' :=
  h.then_ k fun x hx hm => absurd (hs x hm) (by omega)
theorem Kept.drew (h : Kept S w w') : Kept S w w'.drew := ⟨h.os, h.tape, h.output, h.size, h.block⟩
theorem Kept.drewN (h : Kept S w w') (n : Nat) : Kept S w (w'.drewN n) := ⟨h.os, h.tape, h.output, h.size, h.block⟩
theorem Kept.alloc (h : Kept S w w') (o : Obj) : Kept S w (w'.alloc o) :=
  h.trans ⟨rfl, rfl, rfl, by simp, fun k hk _ => Below.heap_alloc _ _ _ hk⟩
theorem Kept.setCell (h : Kept S w w') {p : Addr} (hp : p.block ∈ S ∨ w.heap.size ≤ p.block) (u : Value) : Kept S w (w'.setCell p u) :=
  ⟨h.os, h.tape, h.output, by simpa [World.setCell] using h.size, fun k hk hS =>
    (Below.heap_setCell _ _ _ _ (fun e => by rcases hp with hp | hp; exact hS (e ▸ hp); omega)).trans (h.block k hk hS)⟩
theorem Kept.of_below (h : Below w.heap.size w w') : Kept S w w' := ⟨h.os, h.tape, h.output, h.size, fun k hk _ => h.block k hk⟩
theorem Kept.below (h : Kept [] w w') : Below w.heap.size w w' := ⟨h.os, h.tape, h.output, h.size, fun k hk => h.block k hk (by simp)⟩
theorem Kept.below_of {B : Nat} (h : Kept S w w') (hB : B ≤ w.heap.size) (hS : ∀ k ∈ S, B ≤ k) : Below B w w' :=
  ⟨h.os, h.tape, h.output, h.size, fun k hk => h.block k (by omega) (fun hx => by have := hS k hx; omega)⟩
theorem Kept.of_below_le {B : Nat} (h : Below B w w') (hS : ∀ k, B ≤ k → k < w.heap.size → k ∈ S) : Kept S w w' :=
  ⟨h.os, h.tape, h.output, h.size, fun k hk hn => h.block k (by
    rcases Nat.lt_or_ge k B with h1 | h1
    · exact h1
    · exact absurd (hS k h1 hk) hn)⟩
theorem Kept.of_grown {row : Option Nat} (h : w.grownBy w' row) (hr : ∀ k, row = some k → k ∈ S) : Kept S w w' :=
  ⟨h.os, h.tape, h.output, h.size, fun k hk hS => h.block k hk fun e => hS (hr k e.symm)⟩
theorem Kept.grown (h : Kept S w w') {row : Option Nat} (hg : w'.grownBy w'' row) (hr : ∀ k, row = some k → k ∈ S ∨ w.heap.size ≤ k) : Kept S w w'' :=
  ⟨hg.os.trans h.os, hg.tape.trans h.tape, hg.output.trans h.output, Nat.le_trans h.size hg.size, fun k hk hS =>
    (hg.block k (Nat.lt_of_lt_of_le hk h.size) (fun e => by rcases hr k e.symm with hx | hx; exact hS hx; omega)).trans (h.block k hk hS)⟩
theorem Kept.cell (h : Kept S w w') {p : Addr} (hp : p.block < w.heap.size) (hS : p.block ∉ S) : w'.cell? p = w.cell? p :=
  World.cell?_of_block (w := w) (h.block p.block hp hS)
theorem Kept.frozen (h : Kept S w w') {p : Addr} (hp : p.block < w.heap.size) (hS : p.block ∉ S) : w'.frozen? p = w.frozen? p :=
  World.frozen?_of_block (w := w) (h.block p.block hp hS)
end

theorem Kept.then_below {w0 w1 w2 : World} (h : Kept [] w0 w1) (k : Below w0.heap.size w1 w2) : Kept [] w0 w2 :=
  ⟨k.os.trans h.os, k.tape.trans h.tape, k.output.trans h.output, Nat.le_trans h.size k.size, fun i hi _ => (k.block i hi).trans (h.block i hi (by simp))⟩

/-! ### a region that draws its order, where all that lay in 'w0' stays as it is: one walk, in the order of the text -/

def KW (w0 : World) : Type := {w : World // Kept [] w0 w}
instance KW.some_ (w0 : World) : Nonempty (KW w0) := ⟨⟨w0, Kept.refl _ _⟩⟩

theorem wp_region_kept {P : Program} {id : Nat} {Q : Exit → Act → World → Prop} {a : Act} {w : World} {l : List Oper} (w0 : World) (h0 : Kept [] w0 w)
    (hm : P.follows .mixedOrders = true) (hB : Region.lexB .any l.toArray = true)
    (h : wpQuiet P l.toArray (fun w' => ∃ x : KW w0, w' = x.val) (fun a' => ∀ w', (∃ x : KW w0, w' = x.val) → Q .normal a' w') l a) : (Code.region id l.toArray true).wp P Q a w :=
  wp_region_quiet (C := fun w' => ∃ x : KW w0, w' = x.val) hm hB ⟨⟨_, h0.drew⟩, rfl⟩ (by simpa using h)

/-- a contract that keeps all that was there, met in such a region -/
theorem quiet_kept {P : Program} {f : FuncId} {args : Array Value} {w0 : World} {x : KW w0} {v : Value}
    (h : Calls P f args x.val fun e w' => e = .returned v ∧ Kept [] x.val w') : Calls P f args x.val fun e w'' => e = .returned v ∧ ∃ y : KW w0, w'' = y.val :=
  h.mono fun _ w' ⟨he, hk⟩ => ⟨he, ⟨w', x.property.trans hk⟩, rfl⟩

theorem KW.cell {w0 : World} (x : KW w0) {p : Addr} {v : Value} (h : w0.cell? p = some v) : x.val.cell? p = some v :=
  (x.property.cell (World.block_lt_of_cell? w0 p h) (by simp)).trans h

/-- a contract met in a later world, told from an earlier one on -/
theorem kept_from {P : Program} {f : FuncId} {args : Array Value} {W w : World} {v : Value} (hW : Kept [] W w)
    (h : Calls P f args w fun e w' => e = .returned v ∧ Kept [] w w') : Calls P f args w fun e w' => e = .returned v ∧ Kept [] W w' :=
  h.mono fun _ _ ⟨he, hk⟩ => ⟨he, hW.trans hk⟩

theorem Kept.cellOf {W : World} {p : Addr} {v : Value} (h : W.cell? p = some v) : ∀ w' : World, Kept [] W w' → w'.cell? p = some v :=
  fun _ k => (k.cell (World.block_lt_of_cell? W p h) (by simp)).trans h

/-! ### a block known whole -/

def Blk (w : World) (b : Nat) (T : TypeId) (cs : Array Value) : Prop := w.heap[b]? = some (.cells cs T (0, 0))

section
variable {w w' : World} {b : Nat} {T : TypeId} {cs : Array Value}
theorem Blk.lt (h : Blk w b T cs) : b < w.heap.size := (Array.getElem?_eq_some_iff.1 h).1
theorem Blk.cell (h : Blk w b T cs) (i : Nat) : w.cell? ⟨b, i, none⟩ = cs[i]? := by unfold Blk at h; simp [World.cell?, h]
theorem Blk.frozen (h : Blk w b T cs) (i : Nat) : w.frozen? ⟨b, i, none⟩ = false := by unfold Blk at h; simp [World.frozen?, h]
theorem Blk.set_ (h : Blk w b T cs) (i : Nat) (u : Value) : Blk (w.setCell ⟨b, i, none⟩ u) b T (cs.setIfInBounds i u) := by
  unfold Blk at h ⊢
  simp [World.setCell, Array.getElem?_modify, h]
theorem Blk.kept {S : List Nat} (h : Blk w b T cs) (k : Kept S w w') (hb : b ∉ S) : Blk w' b T cs := (k.block b h.lt hb).trans h
theorem Blk.drew (h : Blk w b T cs) : Blk w.drew b T cs := h
theorem Blk.drewN (h : Blk w b T cs) (n : Nat) : Blk (w.drewN n) b T cs := h
theorem Blk.alloc (h : Blk w b T cs) (o : Obj) : Blk (w.alloc o) b T cs := (Below.heap_alloc w o b h.lt).trans h
theorem Blk.new (w : World) (T : TypeId) (cs : Array Value) : Blk (w.alloc (.cells cs T)) w.heap.size T cs := heap_alloc_new w _
theorem Blk.far (h : Blk w b T cs) {p : Addr} (hp : b ≠ p.block) (u : Value) : Blk (w.setCell p u) b T cs := (Below.heap_setCell w p u b hp).trans h
end

/-! ### an owned row -/

theorem own_kept {w w' : World} {S : List Nat} {B : Nat} {e : TypeId} {size : Nat} {v : Value} {n : Nat} {xs : List Value} (h : w.ownsRow B e size v n xs) (k : Kept S w w')
    (hS : ∀ x ∈ S, x < B) : w'.ownsRow B e size v n xs := by
  refine ⟨h.1, ?_⟩
  rcases h.2 with h1 | ⟨g, cap, cur, hv, hB, hg, r⟩
  · exact Or.inl h1
  · refine Or.inr ⟨g, cap, cur, hv, hB, ?_, r⟩
    rw [k.block g (Array.getElem?_eq_some_iff.1 hg).1 (fun hx => by have := hS g hx; omega)]
    exact hg
theorem own_form {w : World} {B : Nat} {e : TypeId} {size : Nat} {v : Value} {n : Nat} {xs : List Value} (h : w.ownsRow B e size v n xs) : ∃ a c, v = .slice a n c := by
  rcases h.2 with ⟨h1, h2⟩ | ⟨g, cap, cur, hv, _⟩
  · subst h2; exact ⟨_, _, h1⟩
  · exact ⟨_, _, hv⟩
/-- a row owned from a later block on is owned from an earlier one on -/
theorem own_base {w : World} {B B' : Nat} {e : TypeId} {size : Nat} {v : Value} {n : Nat} {xs : List Value} (h : w.ownsRow B e size v n xs) (hB : B' ≤ B) : w.ownsRow B' e size v n xs := by
  refine ⟨h.1, ?_⟩
  rcases h.2 with h1 | ⟨g, cap, cur, hv, hg, r⟩
  · exact Or.inl h1
  · exact Or.inr ⟨g, cap, cur, hv, by omega, r⟩
end Go.Proofs.YtpcdfepndmconaaGreatDoor
