/- append onto a slice of the call's own: a row of ints behind it; where the new slice lies. -/
import Derived.Test.YtcidfldeiklcjaaGreatDoorEnv
import Derived.Test.YtcidfldeiklcjaaGreatDoorRdS
import Derived.Laws.OwnMore
import Derived.Maps.AppendAt
/- JOINED: Tape Recs Ctx Size Rows2 App -/
/- The plain codec of lists of ints: how a proof and a record lie in one list of numbers. -/
namespace Go.Proofs.YtcidfldeiklcjaaGreatDoor.Tape

structure Tp where
  left : List Int
  bad : Bool

def next (r : Tp) : Int × Tp :=
  match r.left with
  | [] => (0, ⟨[], true⟩)
  | n :: t => (n, ⟨t, r.bad⟩)

def count (r : Tp) : Nat × Tp :=
  if (next r).1 < 0 ∨ ((next r).2.left.length : Int) < (next r).1 then (0, ⟨(next r).2.left, true⟩) else ((next r).1.toNat, (next r).2)

def list (r : Tp) : List Int × Tp :=
  ((count r).2.left.take (count r).1, ⟨(count r).2.left.drop (count r).1, (count r).2.bad⟩)

theorem next_ok (n : Int) (t : List Int) (b : Bool) : next ⟨n :: t, b⟩ = (n, ⟨t, b⟩) := rfl
theorem next_inv (r : Tp) (h : (next r).2.bad = false) : r.bad = false ∧ r.left = (next r).1 :: (next r).2.left := by
  obtain ⟨l, b⟩ := r
  rcases l with _ | ⟨n, t⟩
  · cases h
  · exact ⟨h, rfl⟩
theorem next_le (r : Tp) : (next r).2.left.length ≤ r.left.length := by
  obtain ⟨l, b⟩ := r
  rcases l with _ | ⟨n, t⟩
  · exact Nat.le_refl _
  · exact Nat.le_succ _

theorem count_le (r : Tp) : (count r).1 ≤ (count r).2.left.length ∧ (count r).2.left.length ≤ r.left.length := by
  unfold count
  have := next_le r
  split
  · exact ⟨Nat.zero_le _, this⟩
  · next h => exact ⟨by simp only; omega, this⟩
theorem count_ok (n : Nat) (t : List Int) (b : Bool) (h : n ≤ t.length) : count ⟨(n : Int) :: t, b⟩ = (n, ⟨t, b⟩) := by
  unfold count
  rw [next_ok]
  simp only
  rw [if_neg (by omega)]
  simp
theorem count_inv (r : Tp) (h : (count r).2.bad = false) : r.bad = false ∧ r.left = ((count r).1 : Int) :: (count r).2.left ∧ (count r).1 ≤ (count r).2.left.length := by
  have hc := (count_le r).1
  unfold count at h hc ⊢
  split at h
  · cases h
  · next hn =>
    rw [if_neg hn] at hc ⊢
    simp only at h hc ⊢
    rw [show (((next r).1.toNat : Nat) : Int) = (next r).1 by omega]
    exact ⟨(next_inv r h).1, (next_inv r h).2, hc⟩

def listE (l : List Int) : List Int := (l.length : Int) :: l

structure Codec {α : Type} (enc : α → List Int) (one : Tp → α × Tp) : Prop where
  fwd : ∀ x t b, one ⟨enc x ++ t, b⟩ = (x, ⟨t, b⟩)
  inv : ∀ r, (one r).2.bad = false → r.bad = false ∧ r.left = enc (one r).1 ++ (one r).2.left
  le : ∀ r, (one r).2.left.length ≤ r.left.length
  pos : ∀ x, 1 ≤ (enc x).length

theorem list_codec : Codec listE list where
  fwd x t b := by
    unfold list listE
    rw [List.cons_append, count_ok _ _ _ (by simp)]
    simp
  inv r h := by
    unfold list at h ⊢
    simp only at h ⊢
    obtain ⟨h1, h2, h3⟩ := count_inv r h
    refine ⟨h1, ?_⟩
    conv => lhs; rw [h2]
    unfold listE
    rw [List.length_take, Nat.min_eq_left h3, List.cons_append, List.take_append_drop]
  le r := by
    unfold list
    have := count_le r
    simp only [List.length_drop]
    omega
  pos x := by simp [listE]

theorem next_codec : Codec (fun n : Int => [n]) next where
  fwd x t b := rfl
  inv r h := next_inv r h
  le r := next_le r
  pos x := by simp

/-- one behind the other -/
def both {α β : Type} (f : Tp → α × Tp) (g : Tp → β × Tp) (r : Tp) : (α × β) × Tp := (((f r).1, (g (f r).2).1), (g (f r).2).2)
theorem both_codec {α β : Type} {ea : α → List Int} {eb : β → List Int} {f : Tp → α × Tp} {g : Tp → β × Tp} (a : Codec ea f) (b : Codec eb g) :
    Codec (fun x : α × β => ea x.1 ++ eb x.2) (both f g) where
  fwd x t bd := by
    unfold both
    rw [List.append_assoc, a.fwd]
    simp only
    rw [b.fwd]
  inv r h := by
    unfold both at h ⊢
    simp only at h ⊢
    obtain ⟨h1, h2⟩ := b.inv _ h
    obtain ⟨h3, h4⟩ := a.inv _ h1
    exact ⟨h3, by rw [List.append_assoc, ← h2, ← h4]⟩
  le r := Nat.le_trans (b.le _) (a.le _)
  pos x := by rw [List.length_append]; have := a.pos x.1; omega

def times {α : Type} (one : Tp → α × Tp) : Nat → Tp → List α → List α × Tp
  | 0, r, acc => (acc, r)
  | n + 1, r, acc => times one n (one r).2 (acc ++ [(one r).1])

def many {α : Type} (one : Tp → α × Tp) (r : Tp) : List α × Tp := times one (count r).1 (count r).2 []
theorem times_le {α : Type} {enc : α → List Int} {one : Tp → α × Tp} (c : Codec enc one) :
    ∀ (n : Nat) (r : Tp) (acc : List α), (times one n r acc).2.left.length ≤ r.left.length
  | 0, _, _ => Nat.le_refl _
  | n + 1, r, _ => Nat.le_trans (times_le c n _ _) (c.le r)

theorem times_len {α : Type} (one : Tp → α × Tp) : ∀ (n : Nat) (r : Tp) (acc : List α), (times one n r acc).1.length = acc.length + n
  | 0, _, _ => rfl
  | n + 1, r, acc => by rw [times, times_len one n]; simp; omega

end Go.Proofs.YtcidfldeiklcjaaGreatDoor.Tape
/- The plain law on records: a record that is encoded reads back; what is read is what was encoded. -/
namespace Go.Proofs.YtcidfldeiklcjaaGreatDoor.Tape
open Wire (I64)

abbrev Tick := Int × Int × Int × Int × Int × Int
abbrev Spnd := Int × List Int
abbrev Lnk := Tick × Spnd

structure Pf where
  dares : List (List Int)
  answers : List (List (List Int))

structure Rec where
  tickets : List Tick
  spends : List Spnd
  links : List (List (Lnk × List UInt8))
  commits : List Int
  chain : List Int
  bits : List (List Int)
  escrow : List Int
  proof : Pf

def tickE (t : Tick) : List Int := [t.1] ++ ([t.2.1] ++ ([t.2.2.1] ++ ([t.2.2.2.1] ++ ([t.2.2.2.2.1] ++ [t.2.2.2.2.2]))))
def spndE (x : Spnd) : List Int := [x.1] ++ listE x.2
def tick : Tp → Tick × Tp := both next (both next (both next (both next (both next next))))
def spnd : Tp → Spnd × Tp := both next list
def lnk : Tp → Lnk × Tp := both tick spnd
theorem tick_codec : Codec tickE tick := both_codec next_codec (both_codec next_codec (both_codec next_codec (both_codec next_codec (both_codec next_codec next_codec))))
theorem spnd_codec : Codec spndE spnd := both_codec next_codec list_codec
/-! ### proofs -/
def clause : Tp → List (Int × List Int) × Tp := many spnd
def done (r : Wire.Rd) : Bool := !r.bad && r.rest.isEmpty
def ended (r : Tp) : Bool := !r.bad && r.left.isEmpty
def readPf (s : List UInt8) : Pf × Bool :=
  if done (Wire.nums ⟨s, false⟩).2 && ended (many clause ⟨(Wire.nums ⟨s, false⟩).1, false⟩).2 then
    (⟨(many clause ⟨(Wire.nums ⟨s, false⟩).1, false⟩).1.map (List.map Prod.fst), (many clause ⟨(Wire.nums ⟨s, false⟩).1, false⟩).1.map (List.map Prod.snd)⟩, true)
  else (⟨[], []⟩, false)

theorem zip_back {α β : Type} : ∀ l : List (α × β), (l.map Prod.fst).zip (l.map Prod.snd) = l
  | [] => rfl
  | a :: l => by simp only [List.map_cons, List.zip_cons_cons, zip_back l]
def AllI (l : List Int) : Prop := ∀ x ∈ l, I64 x

theorem ended_iff {r : Tp} : ended r = true ↔ r.bad = false ∧ r.left = [] := by
  unfold ended
  rw [Bool.and_eq_true, Bool.not_eq_true', List.isEmpty_iff]
/-! ### records -/

def terms (l : List (List (Lnk × List UInt8))) : List (List UInt8) := l.flatMap (List.map Prod.snd)
def strip (l : List (List (Lnk × List UInt8))) : List (List Lnk) := l.map (List.map Prod.fst)
def attach : List (List Lnk) → List (List UInt8) → List (List (Lnk × List UInt8))
  | [], _ => []
  | l :: ls, ts => l.zip (ts.take l.length) :: attach ls (ts.drop l.length)
def total : List (List Lnk) → Nat
  | [] => 0
  | l :: ls => l.length + total ls

theorem attach_strip : ∀ l : List (List (Lnk × List UInt8)), attach (strip l) (terms l) = l
  | [] => rfl
  | a :: l => by
    have e1 : (terms (a :: l)).take a.length = a.map Prod.snd := by
      unfold terms
      rw [List.flatMap_cons]
      rw [List.take_append_of_le_length (by simp)]
      rw [List.take_of_length_le (by simp)]
    have e2 : (terms (a :: l)).drop a.length = terms l := by
      unfold terms
      rw [List.flatMap_cons, List.drop_append]
      simp
    show (a.map Prod.fst).zip ((terms (a :: l)).take (a.map Prod.fst).length) :: attach (strip l) ((terms (a :: l)).drop (a.map Prod.fst).length) = _
    rw [List.length_map, e1, e2, zip_back, attach_strip l]
theorem total_strip : ∀ l : List (List (Lnk × List UInt8)), total (strip l) = (terms l).length
  | [] => rfl
  | a :: l => by
    show (a.map Prod.fst).length + total (strip l) = _
    rw [total_strip l]
    unfold terms
    rw [List.flatMap_cons]
    simp
abbrev Nums7 := List Tick × List Spnd × List (List Lnk) × List Int × List Int × List (List Int) × List Int
def nums7 : Tp → Nums7 × Tp := both (many tick) (both (many spnd) (both (many (many lnk)) (both list (both list (both (many list) list)))))
def zeroR : Rec := ⟨[], [], [], [], [], [], [], ⟨[], []⟩⟩
def mkR (x : Nums7) (ts : List (List UInt8)) (p : Pf) : Rec := ⟨x.1, x.2.1, attach x.2.2.1 ts, x.2.2.2.1, x.2.2.2.2.1, x.2.2.2.2.2.1, x.2.2.2.2.2.2, p⟩
/-- what is read, of its parts -/
def joinR (ts : List (List UInt8)) (ns : List Int) (rd : Wire.Rd) (p : Pf × Bool) : Rec × Bool :=
  if done rd && p.2 && ended (nums7 ⟨ns, false⟩).2 && decide (total (nums7 ⟨ns, false⟩).1.2.2.1 = ts.length) then (mkR (nums7 ⟨ns, false⟩).1 ts p.1, true) else (zeroR, false)
def readR (s : List UInt8) : Rec × Bool :=
  joinR (Wire.texts ⟨s, false⟩).1 (Wire.nums (Wire.texts ⟨s, false⟩).2).1 (Wire.text (Wire.nums (Wire.texts ⟨s, false⟩).2).2).2
    (readPf (Wire.text (Wire.nums (Wire.texts ⟨s, false⟩).2).2).1)

end Go.Proofs.YtcidfldeiklcjaaGreatDoor.Tape
/- The plain law on contexts: two tasks and records of one context agree in what the context holds. -/
namespace Go.Proofs.YtcidfldeiklcjaaGreatDoor.Tape
open Wire (I64)

structure Pss where
  name : List UInt8
  pub : Int
  attrs : List (List UInt8)
  guests : List Int

structure Tsk where
  version : Int
  question : List UInt8
  passes : List Pss
  most : Int
  revoked : List Int
  dare : Int
  quorum : Int
  jurors : Int

def head5 (t : Tsk) : List Int := [t.version, t.most, t.dare, t.quorum, t.jurors]
end Go.Proofs.YtcidfldeiklcjaaGreatDoor.Tape
/- Small records have ints and lengths that can be encoded. -/
namespace Go.Proofs.YtcidfldeiklcjaaGreatDoor.Tape
open Wire (I64)

end Go.Proofs.YtcidfldeiklcjaaGreatDoor.Tape
/- Slices of things: what a slice of structs, of slices, of strings reads as. -/
namespace Go.Proofs.YtcidfldeiklcjaaGreatDoor
open Go.RowKit

/-- a slice whose elements, of m cells each, stand for the members of a list -/
def RowOf {α : Type} (R : World → List Value → α → Prop) (m : Nat) (w : World) (u : Value) (l : List α) : Prop :=
  ∃ vs : List (List Value), vs.length = l.length ∧ (∀ c ∈ vs, c.length = m) ∧ (∀ (k : Nat) a, l[k]? = some a → ∃ c, vs[k]? = some c ∧ R w c a) ∧ Row w m u l.length vs.flatten

theorem flatten_get {α : Type} : ∀ (vs : List (List α)) (m k j : Nat) (c : List α), (∀ c ∈ vs, c.length = m) → vs[k]? = some c → j < m → vs.flatten[k * m + j]? = c[j]?
  | [], _, _, _, _, _, h, _ => by simp at h
  | a :: vs, m, 0, j, c, hm, h, hj => by
    simp at h
    subst h
    have := hm a (by simp)
    rw [Nat.zero_mul, Nat.zero_add, List.flatten_cons, List.getElem?_append_left (by omega)]
  | a :: vs, m, k + 1, j, c, hm, h, hj => by
    have h1 := hm a (by simp)
    have h2 : vs[k]? = some c := by simpa using h
    rw [List.flatten_cons, List.getElem?_append_right (by rw [h1, Nat.add_mul]; omega), h1, show (k + 1) * m + j - m = k * m + j by rw [Nat.add_mul]; omega]
    exact flatten_get vs m k j c (fun c hc => hm c (by simp [hc])) h2 hj
theorem flatten_len {α : Type} : ∀ (vs : List (List α)) (m : Nat), (∀ c ∈ vs, c.length = m) → vs.flatten.length = vs.length * m
  | [], m, _ => by simp
  | a :: vs, m, hm => by
    rw [List.flatten_cons, List.length_append, hm a (by simp), flatten_len vs m (fun c hc => hm c (by simp [hc])), List.length_cons, Nat.add_mul]
    omega

section
variable {α : Type} {R : World → List Value → α → Prop} {m : Nat} {w w' : World} {u : Value} {l : List α}
theorem RowOf.kept (h : RowOf R m w u l) (hR : ∀ c a, R w c a → R w' c a) (k : Kept [] w w') : RowOf R m w' u l := by
  obtain ⟨vs, h1, h2, h3, h4⟩ := h
  exact ⟨vs, h1, h2, fun i a ha => by obtain ⟨c, h5, h6⟩ := h3 i a ha; exact ⟨c, h5, hR c a h6⟩, h4.kept k⟩
theorem RowOf.form (h : RowOf R m w u l) : ∃ a c, u = .slice a l.length c ∧ l.length ≤ 9223372036854775807 ∧ l.length ≤ c := by
  obtain ⟨vs, _, _, _, h4⟩ := h
  exact h4.form
/-- the cells of one element -/
theorem RowOf.at_ {a : Option Addr} {n c : Nat} (h : RowOf R m w (.slice a n c) l) (hp : 0 < l.length) :
    ∃ b off, a = some ⟨b, off, none⟩ ∧ ∀ (k : Nat) x, l[k]? = some x → ∃ cs : List Value, cs.length = m ∧ R w cs x ∧ ∀ (j : Nat) v, j < m → cs[j]? = some v → w.cell? ⟨b, off + (k * m + j), none⟩ = some v := by
  obtain ⟨vs, h1, h2, h3, h4⟩ := h
  obtain ⟨b, off, ha, hc⟩ := h4.at_ hp
  refine ⟨b, off, ha, fun k x hx => ?_⟩
  obtain ⟨cs, h5, h6⟩ := h3 k x hx
  refine ⟨cs, h2 cs (List.mem_of_getElem? h5), h6, fun j v hj hv => ?_⟩
  exact hc (k * m + j) v ((flatten_get vs m k j cs h2 h5 hj).trans hv)
theorem RowOf.nil_ (R : World → List Value → α → Prop) (m : Nat) (w : World) : RowOf R m w (.slice none 0 0) [] :=
  ⟨[], rfl, by simp, by simp, ⟨by simp, by simp, _, _, rfl, by simp, fun h => absurd h (by simp)⟩⟩
/-- an owned row is such a slice -/
theorem RowOf.of_own {B : Nat} {e : TypeId} {vs : List (List Value)} (h : w.ownsRow B e m u l.length vs.flatten) (h1 : vs.length = l.length) (h2 : ∀ c ∈ vs, c.length = m)
    (h3 : ∀ (k : Nat) a, l[k]? = some a → ∃ c, vs[k]? = some c ∧ R w c a) (hn : l.length ≤ 9223372036854775807) : RowOf R m w u l :=
  ⟨vs, h1, h2, h3, Row.of_own h hn⟩
end

theorem row_of_blk {w : World} {b : Nat} {T : TypeId} {size n : Nat} {cs : List Value} (h : Blk w b T cs.toArray) (hl : cs.length = n * size) (hn : n ≤ 9223372036854775807) :
    Row w size (.slice (some ⟨b, 0, none⟩) n n) n cs := by
  refine ⟨hl, hn, _, _, rfl, Nat.le_refl _, fun _ => ⟨_, _, rfl, fun k u hu => ?_⟩⟩
  rw [Nat.zero_add, h.cell k]
  simpa using hu

/-! ### the element relations -/
open Tape (Tick Spnd Lnk Pf Rec Pss Tsk)
def ListR (w : World) (c : List Value) (l : List Int) : Prop := ∃ v, c = [v] ∧ Row w 1 v l.length (ints l)
def tickC (t : Tick) : List Value := [.int .i64 t.1, .int .i64 t.2.1, .int .i64 t.2.2.1, .int .i64 t.2.2.2.1, .int .i64 t.2.2.2.2.1, .int .i64 t.2.2.2.2.2]
def TickR (_ : World) (c : List Value) (t : Tick) : Prop := c = tickC t
def SpndR (w : World) (c : List Value) (x : Spnd) : Prop := ∃ v, c = [.int .i64 x.1, v] ∧ Row w 1 v x.2.length (ints x.2)
def LnkR (w : World) (c : List Value) (x : Lnk × List UInt8) : Prop := ∃ v, c = tickC x.1.1 ++ [.int .i64 x.1.2.1, v, .string ⟨x.2.toArray⟩] ∧ Row w 1 v x.1.2.2.length (ints x.1.2.2)
def LnksR (w : World) (c : List Value) (l : List (Lnk × List UInt8)) : Prop := ∃ v, c = [v] ∧ RowOf LnkR 9 w v l
def ListsR (w : World) (c : List Value) (l : List (List Int)) : Prop := ∃ v, c = [v] ∧ RowOf ListR 1 w v l
def PssR (w : World) (c : List Value) (p : Pss) : Prop := ∃ v u, c = [.string ⟨p.name.toArray⟩, .int .i64 p.pub, v, u] ∧ Row w 1 v p.attrs.length (strs p.attrs) ∧ Row w 1 u p.guests.length (ints p.guests)

section
variable {w w' : World} {c : List Value}
theorem PssR.kept {p : Pss} (h : PssR w c p) (k : Kept [] w w') : PssR w' c p := by obtain ⟨v, u, h1, h2, h3⟩ := h; exact ⟨v, u, h1, h2.kept k, h3.kept k⟩
end

/-- a record's value: the nine slices -/
structure RecS (w : World) (tk sp lk cm ch bt es da an : Value) (r : Rec) : Prop where
  tk : RowOf TickR 6 w tk r.tickets
  sp : RowOf SpndR 2 w sp r.spends
  lk : RowOf LnksR 1 w lk r.links
  cm : Row w 1 cm r.commits.length (ints r.commits)
  ch : Row w 1 ch r.chain.length (ints r.chain)
  bt : RowOf ListR 1 w bt r.bits
  es : Row w 1 es r.escrow.length (ints r.escrow)
  da : RowOf ListR 1 w da r.proof.dares
  an : RowOf ListsR 1 w an r.proof.answers
def RecV (w : World) (v : Value) (r : Rec) : Prop := ∃ tk sp lk cm ch bt es da an, v = .agg #[tk, sp, lk, cm, ch, bt, es, da, an] ∧ RecS w tk sp lk cm ch bt es da an r
end Go.Proofs.YtcidfldeiklcjaaGreatDoor
namespace Go.Proofs.YtcidfldeiklcjaaGreatDoor
open Go.RowKit

/-- the block of a slice's array -/
def obl (v : Value) : List Nat := v.ownBlock.toList
theorem obl_some {v : Value} {k : Nat} (h : v.ownBlock = some k) : k ∈ obl v := by unfold obl; rw [h]; simp
theorem obl_mem {v : Value} {k : Nat} (h : k ∈ obl v) : v.ownBlock = some k := by unfold obl at h; simpa using h
theorem Kept.of_obl {w w' : World} {v : Value} (h : w.grownBy w' v.ownBlock) : Kept (obl v) w w' := Kept.of_grown h fun _ h => obl_some h
theorem own_ge {w : World} {B : Nat} {e : TypeId} {size n : Nat} {v : Value} {xs : List Value} (h : w.ownsRow B e size v n xs) : ∀ k ∈ obl v, B ≤ k ∧ k < w.heap.size := fun k hk => h.lt k (obl_mem hk)
theorem own_keep {w w' : World} {S : List Nat} {B : Nat} {e : TypeId} {size n : Nat} {v : Value} {xs : List Value} (h : w.ownsRow B e size v n xs) (k : Kept S w w') (hS : ∀ z ∈ obl v, z ∉ S) :
    w'.ownsRow B e size v n xs := by
  refine ⟨h.1, ?_⟩
  rcases h.2 with h1 | ⟨g', cap, cur, hv, hB, hb, r⟩
  · exact Or.inl h1
  · subst hv
    exact Or.inr ⟨g', cap, cur, rfl, hB, (k.block g' (Array.getElem?_eq_some_iff.1 hb).1 (hS g' (obl_some rfl))).trans hb, r⟩

section
variable {P : Program}
theorem run_append_nothing {w : World} (base : Nat) (t ty e : TypeId) (i : TypeInfo) (size : Nat) (ht : P.underlying t = some (.slice e)) (hi : P.info? e = some i)
    (v : Value) (n c : Nat) (xs : List Value) (hown : w.ownsRow base e size v n xs) :
    (Builtin.append_ #[t, t] ty #[v, .slice none 0 c]).run P w = .ok v w := by
  rcases hown.2 with ⟨rfl, rfl⟩ | ⟨g, cap, cur, rfl, _, _, hnc, _⟩
  · simp [Builtin.append_, run_underlying ht, sizeOf, typeInfo, hi, Builtin.lenOf, Builtin.firstCells]
  · simp [Builtin.append_, run_underlying ht, sizeOf, typeInfo, hi, Builtin.lenOf, Builtin.firstCells, hnc, storeCells]

theorem wp_append_row {w : World} {o : Oper} {a : Act} {K : Act → World → Prop} {Q : Exit → Act → World → Prop} (s x : Operand) (t : TypeId)
    (ho : o.op = .call { callee := .builtin .append, args := #[s, x], argTypes := #[t, t] })
    (base : Nat) (e : TypeId) (i : TypeInfo) (z : Value) (size bytes : Nat) (ht : P.underlying t = some (.slice e)) (hi : P.info? e = some i) (hz : i.zero = some z)
    (hsize : i.size = size) (hby : i.bytes = bytes) (hzs : z.cells.size = size) (hsz : 0 < size)
    (v : Value) (n : Nat) (xs : List Value) (hs : a.eval s = v) (hown : w.ownsRow base e size v n xs)
    (u : Value) (m : Nat) (news : List Value) (hx : a.eval x = u) (hrow : Row w size u m news) (h1 : ∀ u ∈ news, u.oneCell' = true)
    (h63 : n + m ≤ maxLen) (hbytes : (n + m) * bytes ≤ 140737488355328) (hbase : base ≤ w.heap.size)
    (h : ∀ a' c' w', w'.ownsRow base e size (.slice a' (n + m) c') (n + m) (xs ++ news) → Kept (obl v) w w' → (∀ k ∈ obl (.slice a' (n + m) c'), k ∈ obl v ∨ k = w.heap.size) → K (a.put o.dst (.slice a' (n + m) c')) w') : o.wp P a w K Q := by
  obtain ⟨hl, _, ad, c, rfl, _, hc⟩ := hrow
  cases ad with
  | none =>
    have hm : m = 0 := by
      rcases Nat.eq_zero_or_pos m with h | h
      · exact h
      · obtain ⟨b, off, hb, _⟩ := hc h
        cases hb
    subst hm
    have hn : news = [] := List.eq_nil_of_length_eq_zero (by simpa using hl)
    subst hn
    have hr := run_append_nothing (P := P) base t o.type e i size ht hi v n c xs hown
    obtain ⟨a', c', hv⟩ := own_form hown
    subst hv
    unfold Oper.wp execOp
    simp only [ho, resolve, invoke, builtin, Sem.run_bind, Sem.run_pure, Result.andThen_ok, List.map_toArray, List.map_cons, List.map_nil, hs, hx, hr]
    exact h a' c' w (by simpa using hown) (Kept.refl _ _) (fun k hk => Or.inl hk)
  | some ad =>
    have hnews : ∀ j u, news[j]? = some u → w.cell? (ad.add j) = some u := by
      intro j u hj
      rcases Nat.eq_zero_or_pos m with h | h
      · subst h
        have hn : news = [] := List.eq_nil_of_length_eq_zero (by simpa using hl)
        rw [hn] at hj
        simp at hj
      · obtain ⟨b, off, hb, hcell⟩ := hc h
        injection hb with hb
        subst hb
        rw [add_cell]
        exact hcell j u hj
    obtain ⟨v', w', hr, h2, h3, _, h5⟩ := run_append_own_at (P := P) w base t o.type e i z size bytes ht hi hz hsize hby hzs hsz v n xs hown ad m c news hl hnews h1 h63 hbytes hbase
    obtain ⟨a', c', hv⟩ := own_form h2
    subst hv
    unfold Oper.wp execOp
    simp only [ho, resolve, invoke, builtin, Sem.run_bind, Sem.run_pure, Result.andThen_ok, List.map_toArray, List.map_cons, List.map_nil, hs, hx, hr]
    refine h a' c' w' h2 (Kept.of_obl h3) (fun k hk => ?_)
    rcases h5 with h5 | h5
    · exact Or.inl (obl_some (h5 ▸ obl_mem hk))
    · have := obl_mem hk
      rw [h5] at this
      injection this with this
      exact Or.inr this.symm
end

/-- a row of ints behind a slice of ints -/
theorem wp_append_ints {w : World} {o : Oper} {a : Act} {K : Act → World → Prop} {Q : Exit → Act → World → Prop} (s x : Operand)
    (ho : o.op = .call { callee := .builtin .append, args := #[s, x], argTypes := #[24, 24] })
    (base : Nat) (v : Value) (n : Nat) (xs : List Int) (hs : a.eval s = v) (hown : w.ownsRow base 3 1 v n (ints xs))
    (u : Value) (m : Nat) (l : List Int) (hx : a.eval x = u) (hrow : Row w 1 u m (ints l)) (hsm : n + m ≤ 1000000000) (hbase : base ≤ w.heap.size)
    (h : ∀ a' c' w', w'.ownsRow base 3 1 (.slice a' (n + m) c') (n + m) (ints (xs ++ l)) → Kept (obl v) w w' → (∀ k ∈ obl (.slice a' (n + m) c'), k ∈ obl v ∨ k = w.heap.size) → K (a.put o.dst (.slice a' (n + m) c')) w') : o.wp Tryz.prog a w K Q := by
  obtain ⟨i0, hi, hz0, hz1, hz2⟩ := info_parts infoInt
  refine wp_append_row s x 24 ho base 3 i0 (.int .i64 0) 1 8 Tryz.underlying24 hi hz0 hz1 hz2 rfl (by decide) v n (ints xs) hs hown u m (ints l) hx hrow ?_ (by unfold maxLen; omega) (by omega) hbase ?_
  · intro u hu
    obtain ⟨y, _, rfl⟩ := List.mem_map.1 hu
    rfl
  · rw [← show ints (xs ++ l) = ints xs ++ ints l by simp [ints]]
    exact h
theorem wpList_append_ints {w : World} {ops : Array Oper} {rest : List Oper} {o : Oper} {a : Act} {Q : Exit → Act → World → Prop} (hgd : o.guard = none) (s x : Operand)
    (ho : o.op = .call { callee := .builtin .append, args := #[s, x], argTypes := #[24, 24] })
    (base : Nat) (v : Value) (n : Nat) (xs : List Int) (hs : a.eval s = v) (hown : w.ownsRow base 3 1 v n (ints xs))
    (u : Value) (m : Nat) (l : List Int) (hx : a.eval x = u) (hrow : Row w 1 u m (ints l)) (hsm : n + m ≤ 1000000000) (hbase : base ≤ w.heap.size)
    (h : ∀ a' c' w', w'.ownsRow base 3 1 (.slice a' (n + m) c') (n + m) (ints (xs ++ l)) → Kept (obl v) w w' → (∀ k ∈ obl (.slice a' (n + m) c'), k ∈ obl v ∨ k = w.heap.size) → wpList Tryz.prog ops Q rest (a.put o.dst (.slice a' (n + m) c')) w') :
    wpList Tryz.prog ops Q (o :: rest) a w :=
  wpList_plain hgd fun _ hK => wp_append_ints s x ho base v n xs hs hown u m l hx hrow hsm hbase fun a' c' w' h2 h3 h4 => hK _ _ (h a' c' w' h2 h3 h4)
theorem step_append_ints {w : World} {ops : Array Oper} {o : Oper} {a : Act} {K : Act → World → Prop} {Q : Exit → Act → World → Prop} {E : Prop} (hgd : o.guard = none) (s x : Operand)
    (ho : o.op = .call { callee := .builtin .append, args := #[s, x], argTypes := #[24, 24] })
    (base : Nat) (v : Value) (n : Nat) (xs : List Int) (hs : a.eval s = v) (hown : w.ownsRow base 3 1 v n (ints xs))
    (u : Value) (m : Nat) (l : List Int) (hx : a.eval x = u) (hrow : Row w 1 u m (ints l)) (hsm : n + m ≤ 1000000000) (hbase : base ≤ w.heap.size)
    (h : ∀ a' c' w', w'.ownsRow base 3 1 (.slice a' (n + m) c') (n + m) (ints (xs ++ l)) → Kept (obl v) w w' → (∀ k ∈ obl (.slice a' (n + m) c'), k ∈ obl v ∨ k = w.heap.size) → K (a.put o.dst (.slice a' (n + m) c')) w') :
    if Region.wanted o (yielded ops a.tmps) = true then Oper.wp Tryz.prog o a w K Q else E := by
  rw [if_pos (by simp [Region.wanted, hgd])]
  exact wp_append_ints s x ho base v n xs hs hown u m l hx hrow hsm hbase h

/-- the row that a slice literal lays -/
theorem Row.lit (w : World) (l : List Int) (hl : l.length ≤ 1000) : Row (w.alloc (.cells (ints l).toArray 3)) 1 (.slice (some ⟨w.heap.size, 0, none⟩) l.length l.length) l.length (ints l) :=
  row_of_blk (Blk.new w 3 (ints l).toArray) (by simp [ints]) (by omega)
/-- the one cell of an element of size one -/
theorem RowOf.one {α : Type} {R : World → List Value → α → Prop} {w : World} {a : Option Addr} {n c : Nat} {l : List α} (h : RowOf R 1 w (.slice a n c) l) (k : Nat) (hk : k < l.length) :
    ∃ b off v, a = some ⟨b, off, none⟩ ∧ w.cell? ⟨b, off + k, none⟩ = some v ∧ R w [v] l[k] := by
  obtain ⟨b, off, rfl, hc⟩ := h.at_ (by omega)
  obtain ⟨cs, h1, h2, h3⟩ := hc k _ (List.getElem?_eq_getElem hk)
  obtain ⟨v, rfl⟩ : ∃ v, cs = [v] := by
    rcases cs with _ | ⟨v, _ | ⟨u, t⟩⟩
    · cases h1
    · exact ⟨v, rfl⟩
    · simp at h1
  have := h3 0 v (by omega) rfl
  rw [Nat.mul_one, Nat.add_zero] at this
  exact ⟨b, off, v, rfl, this, h2⟩
end Go.Proofs.YtcidfldeiklcjaaGreatDoor
