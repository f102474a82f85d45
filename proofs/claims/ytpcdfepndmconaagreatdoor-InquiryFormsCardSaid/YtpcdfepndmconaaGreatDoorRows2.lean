/- Slices of things: what a slice of structs, of slices, of strings reads as. -/
import Derived.Test.YtpcdfepndmconaaGreatDoorCtx
import Derived.Test.YtpcdfepndmconaaGreatDoorTape
/- JOINED: Size Rows2 -/
/- Small records have ints and lengths that can be encoded. -/
namespace Go.Proofs.YtpcdfepndmconaaGreatDoor.Tape
open Wire (I64)

theorem all_app {a b : List Int} (ha : AllI a) (hb : AllI b) : AllI (a ++ b) := fun x hx => by
  rcases List.mem_append.1 hx with h | h
  · exact ha x h
  · exact hb x h
theorem all_one {n : Int} (h : I64 n) : AllI [n] := fun x hx => by
  rw [List.mem_singleton] at hx
  exact hx ▸ h
theorem all_cons {n : Int} {l : List Int} (h : I64 n) (hl : AllI l) : AllI (n :: l) := fun x hx => by
  rcases List.mem_cons.1 hx with rfl | h1
  · exact h
  · exact hl x h1
theorem i64_len {α : Type} {l : List α} (h : l.length ≤ 100000000) : I64 (l.length : Int) := ⟨by omega, by omega⟩
theorem all_listE {l : List Int} (hl : l.length ≤ 100000000) (h : AllI l) : AllI (listE l) := all_cons (i64_len hl) h
theorem all_manyE {α : Type} {enc : α → List Int} {l : List α} (hl : l.length ≤ 100000000) (h : ∀ x ∈ l, AllI (enc x)) : AllI (manyE enc l) :=
  all_cons (i64_len hl) fun n hn => by
    obtain ⟨x, hx, hm⟩ := List.mem_flatMap.1 hn
    exact h x hx n hm
theorem len_flat {α : Type} {enc : α → List Int} (M : Nat) : ∀ (l : List α), (∀ x ∈ l, (enc x).length ≤ M) → (l.flatMap enc).length ≤ l.length * M
  | [], _ => by simp
  | a :: l, h => by
    have h1 := len_flat M l fun x hx => h x (by simp [hx])
    have h2 := h a (by simp)
    rw [List.flatMap_cons, List.length_append, List.length_cons, Nat.add_mul]
    omega
theorem len_many {α : Type} {enc : α → List Int} {l : List α} (N M : Nat) (hl : l.length ≤ N) (h : ∀ x ∈ l, (enc x).length ≤ M) : (manyE enc l).length ≤ N * M + 1 := by
  have h1 := len_flat M l h
  have h2 : l.length * M ≤ N * M := Nat.mul_le_mul_right M hl
  unfold manyE
  rw [List.length_cons]
  omega
theorem len_list {l : List Int} (N : Nat) (hl : l.length ≤ N) : (listE l).length ≤ N + 1 := by unfold listE; rw [List.length_cons]; omega

def TickI (t : Tick) : Prop := I64 t.1 ∧ I64 t.2.1 ∧ I64 t.2.2.1 ∧ I64 t.2.2.2.1 ∧ I64 t.2.2.2.2.1 ∧ I64 t.2.2.2.2.2
def SpndI (x : Spnd) : Prop := I64 x.1 ∧ AllI x.2
structure RecI (r : Rec) : Prop where
  tk : ∀ t ∈ r.tickets, TickI t
  sp : ∀ x ∈ r.spends, SpndI x
  lk : ∀ l ∈ r.links, ∀ x ∈ l, TickI x.1.1 ∧ SpndI x.1.2
  cm : AllI r.commits
  ch : AllI r.chain
  bt : ∀ l ∈ r.bits, AllI l
  es : AllI r.escrow
  da : ∀ l ∈ r.proof.dares, AllI l
  an : ∀ l ∈ r.proof.answers, ∀ x ∈ l, AllI x
/-- the bounds of a small record -/
structure FewB (r : Rec) : Prop where
  tk : r.tickets.length ≤ 6
  sp : r.spends.length ≤ 6
  spa : ∀ x ∈ r.spends, x.2.length ≤ 9
  lk : r.links.length ≤ 6
  lkl : ∀ l ∈ r.links, l.length ≤ 6
  lkt : ∀ l ∈ r.links, ∀ x ∈ l, x.2.length ≤ 100
  lka : ∀ l ∈ r.links, ∀ x ∈ l, x.1.2.2.length ≤ 9
  cm : r.commits.length ≤ 25
  ch : r.chain.length ≤ 18
  bt : r.bits.length ≤ 10
  btl : ∀ l ∈ r.bits, l.length ≤ 20
  es : r.escrow.length ≤ 14
  da : r.proof.dares.length ≤ 160
  dal : ∀ l ∈ r.proof.dares, l.length ≤ 10
  an : r.proof.answers.length ≤ 160
  anl : ∀ l ∈ r.proof.answers, l.length ≤ 10
  ana : ∀ l ∈ r.proof.answers, ∀ x ∈ l, x.length ≤ 70

theorem all_tick {t : Tick} (h : TickI t) : AllI (tickE t) := by
  obtain ⟨h1, h2, h3, h4, h5, h6⟩ := h
  exact all_app (all_one h1) (all_app (all_one h2) (all_app (all_one h3) (all_app (all_one h4) (all_app (all_one h5) (all_one h6)))))
theorem all_spnd {x : Spnd} (h : SpndI x) (hl : x.2.length ≤ 100000000) : AllI (spndE x) := all_app (all_one h.1) (all_listE hl h.2)
theorem len_tick (t : Tick) : (tickE t).length = 6 := rfl
theorem len_spnd (x : Spnd) (N : Nat) (h : x.2.length ≤ N) : (spndE x).length ≤ N + 2 := by
  show (x.1 :: listE x.2).length ≤ _
  have := len_list N h
  rw [List.length_cons]
  omega

theorem pair_mem : ∀ (da : List (List Int)) (an : List (List (List Int))) (c : List (Int × List Int)), c ∈ List.zipWith List.zip da an → (∃ d ∈ da, c.length ≤ d.length) ∧ ∀ x ∈ c, (∃ d ∈ da, x.1 ∈ d) ∧ ∃ a ∈ an, x.2 ∈ a
  | [], _, c, h => by simp at h
  | _ :: _, [], c, h => by simp at h
  | d :: da, a :: an, c, h => by
    simp only [List.zipWith_cons_cons, List.mem_cons] at h
    rcases h with rfl | h
    · refine ⟨⟨d, by simp, by rw [List.length_zip]; omega⟩, fun x hx => ?_⟩
      have := List.of_mem_zip (show (x.1, x.2) ∈ d.zip a from hx)
      exact ⟨⟨d, by simp, this.1⟩, a, by simp, this.2⟩
    · obtain ⟨⟨d', h1, h2⟩, h3⟩ := pair_mem da an c h
      refine ⟨⟨d', by simp [h1], h2⟩, fun x hx => ?_⟩
      obtain ⟨⟨d2, h4, h5⟩, a2, h6, h7⟩ := h3 x hx
      exact ⟨⟨d2, by simp [h4], h5⟩, a2, by simp [h6], h7⟩

theorem pf_ok {r : Rec} (hi : RecI r) (hf : FewB r) : AllI (pfN r.proof) ∧ (pfN r.proof).length ≤ 200000 := by
  have hp : r.proof.pairs.length ≤ 160 := by
    have := hf.da
    unfold Pf.pairs
    rw [List.length_zipWith]
    omega
  have hc : ∀ c ∈ r.proof.pairs, c.length ≤ 10 ∧ ∀ x ∈ c, SpndI x ∧ x.2.length ≤ 70 := by
    intro c hc
    obtain ⟨⟨d, h1, h2⟩, h3⟩ := pair_mem _ _ c hc
    have := hf.dal d h1
    refine ⟨by omega, fun x hx => ?_⟩
    obtain ⟨⟨d2, h4, h5⟩, a2, h6, h7⟩ := h3 x hx
    exact ⟨⟨hi.da d2 h4 _ h5, hi.an a2 h6 _ h7⟩, hf.ana a2 h6 _ h7⟩
  refine ⟨all_manyE (by omega) fun c hcm => all_manyE (by have := (hc c hcm).1; omega) fun x hx => ?_, ?_⟩
  · obtain ⟨h1, h2⟩ := (hc c hcm).2 x hx
    exact all_spnd h1 (by omega)
  · have := len_many (enc := clauseE) (l := r.proof.pairs) 160 721 hp fun c hcm => len_many (enc := spndE) 10 72 (hc c hcm).1 fun x hx => len_spnd x 70 ((hc c hcm).2 x hx).2
    unfold pfN
    omega

theorem intsE_len : ∀ (l : List Int), AllI l → (l.flatMap Wire.intE).length ≤ 21 * l.length
  | [], _ => by simp
  | a :: l, h => by
    have h1 := intsE_len l fun x hx => h x (by simp [hx])
    have h2 := Wire.itoa_len a (h a (by simp))
    rw [List.flatMap_cons, List.length_append, List.length_cons]
    show (Go.Lib.itoa a ++ [59]).length + _ ≤ _
    rw [List.length_append]
    simp only [List.length_cons, List.length_nil]
    omega
theorem numsE_le {l : List Int} (h : AllI l) (hl : l.length ≤ 9223372036854775807) : (Wire.numsE l).length ≤ 21 * l.length + 22 := by
  have h1 := intsE_len l h
  have h2 := Wire.itoa_len (l.length : Int) ⟨by omega, by omega⟩
  unfold Wire.numsE Wire.listE
  simp only [List.length_append, List.length_cons, List.length_nil]
  omega

theorem okR_of {r : Rec} (hi : RecI r) (hf : FewB r) : OkR r := by
  obtain ⟨p1, p2⟩ := pf_ok hi hf
  have t1 := hf.tk
  have t2 := hf.sp
  have t3 := hf.lk
  have t4 := hf.cm
  have t5 := hf.ch
  have t6 := hf.bt
  have t7 := hf.es
  have hs : ∀ l ∈ strip r.links, l.length ≤ 6 ∧ ∀ x ∈ l, TickI x.1 ∧ SpndI x.2 ∧ x.2.2.length ≤ 9 := by
    intro l hl
    obtain ⟨m, hm, rfl⟩ := List.mem_map.1 hl
    refine ⟨by rw [List.length_map]; exact hf.lkl m hm, fun x hx => ?_⟩
    obtain ⟨y, hy, rfl⟩ := List.mem_map.1 hx
    obtain ⟨h1, h2⟩ := hi.lk m hm y hy
    exact ⟨h1, h2, hf.lka m hm y hy⟩
  have hsl : (strip r.links).length ≤ 6 := by unfold strip; rw [List.length_map]; exact t3
  have ht : (terms r.links).length ≤ 36 := by
    have key : ∀ l : List (List (Lnk × List UInt8)), (∀ x ∈ l, x.length ≤ 6) → (terms l).length ≤ l.length * 6 := by
      intro l
      induction l with
      | nil => intro _; simp [terms]
      | cons a l ih =>
        intro h
        have h1 := ih fun x hx => h x (by simp [hx])
        have h2 := h a (by simp)
        unfold terms at h1 ⊢
        rw [List.flatMap_cons, List.length_append, List.length_map, List.length_cons, Nat.add_mul]
        omega
    have := key r.links hf.lkl
    omega
  refine ⟨?_, ?_, p1, by omega, by omega, ?_, ?_⟩
  · refine all_app (all_manyE (by show r.tickets.length ≤ _; omega) fun x hx => all_tick (hi.tk x hx)) (all_app (all_manyE (by show r.spends.length ≤ _; omega) fun x hx => all_spnd (hi.sp x hx) (by have := hf.spa x hx; omega))
      (all_app (all_manyE (by show (strip r.links).length ≤ _; omega) fun l hl => all_manyE (by have := (hs l hl).1; omega) fun x hx => ?_)
      (all_app (all_listE (by show r.commits.length ≤ _; omega) hi.cm) (all_app (all_listE (by show r.chain.length ≤ _; omega) hi.ch)
      (all_app (all_manyE (by show r.bits.length ≤ _; omega) fun l hl => all_listE (by have := hf.btl l hl; omega) (hi.bt l hl)) (all_listE (by show r.escrow.length ≤ _; omega) hi.es))))))
    obtain ⟨h1, h2, h3⟩ := (hs l hl).2 x hx
    exact all_app (all_tick h1) (all_spnd h2 (by omega))
  · have a1 := len_many (enc := tickE) (l := r.tickets) 6 6 t1 (fun x _ => Nat.le_of_eq (len_tick x))
    have a2 := len_many (enc := spndE) (l := r.spends) 6 11 t2 (fun x hx => len_spnd x 9 (hf.spa x hx))
    have a3 := len_many (enc := manyE lnkE) (l := strip r.links) 6 103 hsl (fun l hl => len_many (enc := lnkE) 6 17 (hs l hl).1 fun x hx => by
      have := len_spnd x.2 9 ((hs l hl).2 x hx).2.2
      show (tickE x.1 ++ spndE x.2).length ≤ 17
      rw [List.length_append, len_tick]
      omega)
    have a4 := len_list 25 t4
    have a5 := len_list 18 t5
    have a6 := len_many (enc := listE) (l := r.bits) 10 21 t6 (fun l hl => len_list 20 (hf.btl l hl))
    have a7 := len_list 14 t7
    show (manyE tickE r.tickets ++ (manyE spndE r.spends ++ (manyE (manyE lnkE) (strip r.links) ++ (listE r.commits ++ (listE r.chain ++ (manyE listE r.bits ++ listE r.escrow)))))).length ≤ _
    simp only [List.length_append]
    omega
  · intro t htm
    obtain ⟨l, hl, hx⟩ := List.mem_flatMap.1 htm
    obtain ⟨x, hx1, rfl⟩ := List.mem_map.1 hx
    have := hf.lkt l hl x hx1
    omega
  · have := numsE_le p1 (by omega)
    unfold pfE
    omega
end Go.Proofs.YtpcdfepndmconaaGreatDoor.Tape
namespace Go.Proofs.YtpcdfepndmconaaGreatDoor
open Go.RowKit

/-- a slice whose elements, of m cells each, stand for the members of a list -/
def RowOf {α : Type} (R : World → List Value → α → Prop) (m : Nat) (w : World) (u : Value) (l : List α) : Prop :=
  ∃ vs : List (List Value), vs.length = l.length ∧ (∀ c ∈ vs, c.length = m) ∧ (∀ (k : Nat) a, l[k]? = some a → ∃ c, vs[k]? = some c ∧ R w c a) ∧ Row w m u l.length vs.flatten

theorem flatten_get {α : Type} : ∀ (vs : List (List α)) (m k j : Nat) (c : List α), (∀ c ∈ vs, c.length = m) → vs[k]? = some c → j < m → vs.flatten[k * m + j]? = c[j]?
  | [], _, _, _, _, _, h, _ => by simp at h
  | a :: vs, m, 0, j, c, hm, h, hj => by
    simp at h
    subst h
    have := hm a (by simp)
    rw [Nat.zero_mul, Nat.zero_add, List.flatten_cons, List.getElem?_append_left (by omega)]
  | a :: vs, m, k + 1, j, c, hm, h, hj => by
    have h1 := hm a (by simp)
    have h2 : vs[k]? = some c := by simpa using h
    rw [List.flatten_cons, List.getElem?_append_right (by rw [h1, Nat.add_mul]; omega), h1, show (k + 1) * m + j - m = k * m + j by rw [Nat.add_mul]; omega]
    exact flatten_get vs m k j c (fun c hc => hm c (by simp [hc])) h2 hj
theorem flatten_len {α : Type} : ∀ (vs : List (List α)) (m : Nat), (∀ c ∈ vs, c.length = m) → vs.flatten.length = vs.length * m
  | [], m, _ => by simp
  | a :: vs, m, hm => by
    rw [List.flatten_cons, List.length_append, hm a (by simp), flatten_len vs m (fun c hc => hm c (by simp [hc])), List.length_cons, Nat.add_mul]
    omega

section
variable {α : Type} {R : World → List Value → α → Prop} {m : Nat} {w w' : World} {u : Value} {l : List α}
theorem RowOf.kept (h : RowOf R m w u l) (hR : ∀ c a, R w c a → R w' c a) (k : Kept [] w w') : RowOf R m w' u l := by
  obtain ⟨vs, h1, h2, h3, h4⟩ := h
  exact ⟨vs, h1, h2, fun i a ha => by obtain ⟨c, h5, h6⟩ := h3 i a ha; exact ⟨c, h5, hR c a h6⟩, h4.kept k⟩
theorem RowOf.form (h : RowOf R m w u l) : ∃ a c, u = .slice a l.length c ∧ l.length ≤ 9223372036854775807 ∧ l.length ≤ c := by
  obtain ⟨vs, _, _, _, h4⟩ := h
  exact h4.form
/-- the cells of one element -/
theorem RowOf.at_ {a : Option Addr} {n c : Nat} (h : RowOf R m w (.slice a n c) l) (hp : 0 < l.length) :
    ∃ b off, a = some ⟨b, off, none⟩ ∧ ∀ (k : Nat) x, l[k]? = some x → ∃ cs : List Value, cs.length = m ∧ R w cs x ∧ ∀ (j : Nat) v, j < m → cs[j]? = some v → w.cell? ⟨b, off + (k * m + j), none⟩ = some v := by
  obtain ⟨vs, h1, h2, h3, h4⟩ := h
  obtain ⟨b, off, ha, hc⟩ := h4.at_ hp
  refine ⟨b, off, ha, fun k x hx => ?_⟩
  obtain ⟨cs, h5, h6⟩ := h3 k x hx
  refine ⟨cs, h2 cs (List.mem_of_getElem? h5), h6, fun j v hj hv => ?_⟩
  exact hc (k * m + j) v ((flatten_get vs m k j cs h2 h5 hj).trans hv)
theorem RowOf.nil_ (R : World → List Value → α → Prop) (m : Nat) (w : World) : RowOf R m w (.slice none 0 0) [] :=
  ⟨[], rfl, by simp, by simp, ⟨by simp, by simp, _, _, rfl, by simp, fun h => absurd h (by simp)⟩⟩
/-- an owned row is such a slice -/
theorem RowOf.of_own {B : Nat} {e : TypeId} {vs : List (List Value)} (h : w.ownsRow B e m u l.length vs.flatten) (h1 : vs.length = l.length) (h2 : ∀ c ∈ vs, c.length = m)
    (h3 : ∀ (k : Nat) a, l[k]? = some a → ∃ c, vs[k]? = some c ∧ R w c a) (hn : l.length ≤ 9223372036854775807) : RowOf R m w u l :=
  ⟨vs, h1, h2, h3, Row.of_own h hn⟩
end

theorem row_of_blk {w : World} {b : Nat} {T : TypeId} {size n : Nat} {cs : List Value} (h : Blk w b T cs.toArray) (hl : cs.length = n * size) (hn : n ≤ 9223372036854775807) :
    Row w size (.slice (some ⟨b, 0, none⟩) n n) n cs := by
  refine ⟨hl, hn, _, _, rfl, Nat.le_refl _, fun _ => ⟨_, _, rfl, fun k u hu => ?_⟩⟩
  rw [Nat.zero_add, h.cell k]
  simpa using hu

/-! ### the element relations -/
open Tape (Tick Spnd Lnk Pf Rec Pss Tsk)
def ListR (w : World) (c : List Value) (l : List Int) : Prop := ∃ v, c = [v] ∧ Row w 1 v l.length (ints l)
def tickC (t : Tick) : List Value := [.int .i64 t.1, .int .i64 t.2.1, .int .i64 t.2.2.1, .int .i64 t.2.2.2.1, .int .i64 t.2.2.2.2.1, .int .i64 t.2.2.2.2.2]
def TickR (_ : World) (c : List Value) (t : Tick) : Prop := c = tickC t
def SpndR (w : World) (c : List Value) (x : Spnd) : Prop := ∃ v, c = [.int .i64 x.1, v] ∧ Row w 1 v x.2.length (ints x.2)
def LnkR (w : World) (c : List Value) (x : Lnk × List UInt8) : Prop := ∃ v, c = tickC x.1.1 ++ [.int .i64 x.1.2.1, v, .string ⟨x.2.toArray⟩] ∧ Row w 1 v x.1.2.2.length (ints x.1.2.2)
def LnksR (w : World) (c : List Value) (l : List (Lnk × List UInt8)) : Prop := ∃ v, c = [v] ∧ RowOf LnkR 9 w v l
def ListsR (w : World) (c : List Value) (l : List (List Int)) : Prop := ∃ v, c = [v] ∧ RowOf ListR 1 w v l
def PssR (w : World) (c : List Value) (p : Pss) : Prop := ∃ v u, c = [.string ⟨p.name.toArray⟩, .int .i64 p.pub, v, u] ∧ Row w 1 v p.attrs.length (strs p.attrs) ∧ Row w 1 u p.guests.length (ints p.guests)

section
variable {w w' : World} {c : List Value}
theorem ListR.kept {l : List Int} (h : ListR w c l) (k : Kept [] w w') : ListR w' c l := by obtain ⟨v, h1, h2⟩ := h; exact ⟨v, h1, h2.kept k⟩
theorem SpndR.kept {x : Spnd} (h : SpndR w c x) (k : Kept [] w w') : SpndR w' c x := by obtain ⟨v, h1, h2⟩ := h; exact ⟨v, h1, h2.kept k⟩
theorem LnkR.kept {x : Lnk × List UInt8} (h : LnkR w c x) (k : Kept [] w w') : LnkR w' c x := by obtain ⟨v, h1, h2⟩ := h; exact ⟨v, h1, h2.kept k⟩
theorem LnksR.kept {l : List (Lnk × List UInt8)} (h : LnksR w c l) (k : Kept [] w w') : LnksR w' c l := by obtain ⟨v, h1, h2⟩ := h; exact ⟨v, h1, RowOf.kept h2 (fun _ _ x => LnkR.kept x k) k⟩
theorem ListsR.kept {l : List (List Int)} (h : ListsR w c l) (k : Kept [] w w') : ListsR w' c l := by obtain ⟨v, h1, h2⟩ := h; exact ⟨v, h1, RowOf.kept h2 (fun _ _ x => ListR.kept x k) k⟩
theorem PssR.kept {p : Pss} (h : PssR w c p) (k : Kept [] w w') : PssR w' c p := by obtain ⟨v, u, h1, h2, h3⟩ := h; exact ⟨v, u, h1, h2.kept k, h3.kept k⟩
end

/-- a record's value: the nine slices -/
structure RecS (w : World) (tk sp lk cm ch bt es da an : Value) (r : Rec) : Prop where
  tk : RowOf TickR 6 w tk r.tickets
  sp : RowOf SpndR 2 w sp r.spends
  lk : RowOf LnksR 1 w lk r.links
  cm : Row w 1 cm r.commits.length (ints r.commits)
  ch : Row w 1 ch r.chain.length (ints r.chain)
  bt : RowOf ListR 1 w bt r.bits
  es : Row w 1 es r.escrow.length (ints r.escrow)
  da : RowOf ListR 1 w da r.proof.dares
  an : RowOf ListsR 1 w an r.proof.answers
def RecV (w : World) (v : Value) (r : Rec) : Prop := ∃ tk sp lk cm ch bt es da an, v = .agg #[tk, sp, lk, cm, ch, bt, es, da, an] ∧ RecS w tk sp lk cm ch bt es da an r
theorem RecS.kept {w w' : World} {tk sp lk cm ch bt es da an : Value} {r : Rec} (h : RecS w tk sp lk cm ch bt es da an r) (k : Kept [] w w') : RecS w' tk sp lk cm ch bt es da an r :=
  ⟨RowOf.kept h.tk (fun _ _ x => x) k, RowOf.kept h.sp (fun _ _ x => SpndR.kept x k) k, RowOf.kept h.lk (fun _ _ x => LnksR.kept x k) k, h.cm.kept k, h.ch.kept k,
   RowOf.kept h.bt (fun _ _ x => ListR.kept x k) k, h.es.kept k, RowOf.kept h.da (fun _ _ x => ListR.kept x k) k, RowOf.kept h.an (fun _ _ x => ListsR.kept x k) k⟩
theorem RecV.kept {w w' : World} {v : Value} {r : Rec} (h : RecV w v r) (k : Kept [] w w') : RecV w' v r := by
  obtain ⟨tk, sp, lk, cm, ch, bt, es, da, an, h1, h2⟩ := h
  exact ⟨tk, sp, lk, cm, ch, bt, es, da, an, h1, h2.kept k⟩
end Go.Proofs.YtpcdfepndmconaaGreatDoor
