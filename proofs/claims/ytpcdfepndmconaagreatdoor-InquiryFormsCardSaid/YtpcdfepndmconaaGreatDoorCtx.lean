/- The plain law on contexts: two tasks and records of one context agree in what the context holds. -/
import Derived.Test.YtpcdfepndmconaaGreatDoorTape
/- JOINED: Recs Ctx -/
/- The plain law on records: a record that is encoded reads back; what is read is what was encoded. -/
namespace Go.Proofs.YtpcdfepndmconaaGreatDoor.Tape
open Wire (I64)

abbrev Tick := Int × Int × Int × Int × Int × Int
abbrev Spnd := Int × List Int
abbrev Lnk := Tick × Spnd

structure Pf where
  dares : List (List Int)
  answers : List (List (List Int))

structure Rec where
  tickets : List Tick
  spends : List Spnd
  links : List (List (Lnk × List UInt8))
  commits : List Int
  chain : List Int
  bits : List (List Int)
  escrow : List Int
  proof : Pf

def tickE (t : Tick) : List Int := [t.1] ++ ([t.2.1] ++ ([t.2.2.1] ++ ([t.2.2.2.1] ++ ([t.2.2.2.2.1] ++ [t.2.2.2.2.2]))))
def spndE (x : Spnd) : List Int := [x.1] ++ listE x.2
def lnkE (x : Lnk) : List Int := tickE x.1 ++ spndE x.2
def tick : Tp → Tick × Tp := both next (both next (both next (both next (both next next))))
def spnd : Tp → Spnd × Tp := both next list
def lnk : Tp → Lnk × Tp := both tick spnd
theorem tick_codec : Codec tickE tick := both_codec next_codec (both_codec next_codec (both_codec next_codec (both_codec next_codec (both_codec next_codec next_codec))))
theorem spnd_codec : Codec spndE spnd := both_codec next_codec list_codec
theorem lnk_codec : Codec lnkE lnk := both_codec tick_codec spnd_codec

/-! ### proofs -/

def Pf.pairs (p : Pf) : List (List (Int × List Int)) := List.zipWith List.zip p.dares p.answers
def Pf.shaped (p : Pf) : Prop := p.dares.map List.length = p.answers.map List.length
instance (p : Pf) : Decidable p.shaped := inferInstanceAs (Decidable (_ = _))
def clauseE : List (Int × List Int) → List Int := manyE spndE
def clause : Tp → List (Int × List Int) × Tp := many spnd
def pfN (p : Pf) : List Int := manyE clauseE p.pairs
def pfE (p : Pf) : List UInt8 := Wire.numsE (pfN p)
theorem clause_codec : Codec clauseE clause := many_codec spnd_codec
theorem clauses_codec : Codec (manyE clauseE) (many clause) := many_codec clause_codec
def done (r : Wire.Rd) : Bool := !r.bad && r.rest.isEmpty
def ended (r : Tp) : Bool := !r.bad && r.left.isEmpty
def readPf (s : List UInt8) : Pf × Bool :=
  if done (Wire.nums ⟨s, false⟩).2 && ended (many clause ⟨(Wire.nums ⟨s, false⟩).1, false⟩).2 then
    (⟨(many clause ⟨(Wire.nums ⟨s, false⟩).1, false⟩).1.map (List.map Prod.fst), (many clause ⟨(Wire.nums ⟨s, false⟩).1, false⟩).1.map (List.map Prod.snd)⟩, true)
  else (⟨[], []⟩, false)

theorem zip_fst {α β : Type} : ∀ (l : List α) (m : List β), l.length = m.length → (l.zip m).map Prod.fst = l ∧ (l.zip m).map Prod.snd = m
  | [], [], _ => ⟨rfl, rfl⟩
  | [], _ :: _, h => by cases h
  | _ :: _, [], h => by cases h
  | a :: l, b :: m, h => by
    obtain ⟨h1, h2⟩ := zip_fst l m (by simpa using h)
    exact ⟨by simp [h1], by simp [h2]⟩
theorem pairs_fst : ∀ (l : List (List Int)) (m : List (List (List Int))), l.map List.length = m.map List.length →
    (List.zipWith List.zip l m).map (List.map Prod.fst) = l ∧ (List.zipWith List.zip l m).map (List.map Prod.snd) = m
  | [], [], _ => ⟨rfl, rfl⟩
  | [], _ :: _, h => by cases h
  | _ :: _, [], h => by cases h
  | a :: l, b :: m, h => by
    simp only [List.map_cons, List.cons.injEq] at h
    obtain ⟨h1, h2⟩ := pairs_fst l m h.2
    obtain ⟨h3, h4⟩ := zip_fst a b h.1
    exact ⟨by simp only [List.zipWith_cons_cons, List.map_cons, h1, h3], by simp only [List.zipWith_cons_cons, List.map_cons, h2, h4]⟩
theorem zip_back {α β : Type} : ∀ l : List (α × β), (l.map Prod.fst).zip (l.map Prod.snd) = l
  | [] => rfl
  | a :: l => by simp only [List.map_cons, List.zip_cons_cons, zip_back l]
theorem pairs_back : ∀ l : List (List (Int × List Int)), List.zipWith List.zip (l.map (List.map Prod.fst)) (l.map (List.map Prod.snd)) = l
  | [] => rfl
  | a :: l => by simp only [List.map_cons, List.zipWith_cons_cons, zip_back, pairs_back l]

def AllI (l : List Int) : Prop := ∀ x ∈ l, I64 x

theorem ended_iff {r : Tp} : ended r = true ↔ r.bad = false ∧ r.left = [] := by
  unfold ended
  rw [Bool.and_eq_true, Bool.not_eq_true', List.isEmpty_iff]
theorem done_iff {r : Wire.Rd} : done r = true ↔ r.bad = false ∧ r.rest = [] := by
  unfold done
  rw [Bool.and_eq_true, Bool.not_eq_true', List.isEmpty_iff]

theorem readPf_ok (p : Pf) (hs : p.shaped) (hl : (pfN p).length ≤ 9223372036854775807) (hi : AllI (pfN p)) : readPf (pfE p) = (p, true) := by
  have e1 : Wire.nums ⟨pfE p, false⟩ = (pfN p, ⟨[], false⟩) := by
    have := Wire.nums_ok (pfN p) [] hl hi
    rwa [List.append_nil] at this
  have e2 : many clause ⟨pfN p, false⟩ = (p.pairs, ⟨[], false⟩) := by
    have := clauses_codec.fwd p.pairs [] false
    rwa [List.append_nil] at this
  unfold readPf
  rw [e1]
  simp only
  rw [e2]
  obtain ⟨h1, h2⟩ := pairs_fst p.dares p.answers hs
  simp only [Pf.pairs, h1, h2]
  rfl

theorem readPf_inv (s : List UInt8) (p : Pf) (h : readPf s = (p, true)) : p.shaped ∧ pfE p = s := by
  unfold readPf at h
  split at h
  · next hc =>
    rw [Bool.and_eq_true, done_iff, ended_iff] at hc
    obtain ⟨⟨a1, a2⟩, b1, b2⟩ := hc
    obtain ⟨_, c2, _⟩ := Wire.nums_inv ⟨s, false⟩ a1
    obtain ⟨_, d2⟩ := clauses_codec.inv _ b1
    rw [a2, List.append_nil] at c2
    rw [b2, List.append_nil] at d2
    simp only at c2 d2
    obtain ⟨hp, _⟩ := Prod.mk.inj h
    subst hp
    refine ⟨?_, ?_⟩
    · unfold Pf.shaped
      simp [List.map_map, Function.comp_def]
    · unfold pfE pfN Pf.pairs
      simp only
      rw [pairs_back, ← d2, ← c2]
  · cases (Prod.mk.inj h).2

/-! ### records -/

def terms (l : List (List (Lnk × List UInt8))) : List (List UInt8) := l.flatMap (List.map Prod.snd)
def strip (l : List (List (Lnk × List UInt8))) : List (List Lnk) := l.map (List.map Prod.fst)
def attach : List (List Lnk) → List (List UInt8) → List (List (Lnk × List UInt8))
  | [], _ => []
  | l :: ls, ts => l.zip (ts.take l.length) :: attach ls (ts.drop l.length)
def total : List (List Lnk) → Nat
  | [] => 0
  | l :: ls => l.length + total ls

theorem attach_strip : ∀ l : List (List (Lnk × List UInt8)), attach (strip l) (terms l) = l
  | [] => rfl
  | a :: l => by
    have e1 : (terms (a :: l)).take a.length = a.map Prod.snd := by
      unfold terms
      rw [List.flatMap_cons]
      rw [List.take_append_of_le_length (by simp)]
      rw [List.take_of_length_le (by simp)]
    have e2 : (terms (a :: l)).drop a.length = terms l := by
      unfold terms
      rw [List.flatMap_cons, List.drop_append]
      simp
    show (a.map Prod.fst).zip ((terms (a :: l)).take (a.map Prod.fst).length) :: attach (strip l) ((terms (a :: l)).drop (a.map Prod.fst).length) = _
    rw [List.length_map, e1, e2, zip_back, attach_strip l]
theorem total_strip : ∀ l : List (List (Lnk × List UInt8)), total (strip l) = (terms l).length
  | [] => rfl
  | a :: l => by
    show (a.map Prod.fst).length + total (strip l) = _
    rw [total_strip l]
    unfold terms
    rw [List.flatMap_cons]
    simp
theorem strip_attach : ∀ (l : List (List Lnk)) (ts : List (List UInt8)), total l = ts.length → strip (attach l ts) = l ∧ terms (attach l ts) = ts
  | [], ts, h => ⟨rfl, by cases ts; rfl; cases h⟩
  | a :: l, ts, h => by
    have h' : a.length + total l = ts.length := h
    obtain ⟨h1, h2⟩ := strip_attach l (ts.drop a.length) (by rw [List.length_drop]; omega)
    obtain ⟨h3, h4⟩ := zip_fst a (ts.take a.length) (by rw [List.length_take]; omega)
    refine ⟨?_, ?_⟩
    · show (a.zip (ts.take a.length)).map Prod.fst :: strip (attach l (ts.drop a.length)) = _
      rw [h1, h3]
    · show terms (a.zip (ts.take a.length) :: attach l (ts.drop a.length)) = _
      unfold terms at h2 ⊢
      rw [List.flatMap_cons, h2, h4, List.take_append_drop]

abbrev Nums7 := List Tick × List Spnd × List (List Lnk) × List Int × List Int × List (List Int) × List Int
def nums7E (x : Nums7) : List Int :=
  manyE tickE x.1 ++ (manyE spndE x.2.1 ++ (manyE (manyE lnkE) x.2.2.1 ++ (listE x.2.2.2.1 ++ (listE x.2.2.2.2.1 ++ (manyE listE x.2.2.2.2.2.1 ++ listE x.2.2.2.2.2.2)))))
def nums7 : Tp → Nums7 × Tp := both (many tick) (both (many spnd) (both (many (many lnk)) (both list (both list (both (many list) list)))))
theorem nums7_codec : Codec nums7E nums7 :=
  both_codec (many_codec tick_codec) (both_codec (many_codec spnd_codec) (both_codec (many_codec (many_codec lnk_codec)) (both_codec list_codec (both_codec list_codec (both_codec (many_codec list_codec) list_codec)))))

def Rec.n7 (r : Rec) : Nums7 := (r.tickets, r.spends, strip r.links, r.commits, r.chain, r.bits, r.escrow)
def recE (r : Rec) : List UInt8 := Wire.textsE (terms r.links) ++ (Wire.numsE (nums7E r.n7) ++ Wire.textE (pfE r.proof))
def zeroR : Rec := ⟨[], [], [], [], [], [], [], ⟨[], []⟩⟩
def mkR (x : Nums7) (ts : List (List UInt8)) (p : Pf) : Rec := ⟨x.1, x.2.1, attach x.2.2.1 ts, x.2.2.2.1, x.2.2.2.2.1, x.2.2.2.2.2.1, x.2.2.2.2.2.2, p⟩
/-- what is read, of its parts -/
def joinR (ts : List (List UInt8)) (ns : List Int) (rd : Wire.Rd) (p : Pf × Bool) : Rec × Bool :=
  if done rd && p.2 && ended (nums7 ⟨ns, false⟩).2 && decide (total (nums7 ⟨ns, false⟩).1.2.2.1 = ts.length) then (mkR (nums7 ⟨ns, false⟩).1 ts p.1, true) else (zeroR, false)
def readR (s : List UInt8) : Rec × Bool :=
  joinR (Wire.texts ⟨s, false⟩).1 (Wire.nums (Wire.texts ⟨s, false⟩).2).1 (Wire.text (Wire.nums (Wire.texts ⟨s, false⟩).2).2).2
    (readPf (Wire.text (Wire.nums (Wire.texts ⟨s, false⟩).2).2).1)

/-- every int of a record is an int, and every length too -/
structure OkR (r : Rec) : Prop where
  n7 : AllI (nums7E r.n7)
  l7 : (nums7E r.n7).length ≤ 100000000
  pf : AllI (pfN r.proof)
  lp : (pfN r.proof).length ≤ 100000000
  lt : (terms r.links).length ≤ 100000000
  ts : ∀ t ∈ terms r.links, t.length ≤ 100000000
  le : (pfE r.proof).length ≤ 10000000000

theorem readR_ok (r : Rec) (h : OkR r) (hs : r.proof.shaped) : readR (recE r) = (r, true) := by
  have l7 := h.l7
  have lp := h.lp
  have lt := h.lt
  have le := h.le
  have e1 := Wire.texts_ok (terms r.links) (Wire.numsE (nums7E r.n7) ++ Wire.textE (pfE r.proof)) (by omega) (fun x hx => by have := h.ts x hx; omega)
  have e2 := Wire.nums_ok (nums7E r.n7) (Wire.textE (pfE r.proof)) (by omega) h.n7
  have e3 : Wire.text ⟨Wire.textE (pfE r.proof), false⟩ = (pfE r.proof, ⟨[], false⟩) := by
    have := Wire.text_ok (pfE r.proof) [] (by omega)
    rwa [List.append_nil] at this
  have e4 := readPf_ok r.proof hs (by omega) h.pf
  have e5 : nums7 ⟨nums7E r.n7, false⟩ = (r.n7, ⟨[], false⟩) := by
    have := nums7_codec.fwd r.n7 [] false
    rwa [List.append_nil] at this
  unfold readR recE
  rw [e1]
  simp only
  rw [e2]
  simp only
  rw [e3]
  simp only
  rw [e4]
  unfold joinR
  rw [e5]
  have e6 : total r.n7.2.2.1 = (terms r.links).length := total_strip r.links
  simp only [e6]
  unfold mkR Rec.n7
  simp only [attach_strip]
  rfl

theorem readR_inv (s : List UInt8) (r : Rec) (h : readR s = (r, true)) : r.proof.shaped ∧ recE r = s := by
  obtain ⟨ts, r1, h1⟩ : ∃ a b, Wire.texts ⟨s, false⟩ = (a, b) := ⟨_, _, rfl⟩
  obtain ⟨ns, r2, h2⟩ : ∃ a b, Wire.nums r1 = (a, b) := ⟨_, _, rfl⟩
  obtain ⟨tx, r3, h3⟩ : ∃ a b, Wire.text r2 = (a, b) := ⟨_, _, rfl⟩
  obtain ⟨p, ok, h4⟩ : ∃ a b, readPf tx = (a, b) := ⟨_, _, rfl⟩
  obtain ⟨x, tp, h5⟩ : ∃ a b, nums7 ⟨ns, false⟩ = (a, b) := ⟨_, _, rfl⟩
  unfold readR at h
  rw [h1] at h
  simp only at h
  rw [h2] at h
  simp only at h
  rw [h3] at h
  simp only at h
  rw [h4] at h
  unfold joinR at h
  rw [h5] at h
  simp only at h
  split at h
  · next hc =>
    rw [Bool.and_eq_true, Bool.and_eq_true, Bool.and_eq_true, done_iff, ended_iff, decide_eq_true_eq] at hc
    obtain ⟨⟨⟨⟨a1, a2⟩, rfl⟩, b1, b2⟩, ht⟩ := hc
    obtain ⟨hr, _⟩ := Prod.mk.inj h
    subst hr
    obtain ⟨q1, q2⟩ := readPf_inv tx p h4
    obtain ⟨c1, c2, _⟩ := Wire.text_inv r2 (by rw [h3]; exact a1)
    rw [h3] at c2
    simp only [a2, List.append_nil] at c2
    obtain ⟨d1, d2, _⟩ := Wire.nums_inv r1 (by rw [h2]; exact c1)
    rw [h2] at d2
    simp only at d2
    obtain ⟨_, f2, _⟩ := Wire.texts_inv ⟨s, false⟩ (by rw [h1]; exact d1)
    rw [h1] at f2
    simp only at f2
    obtain ⟨_, g2⟩ := nums7_codec.inv ⟨ns, false⟩ (by rw [h5]; exact b1)
    rw [h5] at g2
    simp only [b2, List.append_nil] at g2
    obtain ⟨s1, s2⟩ := strip_attach x.2.2.1 ts ht
    refine ⟨q1, ?_⟩
    have e1 : (mkR x ts p).n7 = x := by
      unfold mkR Rec.n7
      simp only [s1]
    unfold recE
    rw [e1, ← g2]
    show Wire.textsE (terms (attach x.2.2.1 ts)) ++ (Wire.numsE ns ++ Wire.textE (pfE p)) = s
    rw [s2, q2, ← c2, ← d2, ← f2]
  · cases (Prod.mk.inj h).2
end Go.Proofs.YtpcdfepndmconaaGreatDoor.Tape
namespace Go.Proofs.YtpcdfepndmconaaGreatDoor.Tape
open Wire (I64)

structure Pss where
  name : List UInt8
  pub : Int
  attrs : List (List UInt8)
  guests : List Int

structure Tsk where
  version : Int
  question : List UInt8
  passes : List Pss
  most : Int
  revoked : List Int
  dare : Int
  quorum : Int
  jurors : Int

def attrE (p : Pss) : List UInt8 := Wire.textsE p.attrs ++ Wire.numsE p.guests
def head5 (t : Tsk) : List Int := [t.version, t.most, t.dare, t.quorum, t.jurors]
def Rec.bare (r : Rec) : Rec := ⟨r.tickets, r.spends, r.links, r.commits, r.chain, r.bits, r.escrow, ⟨[], []⟩⟩
def ctxE (t : Tsk) (r : Rec) : List UInt8 :=
  Wire.numsE (head5 t) ++ (Wire.textE t.question ++ (Wire.textsE (t.passes.map Pss.name) ++ (Wire.numsE (t.passes.map Pss.pub) ++ (t.passes.flatMap attrE ++ (Wire.numsE t.revoked ++ recE r.bare)))))

structure OkT (t : Tsk) : Prop where
  h5 : AllI (head5 t)
  q : t.question.length ≤ 100000000
  lp : t.passes.length ≤ 100000000
  nm : ∀ p ∈ t.passes, p.name.length ≤ 100000000
  pub : ∀ p ∈ t.passes, I64 p.pub
  la : ∀ p ∈ t.passes, p.attrs.length ≤ 100000000
  at_ : ∀ p ∈ t.passes, ∀ a ∈ p.attrs, a.length ≤ 100000000
  lg : ∀ p ∈ t.passes, p.guests.length ≤ 100000000
  gs : ∀ p ∈ t.passes, AllI p.guests
  lr : t.revoked.length ≤ 100000000
  rv : AllI t.revoked

theorem nums_inj {a b : List Int} {t u : List UInt8} (la : a.length ≤ 100000000) (ha : AllI a) (lb : b.length ≤ 100000000) (hb : AllI b) (h : Wire.numsE a ++ t = Wire.numsE b ++ u) : a = b ∧ t = u := by
  have h1 := Wire.nums_ok a t (by omega) ha
  rw [h, Wire.nums_ok b u (by omega) hb] at h1
  obtain ⟨e1, e2⟩ := Prod.mk.inj h1
  exact ⟨e1.symm, (Wire.Rd.mk.inj e2).1.symm⟩
theorem text_inj {a b : List UInt8} {t u : List UInt8} (la : a.length ≤ 100000000) (lb : b.length ≤ 100000000) (h : Wire.textE a ++ t = Wire.textE b ++ u) : a = b ∧ t = u := by
  have h1 := Wire.text_ok a t (by omega)
  rw [h, Wire.text_ok b u (by omega)] at h1
  obtain ⟨e1, e2⟩ := Prod.mk.inj h1
  exact ⟨e1.symm, (Wire.Rd.mk.inj e2).1.symm⟩
theorem texts_inj {a b : List (List UInt8)} {t u : List UInt8} (la : a.length ≤ 100000000) (ha : ∀ x ∈ a, x.length ≤ 100000000) (lb : b.length ≤ 100000000) (hb : ∀ x ∈ b, x.length ≤ 100000000)
    (h : Wire.textsE a ++ t = Wire.textsE b ++ u) : a = b ∧ t = u := by
  have h1 := Wire.texts_ok a t (by omega) (fun x hx => by have := ha x hx; omega)
  rw [h, Wire.texts_ok b u (by omega) (fun x hx => by have := hb x hx; omega)] at h1
  obtain ⟨e1, e2⟩ := Prod.mk.inj h1
  exact ⟨e1.symm, (Wire.Rd.mk.inj e2).1.symm⟩

theorem attrs_skip : ∀ (l m : List Pss) (t u : List UInt8), l.length = m.length →
    (∀ p ∈ l, p.attrs.length ≤ 100000000) → (∀ p ∈ l, ∀ a ∈ p.attrs, a.length ≤ 100000000) → (∀ p ∈ l, p.guests.length ≤ 100000000) → (∀ p ∈ l, AllI p.guests) →
    (∀ p ∈ m, p.attrs.length ≤ 100000000) → (∀ p ∈ m, ∀ a ∈ p.attrs, a.length ≤ 100000000) → (∀ p ∈ m, p.guests.length ≤ 100000000) → (∀ p ∈ m, AllI p.guests) →
    l.flatMap attrE ++ t = m.flatMap attrE ++ u → t = u
  | [], [], t, u, _, _, _, _, _, _, _, _, _, h => by simpa using h
  | [], _ :: _, _, _, hl, _, _, _, _, _, _, _, _, _ => by cases hl
  | _ :: _, [], _, _, hl, _, _, _, _, _, _, _, _, _ => by cases hl
  | a :: l, b :: m, t, u, hl, a1, a2, a3, a4, b1, b2, b3, b4, h => by
    rw [List.flatMap_cons, List.flatMap_cons] at h
    unfold attrE at h
    simp only [List.append_assoc] at h
    obtain ⟨_, h1⟩ := texts_inj (a1 a (by simp)) (a2 a (by simp)) (b1 b (by simp)) (b2 b (by simp)) h
    obtain ⟨_, h2⟩ := nums_inj (a3 a (by simp)) (a4 a (by simp)) (b3 b (by simp)) (b4 b (by simp)) h1
    exact attrs_skip l m t u (by simpa using hl) (fun p hp => a1 p (by simp [hp])) (fun p hp => a2 p (by simp [hp])) (fun p hp => a3 p (by simp [hp])) (fun p hp => a4 p (by simp [hp]))
      (fun p hp => b1 p (by simp [hp])) (fun p hp => b2 p (by simp [hp])) (fun p hp => b3 p (by simp [hp])) (fun p hp => b4 p (by simp [hp])) h2

theorem ctx_inj (t u : Tsk) (r y : Rec) (ht : OkT t) (hu : OkT u) (hr : OkR r.bare) (hy : OkR y.bare) (h : ctxE t r = ctxE u y) :
    t.question = u.question ∧ t.dare = u.dare ∧ t.version = u.version ∧ t.revoked = u.revoked ∧ r.bare = y.bare := by
  unfold ctxE at h
  obtain ⟨e1, h1⟩ := nums_inj (by simp [head5]) ht.h5 (by simp [head5]) hu.h5 h
  obtain ⟨e2, h2⟩ := text_inj ht.q hu.q h1
  obtain ⟨e3, h3⟩ := texts_inj (by rw [List.length_map]; exact ht.lp) (fun x hx => by
      obtain ⟨p, hp, rfl⟩ := List.mem_map.1 hx; exact ht.nm p hp) (by rw [List.length_map]; exact hu.lp) (fun x hx => by
      obtain ⟨p, hp, rfl⟩ := List.mem_map.1 hx; exact hu.nm p hp) h2
  obtain ⟨e4, h4⟩ := nums_inj (by rw [List.length_map]; exact ht.lp) (fun x hx => by
      obtain ⟨p, hp, rfl⟩ := List.mem_map.1 hx; exact ht.pub p hp) (by rw [List.length_map]; exact hu.lp) (fun x hx => by
      obtain ⟨p, hp, rfl⟩ := List.mem_map.1 hx; exact hu.pub p hp) h3
  have hl : t.passes.length = u.passes.length := by
    have := congrArg List.length e4
    simpa using this
  have h5 := attrs_skip _ _ _ _ hl ht.la ht.at_ ht.lg ht.gs hu.la hu.at_ hu.lg hu.gs h4
  obtain ⟨e6, h6⟩ := nums_inj ht.lr ht.rv hu.lr hu.rv h5
  have k1 := readR_ok r.bare hr rfl
  rw [h6, readR_ok y.bare hy rfl] at k1
  unfold head5 at e1
  simp only [List.cons.injEq, and_true] at e1
  obtain ⟨x1, _, x3, _, _⟩ := e1
  exact ⟨e2, x3, x1, e6, (Prod.mk.inj k1).1.symm⟩
end Go.Proofs.YtpcdfepndmconaaGreatDoor.Tape
