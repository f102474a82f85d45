/- Arguments opened: a task, a record. -/
import Derived.Test.YtpcdfepndmconaaGreatDoorTskI
namespace Go.Proofs.YtpcdfepndmconaaGreatDoor
open Go.RowKit Go.ChangeShapes Go.WideShapes Go.Deep Tape

section
variable {H : Type} {enc : TypeId × Value → H} {w : World} {base : Nat} {held : Bool}

theorem ofBytes9 (s : ByteArray) : (⟨s.data.toList.toArray⟩ : ByteArray) = s := by cases s; simp
/-- a one-cell field of a struct that came in, by its offset -/
theorem cell_field {P : Program} {spare : Nat → Bool} {t : TypeId} {fs : Array Field} {cs : List Value} {fuel : Nat} {x : DataW H × List MemPlace} (hs : P.underlying t = some (.struct fs)) (hf : DataW.trod enc P w base spare held fuel t cs = some x)
    (j : Nat) (f : Field) (hj : fs[j]? = some f) (h1 : P.cellsOf f.type = 1) (ho : f.offset < P.cellsOf t) : ∃ (u : Value) (y : DataW H × List MemPlace) (n : Nat), cs[f.offset]? = some u ∧ DataW.trod enc P w base spare held n f.type [u] = some y := by
  obtain ⟨xs, n, _, _, hlen, hxl, hg⟩ := DataW.trod_struct hs hf
  have h2 := hg j f hj
  have hjl : j < fs.size := (Array.getElem?_eq_some_iff.1 hj).1
  rw [h1] at h2
  have h3 : (cs.drop f.offset).take 1 = [cs[f.offset]'(by omega)] := by rw [List.drop_eq_getElem_cons (by omega)]; rfl
  rw [h3] at h2
  exact ⟨_, _, n, List.getElem?_eq_getElem (by omega), h2.trans (List.getElem?_eq_getElem (by omega))⟩

/-- a slice that came in, its elements opened one by one -/
theorem rows_of {α : Type} {R : World → List Value → α → Prop} {I : α → Prop} {m : Nat} {P : Program} {spare : Nat → Bool} {t e : TypeId} {n : Nat} {u : Value} {y : DataW H × List MemPlace} (ht : P.underlying t = some (.slice e)) (hc : P.cellsOf e = m) (hmp : 0 < m)
    (each : ∀ (n : Nat) (cs : List Value) (y : DataW H × List MemPlace), cs.length = m → DataW.trod enc P w base spare held n e cs = some y → ∃ a, R w cs a ∧ I a)
    (h : DataW.trod enc P w base spare held n t [u] = some y) : ∃ l : List α, RowOf R m w u l ∧ (∀ x ∈ l, I x) ∧ l.length ≤ maxLen := by
  rcases DataW.trod_slice ht h with ⟨hcs, _⟩ | ⟨a, len, cap, elems, rest, k, _, hcs, _, hb, hl, hm, hlen, hel, _⟩
  · simp at hcs; subst hcs
    exact ⟨[], RowOf.nil_ _ _ _, by simp, by simp⟩
  · simp at hcs; subst hcs
    rw [hc] at hel
    have hmx : cap ≤ 9223372036854775807 := by simpa [maxLen] using hm
    have each' : ∀ i, i < len → ∃ (cs : List Value) (x : α), cs.length = m ∧ (∀ j, j < m → w.cell? (a.add (i * m + j)) = cs[j]?) ∧ R w cs x ∧ I x := by
      intro i hi
      have h1 := hel i hi
      rw [List.getElem?_eq_getElem (by omega), Option.bind_eq_some_iff] at h1
      obtain ⟨cs, hcs, ht'⟩ := h1
      obtain ⟨_, hcl, hat⟩ := World.cells?_some hcs
      obtain ⟨x, hx, hix⟩ := each _ _ _ hcl ht'
      refine ⟨cs, x, hcl, fun j hj => ?_, hx, hix⟩
      have q := hat j hj
      rw [Go.Deep.add_add] at q
      exact q
    rcases Nat.eq_zero_or_pos len with h0 | hp
    · subst h0
      exact ⟨[], ⟨[], rfl, by simp, by simp, ⟨by simp, by simp, _, _, rfl, by simp, fun h => absurd h (by simp)⟩⟩, by simp, by simp⟩
    · have hf : a = ⟨a.block, a.off, none⟩ := by
        obtain ⟨cs, _, q1, q2, _⟩ := each' 0 hp
        have q := q2 0 hmp
        rw [Nat.zero_mul, List.getElem?_eq_getElem (by omega)] at q
        exact flat_of q
      have build : ∀ q, q ≤ len → ∃ (vs : List (List Value)) (l : List α), vs.length = q ∧ l.length = q ∧ (∀ c ∈ vs, c.length = m) ∧ (∀ (k : Nat) x, l[k]? = some x → ∃ c, vs[k]? = some c ∧ R w c x) ∧
          (∀ (k : Nat) c, vs[k]? = some c → ∀ j, j < m → w.cell? (a.add (k * m + j)) = c[j]?) ∧ ∀ x ∈ l, I x := by
        intro q
        induction q with
        | zero => intro _; exact ⟨[], [], rfl, rfl, by simp, by simp, by simp, by simp⟩
        | succ q ih =>
          intro hq
          obtain ⟨vs, l, g1, g2, g3, g4, g5, g6⟩ := ih (by omega)
          obtain ⟨cs, x, c1, c2, c3, c4⟩ := each' q (by omega)
          refine ⟨vs ++ [cs], l ++ [x], by simp [g1], by simp [g2], fun c hc => ?_, fun k z hz => ?_, fun k c hc j hj => ?_, fun z hz => ?_⟩
          · rcases List.mem_append.1 hc with hc | hc
            · exact g3 c hc
            · rw [List.mem_singleton.1 hc]; exact c1
          · rcases Nat.lt_or_ge k q with hk | hk
            · rw [List.getElem?_append_left (by omega)] at hz
              obtain ⟨c, e1, e2⟩ := g4 k z hz
              exact ⟨c, by rw [List.getElem?_append_left (by omega)]; exact e1, e2⟩
            · have hk' := (List.getElem?_eq_some_iff.1 hz).1
              rw [List.length_append, List.length_singleton] at hk'
              obtain rfl : k = q := by omega
              rw [List.getElem?_append_right (by omega), g2, Nat.sub_self] at hz
              simp at hz
              subst hz
              exact ⟨cs, by rw [List.getElem?_append_right (by omega), g1, Nat.sub_self]; rfl, c3⟩
          · rcases Nat.lt_or_ge k q with hk | hk
            · rw [List.getElem?_append_left (by omega)] at hc
              exact g5 k c hc j hj
            · have hk' := (List.getElem?_eq_some_iff.1 hc).1
              rw [List.length_append, List.length_singleton] at hk'
              obtain rfl : k = q := by omega
              rw [List.getElem?_append_right (by omega), g1, Nat.sub_self] at hc
              simp at hc
              subst hc
              exact c2 j hj
          · rcases List.mem_append.1 hz with hz | hz
            · exact g6 z hz
            · rw [List.mem_singleton.1 hz]; exact c4
      obtain ⟨vs, l, g1, g2, g3, g4, g5, g6⟩ := build len (Nat.le_refl _)
      have hfl := flatten_len vs m g3
      refine ⟨l, ⟨vs, by omega, g3, g4, ⟨by rw [hfl, g1, g2], by omega, _, _, by rw [g2], by omega, fun _ => ⟨a.block, a.off, congrArg some hf, fun k v hv => ?_⟩⟩⟩, g6, by omega⟩
      have hk := (List.getElem?_eq_some_iff.1 hv).1
      rw [hfl] at hk
      have hdm : k / m * m + k % m = k := by rw [Nat.mul_comm]; exact Nat.div_add_mod k m
      have hmod := Nat.mod_lt k hmp
      have hdiv : k / m < vs.length := (Nat.div_lt_iff_lt_mul hmp).2 hk
      have hc1 := List.getElem?_eq_getElem hdiv
      have e1 := flatten_get vs m (k / m) (k % m) _ g3 hc1 hmod
      rw [hdm] at e1
      have e2 := g5 (k / m) _ hc1 (k % m) hmod
      rw [hdm, ← e1, hv, hf, flat_add] at e2
      exact e2

theorem field_many {P : Program} {spare : Nat → Bool} {t : TypeId} {fs : Array Field} {cs : List Value} {fuel : Nat} {x : DataW H × List MemPlace} (hs : P.underlying t = some (.struct fs)) (hf : DataW.trod enc P w base spare held fuel t cs = some x)
    (j : Nat) (f : Field) (hj : fs[j]? = some f) : ∃ (y : DataW H × List MemPlace) (n : Nat), DataW.trod enc P w base spare held n f.type ((cs.drop f.offset).take (P.cellsOf f.type)) = some y := by
  obtain ⟨xs, n, _, _, hlen, hxl, hg⟩ := DataW.trod_struct hs hf
  have hjl : j < fs.size := (Array.getElem?_eq_some_iff.1 hj).1
  exact ⟨_, n, (hg j f hj).trans (List.getElem?_eq_getElem (by omega))⟩
theorem struct_len {P : Program} {spare : Nat → Bool} {t : TypeId} {fs : Array Field} {cs : List Value} {fuel : Nat} {x : DataW H × List MemPlace} (hs : P.underlying t = some (.struct fs)) (hf : DataW.trod enc P w base spare held fuel t cs = some x) : cs.length = P.cellsOf t := by
  obtain ⟨_, _, _, _, hlen, _, _⟩ := DataW.trod_struct hs hf
  exact hlen

theorem list_each (n : Nat) (cs : List Value) (y : DataW H × List MemPlace) (hl : cs.length = 1) (h : DataW.trod enc Tryz.prog w base (fun _ => true) held n 24 cs = some y) : ∃ a, ListR w cs a ∧ AllI a := by
  match cs, hl with
  | [u], _ =>
    obtain ⟨l, hr, hi, _⟩ := ints_of h
    exact ⟨l, ⟨u, rfl, hr⟩, hi⟩
theorem lists_of {n : Nat} {u : Value} {y : DataW H × List MemPlace} (h : DataW.trod enc Tryz.prog w base (fun _ => true) held n 62 [u] = some y) : ∃ l : List (List Int), RowOf ListR 1 w u l ∧ (∀ x ∈ l, AllI x) ∧ l.length ≤ maxLen :=
  rows_of Tryz.underlying62 (by kernel_rfl) (by decide) list_each h
theorem lists_each (n : Nat) (cs : List Value) (y : DataW H × List MemPlace) (hl : cs.length = 1) (h : DataW.trod enc Tryz.prog w base (fun _ => true) held n 62 cs = some y) : ∃ a, ListsR w cs a ∧ ∀ x ∈ a, AllI x := by
  match cs, hl with
  | [u], _ =>
    obtain ⟨l, hr, hi, _⟩ := lists_of h
    exact ⟨l, ⟨u, rfl, hr⟩, hi⟩
theorem answers_of {n : Nat} {u : Value} {y : DataW H × List MemPlace} (h : DataW.trod enc Tryz.prog w base (fun _ => true) held n 63 [u] = some y) : ∃ l : List (List (List Int)), RowOf ListsR 1 w u l ∧ (∀ x ∈ l, ∀ z ∈ x, AllI z) ∧ l.length ≤ maxLen :=
  rows_of Tryz.underlying63 (by kernel_rfl) (by decide) lists_each h

set_option maxRecDepth 100000 in
theorem tick_each (n : Nat) (cs : List Value) (y : DataW H × List MemPlace) (hl : cs.length = 6) (h : DataW.trod enc Tryz.prog w base (fun _ => true) held n 134 cs = some y) : ∃ t : Tick, TickR w cs t ∧ TickI t := by
  have hC : Tryz.prog.cellsOf 134 = 6 := by kernel_rfl
  obtain ⟨u0, y0, n0, e0, h0⟩ := cell_field Tryz.underlying134 h 0 _ rfl (by kernel_rfl) (by rw [hC]; decide)
  obtain ⟨u1, y1, n1, e1, h1⟩ := cell_field Tryz.underlying134 h 1 _ rfl (by kernel_rfl) (by rw [hC]; decide)
  obtain ⟨u2, y2, n2, e2, h2⟩ := cell_field Tryz.underlying134 h 2 _ rfl (by kernel_rfl) (by rw [hC]; decide)
  obtain ⟨u3, y3, n3, e3, h3⟩ := cell_field Tryz.underlying134 h 3 _ rfl (by kernel_rfl) (by rw [hC]; decide)
  obtain ⟨u4, y4, n4, e4, h4⟩ := cell_field Tryz.underlying134 h 4 _ rfl (by kernel_rfl) (by rw [hC]; decide)
  obtain ⟨u5, y5, n5, e5, h5⟩ := cell_field Tryz.underlying134 h 5 _ rfl (by kernel_rfl) (by rw [hC]; decide)
  obtain rfl : cs = [u0, u1, u2, u3, u4, u5] := by
    match cs, hl with
    | [a, b, c, d, e, f], _ => simp at e0 e1 e2 e3 e4 e5; subst e0 e1 e2 e3 e4 e5; rfl
  obtain ⟨i0, rfl, w0⟩ := int_of h0
  obtain ⟨i1, rfl, w1⟩ := int_of h1
  obtain ⟨i2, rfl, w2⟩ := int_of h2
  obtain ⟨i3, rfl, w3⟩ := int_of h3
  obtain ⟨i4, rfl, w4⟩ := int_of h4
  obtain ⟨i5, rfl, w5⟩ := int_of h5
  exact ⟨(i0, i1, i2, i3, i4, i5), rfl, w0, w1, w2, w3, w4, w5⟩

set_option maxRecDepth 100000 in
theorem spend_each (n : Nat) (cs : List Value) (y : DataW H × List MemPlace) (hl : cs.length = 2) (h : DataW.trod enc Tryz.prog w base (fun _ => true) held n 110 cs = some y) : ∃ x : Spnd, SpndR w cs x ∧ SpndI x := by
  have hC : Tryz.prog.cellsOf 110 = 2 := by kernel_rfl
  obtain ⟨u0, y0, n0, e0, h0⟩ := cell_field Tryz.underlying110 h 0 _ rfl (by kernel_rfl) (by rw [hC]; decide)
  obtain ⟨u1, y1, n1, e1, h1⟩ := cell_field Tryz.underlying110 h 1 _ rfl (by kernel_rfl) (by rw [hC]; decide)
  obtain rfl : cs = [u0, u1] := by
    match cs, hl with
    | [a, b], _ => simp at e0 e1; subst e0 e1; rfl
  obtain ⟨i0, rfl, w0⟩ := int_of h0
  obtain ⟨l1, r1, w1, _⟩ := ints_of h1
  exact ⟨(i0, l1), ⟨u1, rfl, r1⟩, w0, w1⟩

set_option maxRecDepth 100000 in
theorem link_each (n : Nat) (cs : List Value) (y : DataW H × List MemPlace) (hl : cs.length = 9) (h : DataW.trod enc Tryz.prog w base (fun _ => true) held n 138 cs = some y) : ∃ x : Lnk × List UInt8, LnkR w cs x ∧ ((TickI x.1.1 ∧ SpndI x.1.2) ∧ x.2.length ≤ maxLen) := by
  have hC : Tryz.prog.cellsOf 138 = 9 := by kernel_rfl
  have hT : Tryz.prog.cellsOf 134 = 6 := by kernel_rfl
  have hS : Tryz.prog.cellsOf 110 = 2 := by kernel_rfl
  obtain ⟨y0, n0, h0⟩ := field_many Tryz.underlying138 h 0 _ rfl
  obtain ⟨y1, n1, h1⟩ := field_many Tryz.underlying138 h 1 _ rfl
  obtain ⟨u2, y2, n2, e2, h2⟩ := cell_field Tryz.underlying138 h 2 _ rfl (by kernel_rfl) (by rw [hC]; decide)
  have g0 : DataW.trod enc Tryz.prog w base (fun _ => true) held n0 134 ((cs.drop 0).take (Tryz.prog.cellsOf 134)) = some y0 := h0
  have g1 : DataW.trod enc Tryz.prog w base (fun _ => true) held n1 110 ((cs.drop 6).take (Tryz.prog.cellsOf 110)) = some y1 := h1
  have e2' : cs[8]? = some u2 := e2
  rw [hT] at g0
  rw [hS] at g1
  clear h0 h1 e2
  match cs, hl with
  | [a0, a1, a2, a3, a4, a5, a6, a7, a8], _ =>
    obtain ⟨t, ht, it⟩ := tick_each n0 _ _ rfl g0
    obtain ⟨x, ⟨v, hx, hr⟩, ix⟩ := spend_each n1 _ _ rfl g1
    have ht' : [a0, a1, a2, a3, a4, a5] = tickC t := ht
    have hx' : [a6, a7] = [.int .i64 x.1, v] := hx
    simp at e2' hx'
    subst e2'
    obtain ⟨rfl, rfl⟩ := hx'
    obtain ⟨s, rfl, ws⟩ := string_of h2
    refine ⟨((t, x), s.data.toList), ⟨a7, ?_, hr⟩, ⟨it, ix⟩, ws⟩
    show _ = tickC t ++ [.int .i64 x.1, a7, .string ⟨s.data.toList.toArray⟩]
    rw [← ht', ofBytes9]
    rfl
theorem links_of {n : Nat} {u : Value} {y : DataW H × List MemPlace} (h : DataW.trod enc Tryz.prog w base (fun _ => true) held n 112 [u] = some y) : ∃ l : List (Lnk × List UInt8), RowOf LnkR 9 w u l ∧ (∀ x ∈ l, (TickI x.1.1 ∧ SpndI x.1.2) ∧ x.2.length ≤ maxLen) ∧ l.length ≤ maxLen :=
  rows_of Tryz.underlying112 (by kernel_rfl) (by decide) link_each h
theorem links_each (n : Nat) (cs : List Value) (y : DataW H × List MemPlace) (hl : cs.length = 1) (h : DataW.trod enc Tryz.prog w base (fun _ => true) held n 112 cs = some y) : ∃ a, LnksR w cs a ∧ ∀ x ∈ a, (TickI x.1.1 ∧ SpndI x.1.2) ∧ x.2.length ≤ maxLen := by
  match cs, hl with
  | [u], _ =>
    obtain ⟨l, hr, hi, _⟩ := links_of h
    exact ⟨l, ⟨u, rfl, hr⟩, hi⟩

set_option maxRecDepth 100000 in
theorem pass_each (n : Nat) (cs : List Value) (y : DataW H × List MemPlace) (hl : cs.length = 4) (h : DataW.trod enc Tryz.prog w base (fun _ => true) held n 90 cs = some y) : ∃ p : Pss, PssR w cs p ∧ (Wire.I64 p.pub ∧ AllI p.guests ∧ p.name.length ≤ maxLen ∧ ∀ a ∈ p.attrs, a.length ≤ maxLen) := by
  have hC : Tryz.prog.cellsOf 90 = 4 := by kernel_rfl
  obtain ⟨u0, y0, n0, e0, h0⟩ := cell_field Tryz.underlying90 h 0 _ rfl (by kernel_rfl) (by rw [hC]; decide)
  obtain ⟨u1, y1, n1, e1, h1⟩ := cell_field Tryz.underlying90 h 1 _ rfl (by kernel_rfl) (by rw [hC]; decide)
  obtain ⟨u2, y2, n2, e2, h2⟩ := cell_field Tryz.underlying90 h 2 _ rfl (by kernel_rfl) (by rw [hC]; decide)
  obtain ⟨u3, y3, n3, e3, h3⟩ := cell_field Tryz.underlying90 h 3 _ rfl (by kernel_rfl) (by rw [hC]; decide)
  obtain rfl : cs = [u0, u1, u2, u3] := by
    match cs, hl with
    | [a, b, c, d], _ => simp at e0 e1 e2 e3; subst e0 e1 e2 e3; rfl
  obtain ⟨s0, rfl, w0⟩ := string_of h0
  obtain ⟨i1, rfl, w1⟩ := int_of h1
  obtain ⟨l2, r2, w2, _⟩ := strs_of h2
  obtain ⟨l3, r3, w3, _⟩ := ints_of h3
  exact ⟨⟨s0.data.toList, i1, l2, l3⟩, ⟨u2, u3, by rw [ofBytes9], r2, r3⟩, w1, w3, w0, w2⟩

set_option maxRecDepth 100000 in
/-- a task that came in -/
theorem task9_of {r : Reach} {b0 : Nat} {v : Value} {d : DataW H} {p : List MemPlace} (hv : Value.okWide Tryz.prog w r b0 30 v) (h : DataW.Trod enc Tryz.prog w base (fun _ => true) held 30 v d p) :
    ∃ (t : Tsk) (pa va : Value), v = .agg #[.int .i64 t.version, .string ⟨t.question.toArray⟩, pa, .int .i64 t.most, va, .int .i64 t.dare, .int .i64 t.quorum, .int .i64 t.jurors] ∧ TskS w pa va t ∧ TskI t ∧ t.question.length ≤ maxLen ∧
      ∀ p ∈ t.passes, p.name.length ≤ maxLen ∧ ∀ a ∈ p.attrs, a.length ≤ maxLen := by
  obtain ⟨cs, rfl, hlen, hg⟩ := open_struct Tryz.underlying30 (by kernel_rfl) (by kernel_rfl) hv h
  obtain ⟨u0, y0, n0, e0, h0⟩ := hg 0 _ rfl
  obtain ⟨u1, y1, n1, e1, h1⟩ := hg 1 _ rfl
  obtain ⟨u2, y2, n2, e2, h2⟩ := hg 2 _ rfl
  obtain ⟨u3, y3, n3, e3, h3⟩ := hg 3 _ rfl
  obtain ⟨u4, y4, n4, e4, h4⟩ := hg 4 _ rfl
  obtain ⟨u5, y5, n5, e5, h5⟩ := hg 5 _ rfl
  obtain ⟨u6, y6, n6, e6, h6⟩ := hg 6 _ rfl
  obtain ⟨u7, y7, n7, e7, h7⟩ := hg 7 _ rfl
  obtain rfl : cs = [u0, u1, u2, u3, u4, u5, u6, u7] := by
    match cs, hlen with
    | [a, b, c, d, e, f, g, i], _ => simp at e0 e1 e2 e3 e4 e5 e6 e7; subst e0 e1 e2 e3 e4 e5 e6 e7; rfl
  obtain ⟨i0, rfl, w0⟩ := int_of h0
  obtain ⟨s1, rfl, w1⟩ := string_of h1
  obtain ⟨l2, r2, w2, _⟩ := rows_of (R := PssR) (m := 4) Tryz.underlying28 (by kernel_rfl) (by decide) pass_each h2
  obtain ⟨i3, rfl, w3⟩ := int_of h3
  obtain ⟨l4, r4, w4, _⟩ := ints_of h4
  obtain ⟨i5, rfl, w5⟩ := int_of h5
  obtain ⟨i6, rfl, w6⟩ := int_of h6
  obtain ⟨i7, rfl, w7⟩ := int_of h7
  refine ⟨{ version := i0, question := s1.data.toList, passes := l2, most := i3, revoked := l4, dare := i5, quorum := i6, jurors := i7 }, u2, u4, by rw [ofBytes9], ⟨r2, r4⟩, ⟨?_, fun p hp => (w2 p hp).1, fun p hp => (w2 p hp).2.1, w4⟩, w1, fun p hp => (w2 p hp).2.2⟩
  intro x hx
  simp only [head5, List.mem_cons, List.not_mem_nil, or_false] at hx
  rcases hx with rfl | rfl | rfl | rfl | rfl <;> assumption

set_option maxRecDepth 100000 in
/-- a record that came in -/
theorem record_of {r : Reach} {b0 : Nat} {v : Value} {d : DataW H} {p : List MemPlace} (hv : Value.okWide Tryz.prog w r b0 67 v) (h : DataW.Trod enc Tryz.prog w base (fun _ => true) held 67 v d p) :
    ∃ x : Rec, RecV w v x ∧ RecI x ∧ ∀ l ∈ x.links, ∀ z ∈ l, z.2.length ≤ maxLen := by
  have hC : Tryz.prog.cellsOf 67 = 9 := by kernel_rfl
  have hP : Tryz.prog.cellsOf 65 = 2 := by kernel_rfl
  obtain ⟨cs, rfl, hsz⟩ := okWide_struct Tryz.underlying67 hv
  obtain ⟨l⟩ := cs
  have hl : l.length = 9 := by simpa using hsz.trans hC
  obtain ⟨fuel, hf⟩ := h
  have hf' : DataW.trod enc Tryz.prog w base (fun _ => true) held fuel 67 l = some (d, p) := by simpa [Value.cells] using hf
  obtain ⟨u0, y0, n0, e0, h0⟩ := cell_field Tryz.underlying67 hf' 0 _ rfl (by kernel_rfl) (by rw [hC]; decide)
  obtain ⟨u1, y1, n1, e1, h1⟩ := cell_field Tryz.underlying67 hf' 1 _ rfl (by kernel_rfl) (by rw [hC]; decide)
  obtain ⟨u2, y2, n2, e2, h2⟩ := cell_field Tryz.underlying67 hf' 2 _ rfl (by kernel_rfl) (by rw [hC]; decide)
  obtain ⟨u3, y3, n3, e3, h3⟩ := cell_field Tryz.underlying67 hf' 3 _ rfl (by kernel_rfl) (by rw [hC]; decide)
  obtain ⟨u4, y4, n4, e4, h4⟩ := cell_field Tryz.underlying67 hf' 4 _ rfl (by kernel_rfl) (by rw [hC]; decide)
  obtain ⟨u5, y5, n5, e5, h5⟩ := cell_field Tryz.underlying67 hf' 5 _ rfl (by kernel_rfl) (by rw [hC]; decide)
  obtain ⟨u6, y6, n6, e6, h6⟩ := cell_field Tryz.underlying67 hf' 6 _ rfl (by kernel_rfl) (by rw [hC]; decide)
  obtain ⟨yp, np, hp⟩ := field_many Tryz.underlying67 hf' 7 _ rfl
  have gp : DataW.trod enc Tryz.prog w base (fun _ => true) held np 65 ((l.drop 7).take (Tryz.prog.cellsOf 65)) = some yp := hp
  rw [hP, List.take_of_length_le (by rw [List.length_drop]; omega)] at gp
  obtain ⟨u7, y7, n7, e7, h7⟩ := cell_field Tryz.underlying65 gp 0 _ rfl (by kernel_rfl) (by rw [hP]; decide)
  obtain ⟨u8, y8, n8, e8, h8⟩ := cell_field Tryz.underlying65 gp 1 _ rfl (by kernel_rfl) (by rw [hP]; decide)
  clear gp hp hf hv hf' hsz
  obtain rfl : l = [u0, u1, u2, u3, u4, u5, u6, u7, u8] := by
    match l, hl with
    | [a, b, c, d, e, f, g, i, j], _ =>
      simp at e0 e1 e2 e3 e4 e5 e6 e7 e8
      subst e0 e1 e2 e3 e4 e5 e6 e7 e8
      rfl
  obtain ⟨l0, r0, w0, _⟩ := rows_of (R := TickR) (m := 6) Tryz.underlying59 (by kernel_rfl) (by decide) tick_each h0
  obtain ⟨l1, r1, w1, _⟩ := rows_of (R := SpndR) (m := 2) Tryz.underlying60 (by kernel_rfl) (by decide) spend_each h1
  obtain ⟨l2, r2, w2, _⟩ := rows_of (R := LnksR) (m := 1) Tryz.underlying61 (by kernel_rfl) (by decide) links_each h2
  obtain ⟨l3, r3, w3, _⟩ := ints_of h3
  obtain ⟨l4, r4, w4, _⟩ := ints_of h4
  obtain ⟨l5, r5, w5, _⟩ := lists_of h5
  obtain ⟨l6, r6, w6, _⟩ := ints_of h6
  obtain ⟨l7, r7, w7, _⟩ := lists_of h7
  obtain ⟨l8, r8, w8, _⟩ := answers_of h8
  exact ⟨⟨l0, l1, l2, l3, l4, l5, l6, ⟨l7, l8⟩⟩, ⟨_, _, _, _, _, _, _, _, _, rfl, r0, r1, r2, r3, r4, r5, r6, r7, r8⟩, ⟨w0, w1, fun l hl x hx => (w2 l hl x hx).1, w3, w4, w5, w6, w7, w8⟩, fun l hl x hx => (w2 l hl x hx).2⟩
end
end Go.Proofs.YtpcdfepndmconaaGreatDoor
