/- Arguments opened: a setup, a list of statutes; the program's tables out of the row's listed variables. -/
import Derived.Test.YtpcdfepndmconaaGreatDoorTskI
import Derived.Test.YtpcdfepndmconaaGreatDoorPfE
import Derived.Test.YtpcdfepndmconaaGreatDoorOpen9
import Derived.Test.YtpcdfepndmconaaGreatDoorPrm
import Derived.Test.YtpcdfepndmconaaGreatDoorRf1
import Derived.Test.YtpcdfepndmconaaGreatDoorGov
/- JOINED: Open7 Open10 -/
/- Arguments opened: an opening, a vote. -/
namespace Go.Proofs.YtpcdfepndmconaaGreatDoor
open Go.RowKit Go.ChangeShapes Go.WideShapes Go.Deep

section
variable {H : Type} {enc : TypeId × Value → H} {w : World} {base : Nat} {held : Bool}

theorem ofBytes (s : ByteArray) : (⟨s.data.toList.toArray⟩ : ByteArray) = s := by cases s; simp

set_option maxRecDepth 100000 in
/-- one point: three ints at its place -/
theorem point_of {n : Nat} {cs : List Value} {y : DataW H × List MemPlace} (h : DataW.trod enc Tryz.prog w base (fun _ => true) held n 78 cs = some y) :
    ∃ x0 x1 x2 : Int, cs = [.int .i64 x0, .int .i64 x1, .int .i64 x2] ∧ Wire.I64 x0 ∧ Wire.I64 x1 ∧ Wire.I64 x2 := by
  obtain ⟨xs, k, _, _, hlen, hxl, hg⟩ := DataW.trod_struct Tryz.underlying78 h
  have hc : Tryz.prog.cellsOf 78 = 3 := by kernel_rfl
  have hi : Tryz.prog.cellsOf 3 = 1 := by kernel_rfl
  rw [hc] at hlen
  match cs, hlen with
  | [a, b, c], _ =>
    have g0 : DataW.trod enc Tryz.prog w base (fun _ => true) held k 3 ([a].take (Tryz.prog.cellsOf 3) ++ []) = xs[0]? := by rw [hi]; have := hg 0 _ rfl; rw [show Tryz.prog.cellsOf (Field.type _) = 1 from hi] at this; exact this
    have g1 : DataW.trod enc Tryz.prog w base (fun _ => true) held k 3 [b] = xs[1]? := by have := hg 1 _ rfl; rw [show Tryz.prog.cellsOf (Field.type _) = 1 from hi] at this; exact this
    have g2 : DataW.trod enc Tryz.prog w base (fun _ => true) held k 3 [c] = xs[2]? := by have := hg 2 _ rfl; rw [show Tryz.prog.cellsOf (Field.type _) = 1 from hi] at this; exact this
    rw [hi] at g0
    have l0 : xs[0]? = some (xs[0]'(by rw [hxl]; decide)) := List.getElem?_eq_getElem _
    have l1 : xs[1]? = some (xs[1]'(by rw [hxl]; decide)) := List.getElem?_eq_getElem _
    have l2 : xs[2]? = some (xs[2]'(by rw [hxl]; decide)) := List.getElem?_eq_getElem _
    obtain ⟨i0, rfl, w0⟩ := int_of (g0.trans l0)
    obtain ⟨i1, rfl, w1⟩ := int_of (g1.trans l1)
    obtain ⟨i2, rfl, w2⟩ := int_of (g2.trans l2)
    exact ⟨i0, i1, i2, rfl, w0, w1, w2⟩

theorem pts_of {n : Nat} {u : Value} {y : DataW H × List MemPlace} (h : DataW.trod enc Tryz.prog w base (fun _ => true) held n 31 [u] = some y) :
    ∃ (m : Nat) (l : List Int), Row w 3 u m (ints l) ∧ ∀ x ∈ l, Wire.I64 x := by
  have hc : Tryz.prog.cellsOf 78 = 3 := by kernel_rfl
  rcases DataW.trod_slice Tryz.underlying31 h with ⟨hcs, _⟩ | ⟨a, len, cap, elems, rest, k, _, hcs, _, hb, hl, hm, hlen, hel, _⟩
  · simp at hcs; subst hcs
    exact ⟨0, [], ⟨rfl, by simp, _, _, rfl, by simp, fun h => absurd h (by simp)⟩, by simp⟩
  · simp at hcs; subst hcs
    rw [hc] at hel
    have each : ∀ i, i < len → ∃ x0 x1 x2 : Int, (w.cell? (a.add (i * 3)) = some (.int .i64 x0) ∧ w.cell? (a.add (i * 3 + 1)) = some (.int .i64 x1) ∧ w.cell? (a.add (i * 3 + 2)) = some (.int .i64 x2)) ∧
        Wire.I64 x0 ∧ Wire.I64 x1 ∧ Wire.I64 x2 := by
      intro i hi
      have h1 := hel i hi
      rw [List.getElem?_eq_getElem (by omega), Option.bind_eq_some_iff] at h1
      obtain ⟨cs, hcs, ht⟩ := h1
      obtain ⟨_, _, hat⟩ := World.cells?_some hcs
      obtain ⟨x0, x1, x2, rfl, w0, w1, w2⟩ := point_of ht
      have q0 := hat 0 (by omega)
      have q1 := hat 1 (by omega)
      have q2 := hat 2 (by omega)
      rw [Go.Deep.add_add] at q0 q1 q2
      exact ⟨x0, x1, x2, ⟨q0, q1, q2⟩, w0, w1, w2⟩
    rcases Nat.eq_zero_or_pos len with h0 | hp
    · subst h0
      exact ⟨0, [], ⟨rfl, by simp, _, _, rfl, by simp, fun h => absurd h (by simp)⟩, by simp⟩
    · have hf : a = ⟨a.block, a.off, none⟩ := by
        obtain ⟨x0, _, _, ⟨q0, _, _⟩, _⟩ := each 0 hp
        rw [Nat.zero_mul] at q0
        exact flat_of q0
      have build : ∀ m, m ≤ len → ∃ l : List Int, l.length = m * 3 ∧ (∀ k u, (ints l)[k]? = some u → w.cell? ⟨a.block, a.off + k, none⟩ = some u) ∧ ∀ x ∈ l, Wire.I64 x := by
        intro m
        induction m with
        | zero => intro _; exact ⟨[], rfl, by simp [ints], by simp⟩
        | succ m ih =>
          intro hm
          obtain ⟨l, l1, l2, l3⟩ := ih (by omega)
          obtain ⟨x0, x1, x2, ⟨q0, q1, q2⟩, w0, w1, w2⟩ := each m (by omega)
          rw [hf, flat_add] at q0 q1 q2
          refine ⟨l ++ [x0, x1, x2], by simp [l1]; omega, fun k u hu => ?_, fun x hx => ?_⟩
          · have hil : (ints l).length = m * 3 := by simp [ints, l1]
            have hsp : ints (l ++ [x0, x1, x2]) = ints l ++ [.int .i64 x0, .int .i64 x1, .int .i64 x2] := by simp [ints]
            rw [hsp] at hu
            by_cases hk : k < m * 3
            · rw [List.getElem?_append_left (by omega)] at hu
              exact l2 k u hu
            · rw [List.getElem?_append_right (by omega), hil] at hu
              have hk3 : k - m * 3 < 3 := by
                have := (List.getElem?_eq_some_iff.1 hu).1
                simpa using this
              rcases (by omega : k = m * 3 ∨ k = m * 3 + 1 ∨ k = m * 3 + 2) with rfl | rfl | rfl
              · simp at hu; subst hu; exact q0
              · simp at hu; subst hu; exact q1
              · simp at hu; subst hu; exact q2
          · simp only [List.mem_append, List.mem_cons, List.not_mem_nil, or_false] at hx
            rcases hx with hx | rfl | rfl | rfl
            · exact l3 x hx
            · exact w0
            · exact w1
            · exact w2
      obtain ⟨l, l1, l2, l3⟩ := build len (Nat.le_refl _)
      have hmx : cap ≤ 9223372036854775807 := by simpa [maxLen] using hm
      exact ⟨len, l, ⟨by simp [ints, l1], by omega, _, _, rfl, hl, fun _ => ⟨a.block, a.off, congrArg some hf, l2⟩⟩, l3⟩

set_option maxRecDepth 100000 in
/-- an opening that came in -/
theorem opening_of {r : Reach} {b0 : Nat} {v : Value} {d : DataW H} {p : List MemPlace} (hv : Value.okWide Tryz.prog w r b0 37 v) (h : DataW.Trod enc Tryz.prog w base (fun _ => true) held 37 v d p) :
    ∃ o : Opening, OpenL w v o ∧ o.reason.length ≤ maxLen := by
  obtain ⟨cs, rfl, hlen, hg⟩ := open_struct Tryz.underlying37 (by kernel_rfl) (by kernel_rfl) hv h
  obtain ⟨u0, y0, n0, e0, h0⟩ := hg 0 _ rfl
  obtain ⟨u1, y1, n1, e1, h1⟩ := hg 1 _ rfl
  obtain ⟨u2, y2, n2, e2, h2⟩ := hg 2 _ rfl
  obtain ⟨u3, y3, n3, e3, h3⟩ := hg 3 _ rfl
  obtain ⟨u4, y4, n4, e4, h4⟩ := hg 4 _ rfl
  obtain ⟨u5, y5, n5, e5, h5⟩ := hg 5 _ rfl
  obtain rfl : cs = [u0, u1, u2, u3, u4, u5] := by
    match cs, hlen with
    | [a, b, c, d, e, f], _ => simp at e0 e1 e2 e3 e4 e5; subst e0 e1 e2 e3 e4 e5; rfl
  obtain ⟨i0, rfl, w0⟩ := int_of h0
  obtain ⟨i1, rfl, w1⟩ := int_of h1
  obtain ⟨i2, rfl, w2⟩ := int_of h2
  obtain ⟨s3, rfl, w3⟩ := string_of h3
  obtain ⟨l4, r4, w4, _⟩ := ints_of h4
  obtain ⟨i5, rfl, w5⟩ := int_of h5
  exact ⟨⟨i0, i1, i2, s3.data.toList, l4, i5⟩, ⟨⟨u4, by rw [ofBytes], r4⟩, w0, w1, w2, w5, w4⟩, w3⟩

/-- a one-cell field of a struct that came in, by its offset -/
theorem field_of {P : Program} {spare : Nat → Bool} {t : TypeId} {fs : Array Field} {cs : List Value} {fuel : Nat} {x : DataW H × List MemPlace} (hs : P.underlying t = some (.struct fs)) (hf : DataW.trod enc P w base spare held fuel t cs = some x)
    (j : Nat) (f : Field) (hj : fs[j]? = some f) (h1 : P.cellsOf f.type = 1) (ho : f.offset < P.cellsOf t) : ∃ (u : Value) (y : DataW H × List MemPlace) (n : Nat), cs[f.offset]? = some u ∧ DataW.trod enc P w base spare held n f.type [u] = some y := by
  obtain ⟨xs, n, _, _, hlen, hxl, hg⟩ := DataW.trod_struct hs hf
  have h2 := hg j f hj
  have hjl : j < fs.size := (Array.getElem?_eq_some_iff.1 hj).1
  rw [h1] at h2
  have h3 : (cs.drop f.offset).take 1 = [cs[f.offset]'(by omega)] := by rw [List.drop_eq_getElem_cons (by omega)]; rfl
  rw [h3] at h2
  exact ⟨_, _, n, List.getElem?_eq_getElem (by omega), h2.trans (List.getElem?_eq_getElem (by omega))⟩

set_option maxRecDepth 100000 in
/-- a vote that came in -/
theorem vote_of {r : Reach} {b0 : Nat} {v : Value} {d : DataW H} {p : List MemPlace} (hv : Value.okWide Tryz.prog w r b0 35 v) (h : DataW.Trod enc Tryz.prog w base (fun _ => true) held 35 v d p) :
    ∃ x : Vote, VoteV w v x ∧ x.reason.length ≤ maxLen := by
  have hC : Tryz.prog.cellsOf 35 = 8 := by kernel_rfl
  obtain ⟨cs, rfl, hsz⟩ := okWide_struct Tryz.underlying35 hv
  obtain ⟨l⟩ := cs
  have hl : l.length = 8 := by simpa using hsz.trans hC
  obtain ⟨fuel, hf⟩ := h
  have hf' : DataW.trod enc Tryz.prog w base (fun _ => true) held fuel 35 l = some (d, p) := by simpa [Value.cells] using hf
  obtain ⟨u0, y0, n0, e0, h0⟩ := field_of Tryz.underlying35 hf' 0 _ rfl (by kernel_rfl) (by rw [hC]; decide)
  obtain ⟨u1, y1, n1, e1, h1⟩ := field_of Tryz.underlying35 hf' 1 _ rfl (by kernel_rfl) (by rw [hC]; decide)
  obtain ⟨u2, y2, n2, e2, h2⟩ := field_of Tryz.underlying35 hf' 2 _ rfl (by kernel_rfl) (by rw [hC]; decide)
  obtain ⟨u3, y3, n3, e3, h3⟩ := field_of Tryz.underlying35 hf' 3 _ rfl (by kernel_rfl) (by rw [hC]; decide)
  obtain ⟨u4, y4, n4, e4, h4⟩ := field_of Tryz.underlying35 hf' 4 _ rfl (by kernel_rfl) (by rw [hC]; decide)
  obtain ⟨u5, y5, n5, e5, h5⟩ := field_of Tryz.underlying35 hf' 5 _ rfl (by kernel_rfl) (by rw [hC]; decide)
  have hsig : ∃ c e : Int, l.drop 6 = [.int .i64 c, .int .i64 e] := by
    obtain ⟨xs, k, _, _, _, hxl, hg⟩ := DataW.trod_struct Tryz.underlying35 hf'
    have hcs : Tryz.prog.cellsOf 33 = 2 := by kernel_rfl
    have hi : Tryz.prog.cellsOf 3 = 1 := by kernel_rfl
    have g6 : DataW.trod enc Tryz.prog w base (fun _ => true) held k 33 ((l.drop 6).take (Tryz.prog.cellsOf 33)) = xs[6]? := hg 6 _ rfl
    have l6 : xs[6]? = some (xs[6]'(by rw [hxl]; decide)) := List.getElem?_eq_getElem _
    rw [hcs, List.take_of_length_le (by rw [List.length_drop]; omega)] at g6
    obtain ⟨ys, m, _, _, hyl, hyn, hh⟩ := DataW.trod_struct Tryz.underlying33 (g6.trans l6)
    rw [hcs] at hyl
    match hd : l.drop 6, hyl with
    | [c, e], _ =>
      rw [hd] at hh
      have q0 : DataW.trod enc Tryz.prog w base (fun _ => true) held m 3 [c] = ys[0]? := by have := hh 0 _ rfl; rw [show Tryz.prog.cellsOf (Field.type _) = 1 from hi] at this; exact this
      have q1 : DataW.trod enc Tryz.prog w base (fun _ => true) held m 3 [e] = ys[1]? := by have := hh 1 _ rfl; rw [show Tryz.prog.cellsOf (Field.type _) = 1 from hi] at this; exact this
      have m0 : ys[0]? = some (ys[0]'(by rw [hyn]; decide)) := List.getElem?_eq_getElem _
      have m1 : ys[1]? = some (ys[1]'(by rw [hyn]; decide)) := List.getElem?_eq_getElem _
      obtain ⟨i0, rfl, _⟩ := int_of (q0.trans m0)
      obtain ⟨i1, rfl, _⟩ := int_of (q1.trans m1)
      exact ⟨i0, i1, rfl⟩
  obtain ⟨c6, c7, hdr⟩ := hsig
  obtain rfl : l = [u0, u1, u2, u3, u4, u5, .int .i64 c6, .int .i64 c7] := by
    match l, hl with
    | [a, b, c, d, e, f, g, i], _ =>
      simp at e0 e1 e2 e3 e4 e5 hdr
      subst e0 e1 e2 e3 e4 e5
      obtain ⟨rfl, rfl⟩ := hdr
      rfl
  obtain ⟨i0, rfl, w0⟩ := int_of h0
  obtain ⟨i1, rfl, w1⟩ := int_of h1
  obtain ⟨i2, rfl, w2⟩ := int_of h2
  obtain ⟨i3, rfl, w3⟩ := int_of h3
  obtain ⟨s4, rfl, w4⟩ := string_of h4
  obtain ⟨m5, l5, r5, w5⟩ := pts_of h5
  exact ⟨⟨i0, i1, i2, i3, s4.data.toList, l5⟩, ⟨⟨u5, m5, c6, c7, by rw [ofBytes], r5⟩, w0, w1, w2, w3, w5⟩, w4⟩
end
end Go.Proofs.YtpcdfepndmconaaGreatDoor
namespace Go.Proofs.YtpcdfepndmconaaGreatDoor
open Go.RowKit Go.ChangeShapes Go.WideShapes Go.Deep Tape

theorem db64Type : (Tryz.prog.globals[6]?).map (·.type) = some 255 := by kernel_rfl
theorem cellsU8 : Tryz.prog.cellsOf 5 = 1 := by kernel_rfl
theorem cellsDb64 : Tryz.prog.cellsOf 255 = 64 := by kernel_rfl
theorem env2_of_laid {W : World} (hL : laidMetH Tryz.prog laidList W) : Env2 W := by
  have h : laidMet Tryz.prog laidList W := hL
  exact ⟨env_of_laid hL, Lib.tabIs_of_head g_db64 db64Type Tryz.underlying255 Tryz.underlying5 cellsU8 cellsDb64 h.tail⟩

section
variable {H : Type} {enc : TypeId × Value → H} {w : World} {base : Nat} {held : Bool}

set_option maxRecDepth 100000 in
/-- a setup that came in -/
theorem setup_of {r : Reach} {b0 : Nat} {v : Value} {d : DataW H} {p : List MemPlace} (hv : Value.okWide Tryz.prog w r b0 26 v) (h : DataW.Trod enc Tryz.prog w base (fun _ => true) held 26 v d p) :
    ∃ s : Stp, StpV w v s := by
  have hC : Tryz.prog.cellsOf 26 = 5 := by kernel_rfl
  have hG : Tryz.prog.cellsOf 23 = 3 := by kernel_rfl
  obtain ⟨cs, rfl, hsz⟩ := okWide_struct Tryz.underlying26 hv
  obtain ⟨l⟩ := cs
  have hl : l.length = 5 := by simpa using hsz.trans hC
  obtain ⟨fuel, hf⟩ := h
  have hf' : DataW.trod enc Tryz.prog w base (fun _ => true) held fuel 26 l = some (d, p) := by simpa [Value.cells] using hf
  obtain ⟨y0, n0, h0⟩ := field_many Tryz.underlying26 hf' 0 _ rfl
  have g0 : DataW.trod enc Tryz.prog w base (fun _ => true) held n0 23 ((l.drop 0).take (Tryz.prog.cellsOf 23)) = some y0 := h0
  rw [hG] at g0
  obtain ⟨a0, z0, m0, q0, i0⟩ := cell_field Tryz.underlying23 g0 0 _ rfl (by kernel_rfl) (by rw [hG]; decide)
  obtain ⟨a1, z1, m1, q1, i1⟩ := cell_field Tryz.underlying23 g0 1 _ rfl (by kernel_rfl) (by rw [hG]; decide)
  obtain ⟨a2, z2, m2, q2, i2⟩ := cell_field Tryz.underlying23 g0 2 _ rfl (by kernel_rfl) (by rw [hG]; decide)
  obtain ⟨u3, y3, n3, e3, h3⟩ := cell_field Tryz.underlying26 hf' 1 _ rfl (by kernel_rfl) (by rw [hC]; decide)
  obtain ⟨u4, y4, n4, e4, h4⟩ := cell_field Tryz.underlying26 hf' 2 _ rfl (by kernel_rfl) (by rw [hC]; decide)
  have e3' : l[3]? = some u3 := e3
  have e4' : l[4]? = some u4 := e4
  have q0' : ((l.drop 0).take 3)[0]? = some a0 := q0
  have q1' : ((l.drop 0).take 3)[1]? = some a1 := q1
  have q2' : ((l.drop 0).take 3)[2]? = some a2 := q2
  obtain rfl : l = [a0, a1, a2, u3, u4] := by
    match l, hl with
    | [a, b, c, d, e], _ => simp at e3' e4' q0' q1' q2'; subst e3' e4' q0' q1' q2'; rfl
  obtain ⟨x0, rfl, w0⟩ := int_of i0
  obtain ⟨x1, rfl, w1⟩ := int_of i1
  obtain ⟨x2, rfl, w2⟩ := int_of i2
  obtain ⟨l3, r3, w3, _⟩ := ints_of h3
  obtain ⟨x4, rfl, w4⟩ := int_of h4
  obtain ⟨sa, sc, rfl, hl1, hl2⟩ := r3.form
  exact ⟨⟨x0, x1, x2, l3, x4⟩, ⟨⟨sa, sc, rfl, r3⟩, w0, w1, w2, w3, w4⟩⟩

def StatR (w : World) (cs : List Value) (x : Statute) : Prop := ∃ rs ws, cs = [rs, .int .i64 x.quorum, ws] ∧ StatV w (.agg #[rs, .int .i64 x.quorum, ws]) x
theorem StatsV.of_rows {v : Value} {l : List Statute} (h : RowOf StatR 3 w v l) : StatsV w v l := by
  obtain ⟨vs, h1, h2, h3, h4⟩ := h
  refine ⟨vs.flatten, h4, fun i x hx => ?_⟩
  obtain ⟨c, hc, rs, ws, rfl, hs⟩ := h3 i x hx
  refine ⟨rs, ws, ?_, ?_, ?_, hs⟩
  · have := flatten_get vs 3 i 0 _ h2 hc (by decide)
    simpa using this
  · have := flatten_get vs 3 i 1 _ h2 hc (by decide)
    simpa using this
  · have := flatten_get vs 3 i 2 _ h2 hc (by decide)
    simpa using this
set_option maxRecDepth 100000 in
theorem stat_each (n : Nat) (cs : List Value) (y : DataW H × List MemPlace) (hl : cs.length = 3) (h : DataW.trod enc Tryz.prog w base (fun _ => true) held n 46 cs = some y) : ∃ x : Statute, StatR w cs x ∧ ∀ s ∈ x.reasons, s.length ≤ maxLen := by
  have hC : Tryz.prog.cellsOf 46 = 3 := by kernel_rfl
  obtain ⟨u0, y0, n0, e0, h0⟩ := cell_field Tryz.underlying46 h 0 _ rfl (by kernel_rfl) (by rw [hC]; decide)
  obtain ⟨u1, y1, n1, e1, h1⟩ := cell_field Tryz.underlying46 h 1 _ rfl (by kernel_rfl) (by rw [hC]; decide)
  obtain ⟨u2, y2, n2, e2, h2⟩ := cell_field Tryz.underlying46 h 2 _ rfl (by kernel_rfl) (by rw [hC]; decide)
  obtain rfl : cs = [u0, u1, u2] := by
    match cs, hl with
    | [a, b, c], _ => simp at e0 e1 e2; subst e0 e1 e2; rfl
  obtain ⟨rs, hr, hrl, _⟩ := strs_of h0
  obtain ⟨q, rfl, hq⟩ := int_of h1
  obtain ⟨ws, hw, hwl, _⟩ := ints_of h2
  exact ⟨⟨rs, q, ws⟩, ⟨u0, u2, rfl, ⟨u0, u2, rfl, hr, hw⟩, hq, hwl⟩, hrl⟩
theorem stats_of {n : Nat} {u : Value} {y : DataW H × List MemPlace} (h : DataW.trod enc Tryz.prog w base (fun _ => true) held n 27 [u] = some y) : ∃ l : List Statute, StatsV w u l ∧ ∀ x ∈ l, ∀ s ∈ x.reasons, s.length ≤ maxLen := by
  obtain ⟨l, h1, h2, _⟩ := rows_of (R := StatR) (I := fun x : Statute => ∀ s ∈ x.reasons, s.length ≤ maxLen) Tryz.underlying27 (by kernel_rfl) (by decide) stat_each h
  exact ⟨l, StatsV.of_rows h1, h2⟩
end
end Go.Proofs.YtpcdfepndmconaaGreatDoor
