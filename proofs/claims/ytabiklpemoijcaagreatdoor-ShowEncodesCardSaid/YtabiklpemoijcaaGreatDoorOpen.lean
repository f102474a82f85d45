/- Arguments opened: structs of whatever number of one-cell fields, lists of ints and of strings. -/
import Derived.Test.YtabiklpemoijcaaGreatDoorStat
import Derived.ProofKit
import Derived.OpenShut
import Derived.SliceStrings
import Derived.ChangeSlices
import Derived.Deep.Fields
import Derived.ChangeArms
import Derived.Below
namespace Go.Proofs.YtabiklpemoijcaaGreatDoor
open Go.RowKit Go.ChangeShapes Go.WideShapes Go.Deep

section
variable {H : Type} {enc : TypeId × Value → H} {w : World} {base : Nat} {held : Bool}

theorem open_struct {P : Program} {spare : Nat → Bool} {r : Reach} {b0 : Nat} {t : TypeId} {fs : Array Field} {v : Value} {d : DataW H} {p : List MemPlace} (hs : P.underlying t = some (.struct fs)) (hone : oneCellFields P fs = true) (hC : P.cellsOf t = fs.size)
    (hv : Value.okWide P w r b0 t v) (h : DataW.Trod enc P w base spare held t v d p) :
    ∃ cs : List Value, v = .agg cs.toArray ∧ cs.length = fs.size ∧ ∀ (j : Nat) (f : Field), fs[j]? = some f → ∃ (u : Value) (y : DataW H × List MemPlace) (n : Nat), cs[j]? = some u ∧ DataW.trod enc P w base spare held n f.type [u] = some y := by
  obtain ⟨cs, rfl, hsz⟩ := okWide_struct hs hv
  obtain ⟨l⟩ := cs
  have hl : l.length = fs.size := by simpa using hsz.trans hC
  refine ⟨l, rfl, hl, fun j f hj => ?_⟩
  obtain ⟨fuel, hf⟩ := h
  obtain ⟨xs, n, _, _, _, hlen, hg⟩ := DataW.trod_struct hs hf
  obtain ⟨ho, hk⟩ := hone_of hone j f hj
  have hjl : j < fs.size := (Array.getElem?_eq_some_iff.1 hj).1
  have h1 := hg j f hj
  rw [ho, hk] at h1
  simp only [Value.cells] at h1
  have h2 : (l.drop j).take 1 = [l[j]'(by omega)] := by rw [List.drop_eq_getElem_cons (by omega)]; rfl
  rw [h2] at h1
  exact ⟨_, _, n, List.getElem?_eq_getElem (by omega), h1.trans (List.getElem?_eq_getElem (by omega))⟩

theorem flat_of {w : World} {a : Addr} {v : Value} (h : w.cell? (a.add 0) = some v) : a = ⟨a.block, a.off, none⟩ := by
  obtain ⟨b, o, s⟩ := a
  have := World.cell?_spot h
  simp [Addr.add] at this
  subst this
  rfl
theorem flat_add (b o k : Nat) : (⟨b, o, none⟩ : Addr).add k = ⟨b, o + k, none⟩ := by
  unfold Addr.add
  by_cases h : k = 0
  · subst h; simp
  · simp [h]

theorem wf_i64 {i : Int} (h : (Lit.int .i64 i).wf = true) : Wire.I64 i := by
  have h1 : IntKind.min .i64 = -9223372036854775808 := by decide
  have h2 : IntKind.max .i64 = 9223372036854775807 := by decide
  simp only [Lit.wf, h1, h2, Bool.and_eq_true, decide_eq_true_eq] at h
  exact h

theorem ints_of {n : Nat} {u : Value} {y : DataW H × List MemPlace} (h : DataW.trod enc Tryz.prog w base (fun _ => true) held n 24 [u] = some y) :
    ∃ l : List Int, Row w 1 u l.length (ints l) ∧ (∀ x ∈ l, Wire.I64 x) ∧ l.length ≤ maxLen := by
  rcases open_ints Tryz.underlying24 Tryz.underlying3 (by kernel_rfl) h with ⟨hcs, _⟩ | ⟨x, l, c, zs, hcs, _, hl, hm, hz, _, hcell, hwz⟩
  · simp at hcs; subst hcs
    exact ⟨[], ⟨rfl, by simp, _, _, rfl, by simp, fun h => absurd h (by simp)⟩, by simp, by simp⟩
  · simp at hcs; subst hcs
    simp at hz
    have hlen : (zs.take l).length = l := by rw [List.length_take]; omega
    have hmx : c ≤ 9223372036854775807 := by simpa [maxLen] using hm
    refine ⟨zs.take l, ⟨by simp [ints], by rw [hlen]; omega, _, _, by rw [hlen], by rw [hlen]; exact hl, fun hp => ?_⟩, fun x hx => ?_, by rw [hlen]; omega⟩
    · rw [hlen] at hp
      have h0 := hcell 0 (by omega)
      have hf := flat_of h0
      refine ⟨x.block, x.off, congrArg some hf, fun k u hu => ?_⟩
      have hk : k < l := by
        have := (List.getElem?_eq_some_iff.1 hu).1
        simp [ints] at this; omega
      have h1 := hcell k (by omega)
      rw [hf] at h1
      rw [flat_add] at h1
      rw [h1]
      simp only [ints, List.map_take, List.getElem?_take, hk, if_true, List.getElem?_map] at hu
      rw [List.getD_eq_getElem?_getD]
      cases hzk : zs[k]? with
      | none => rw [hzk] at hu; simp at hu
      | some z => rw [hzk] at hu; simpa using hu
    · exact wf_i64 (hwz x (List.mem_of_mem_take hx))

theorem strs_of {n : Nat} {u : Value} {y : DataW H × List MemPlace} (h : DataW.trod enc Tryz.prog w base (fun _ => true) held n 44 [u] = some y) :
    ∃ l : List (List UInt8), Row w 1 u l.length (strs l) ∧ (∀ r ∈ l, r.length ≤ maxLen) ∧ l.length ≤ maxLen := by
  rcases open_strings Tryz.underlying44 Tryz.underlying9 (by kernel_rfl) h with ⟨hcs, _⟩ | ⟨x, l, c, zs, hcs, _, hl, hm, hz, _, hcell, hwz⟩
  · simp at hcs; subst hcs
    exact ⟨[], ⟨rfl, by simp, _, _, rfl, by simp, fun h => absurd h (by simp)⟩, by simp, by simp⟩
  · simp at hcs; subst hcs
    simp at hz
    have hlen : ((zs.take l).map fun s : ByteArray => s.data.toList).length = l := by rw [List.length_map, List.length_take]; omega
    have hmx : c ≤ 9223372036854775807 := by simpa [maxLen] using hm
    refine ⟨(zs.take l).map fun s : ByteArray => s.data.toList, ⟨by simp [strs], by rw [hlen]; omega, _, _, by rw [hlen], by rw [hlen]; exact hl, fun hp => ?_⟩, fun x hx => ?_, by rw [hlen]; omega⟩
    · rw [hlen] at hp
      have h0 := hcell 0 (by omega)
      have hf := flat_of h0
      refine ⟨x.block, x.off, congrArg some hf, fun k u hu => ?_⟩
      have hk : k < l := by
        have := (List.getElem?_eq_some_iff.1 hu).1
        simp [strs] at this; omega
      have h1 := hcell k (by omega)
      rw [hf] at h1
      rw [flat_add] at h1
      rw [h1]
      simp only [strs, List.map_map, List.map_take, List.getElem?_take, hk, if_true, List.getElem?_map] at hu
      rw [List.getD_eq_getElem?_getD]
      cases hzk : zs[k]? with
      | none => rw [hzk] at hu; simp at hu
      | some z => rw [hzk] at hu; simpa using hu
    · obtain ⟨s, hs, rfl⟩ := List.mem_map.1 hx
      exact hwz s (List.mem_of_mem_take hs)

theorem slice_of {e : TypeId} {P : Program} {spare : Nat → Bool} {n : Nat} {t : TypeId} {u : Value} {y : DataW H × List MemPlace} (ht : P.underlying t = some (.slice e)) (h : DataW.trod enc P w base spare held n t [u] = some y) : ∃ a m c, u = .slice a m c := by
  rcases DataW.trod_slice ht h with ⟨hcs, _⟩ | ⟨a, len, cap, _, _, _, _, hcs, _⟩
  · simp at hcs; exact ⟨_, _, _, hcs⟩
  · simp at hcs; exact ⟨_, _, _, hcs⟩
theorem int_of {n : Nat} {u : Value} {y : DataW H × List MemPlace} (h : DataW.trod enc Tryz.prog w base (fun _ => true) held n 3 [u] = some y) : ∃ i : Int, u = .int .i64 i ∧ Wire.I64 i := by
  obtain ⟨i, hcs, _, hw⟩ := DataW.trod_int Tryz.underlying3 h
  simp at hcs
  exact ⟨i, hcs, wf_i64 hw⟩
theorem string_of {n : Nat} {u : Value} {y : DataW H × List MemPlace} (h : DataW.trod enc Tryz.prog w base (fun _ => true) held n 9 [u] = some y) : ∃ s : ByteArray, u = .string s ∧ s.size ≤ maxLen := by
  obtain ⟨i, hcs, _, hw⟩ := DataW.trod_string Tryz.underlying9 h
  simp at hcs
  exact ⟨i, hcs, hw⟩

set_option maxRecDepth 100000 in
/-- a statute that came in -/
theorem statute_of {r : Reach} {b0 : Nat} {v : Value} {d : DataW H} {p : List MemPlace} (hv : Value.okWide Tryz.prog w r b0 46 v) (h : DataW.Trod enc Tryz.prog w base (fun _ => true) held 46 v d p) :
    ∃ x : Statute, StatV w v x ∧ ∀ s ∈ x.reasons, s.length ≤ maxLen := by
  obtain ⟨cs, rfl, hlen, hg⟩ := open_struct Tryz.underlying46 (by kernel_rfl) (by kernel_rfl) hv h
  obtain ⟨u0, y0, n0, e0, h0⟩ := hg 0 _ rfl
  obtain ⟨u1, y1, n1, e1, h1⟩ := hg 1 _ rfl
  obtain ⟨u2, y2, n2, e2, h2⟩ := hg 2 _ rfl
  obtain rfl : cs = [u0, u1, u2] := by
    match cs, hlen with
    | [a, b, c], _ => simp at e0 e1 e2; subst e0 e1 e2; rfl
  obtain ⟨rs, hr, hrl, _⟩ := strs_of h0
  obtain ⟨q, rfl, hq⟩ := int_of h1
  obtain ⟨ws, hw, hwl, _⟩ := ints_of h2
  exact ⟨⟨rs, q, ws⟩, ⟨⟨u0, u2, rfl, hr, hw⟩, hq, hwl⟩, hrl⟩

set_option maxRecDepth 100000 in
/-- a task that came in -/
theorem task_of {r : Reach} {b0 : Nat} {v : Value} {d : DataW H} {p : List MemPlace} (hv : Value.okWide Tryz.prog w r b0 30 v) (h : DataW.Trod enc Tryz.prog w base (fun _ => true) held 30 v d p) :
    ∃ (ver most dare quorum jurors : Int) (qs : ByteArray) (pa va : Option Addr) (pn pc vn vc : Nat),
      v = .agg #[.int .i64 ver, .string qs, .slice pa pn pc, .int .i64 most, .slice va vn vc, .int .i64 dare, .int .i64 quorum, .int .i64 jurors] := by
  obtain ⟨cs, rfl, hlen, hg⟩ := open_struct Tryz.underlying30 (by kernel_rfl) (by kernel_rfl) hv h
  obtain ⟨u0, y0, n0, e0, h0⟩ := hg 0 _ rfl
  obtain ⟨u1, y1, n1, e1, h1⟩ := hg 1 _ rfl
  obtain ⟨u2, y2, n2, e2, h2⟩ := hg 2 _ rfl
  obtain ⟨u3, y3, n3, e3, h3⟩ := hg 3 _ rfl
  obtain ⟨u4, y4, n4, e4, h4⟩ := hg 4 _ rfl
  obtain ⟨u5, y5, n5, e5, h5⟩ := hg 5 _ rfl
  obtain ⟨u6, y6, n6, e6, h6⟩ := hg 6 _ rfl
  obtain ⟨u7, y7, n7, e7, h7⟩ := hg 7 _ rfl
  obtain rfl : cs = [u0, u1, u2, u3, u4, u5, u6, u7] := by
    match cs, hlen with
    | [a, b, c, d, e, f, g, i], _ => simp at e0 e1 e2 e3 e4 e5 e6 e7; subst e0 e1 e2 e3 e4 e5 e6 e7; rfl
  obtain ⟨i0, rfl, _⟩ := int_of h0
  obtain ⟨s1, rfl, _⟩ := string_of h1
  obtain ⟨a2, m2, c2, rfl⟩ := slice_of Tryz.underlying28 h2
  obtain ⟨i3, rfl, _⟩ := int_of h3
  obtain ⟨a4, m4, c4, rfl⟩ := slice_of Tryz.underlying24 h4
  obtain ⟨i5, rfl, _⟩ := int_of h5
  obtain ⟨i6, rfl, _⟩ := int_of h6
  obtain ⟨i7, rfl, _⟩ := int_of h7
  exact ⟨i0, i3, i5, i6, i7, s1, a2, a4, m2, c2, m4, c4, rfl⟩
end
end Go.Proofs.YtabiklpemoijcaaGreatDoor
