/- Arguments opened: a list of entries. -/
import Derived.Test.YtcidfldeiklcjaaGreatDoorEnv
import Derived.Stop.LaidErr
import Derived.LaidLaws
import Derived.Lib.LaidTab
import Derived.WalkKit
import Derived.ProofKit
import Derived.Test.YtcidfldeiklcjaaGreatDoorRdS
import Derived.OpenShut
import Derived.SliceStrings
import Derived.ChangeSlices
import Derived.Deep.Fields
import Derived.ChangeArms
import Derived.Below
import Derived.Test.YtcidfldeiklcjaaGreatDoorFewT
import Derived.Test.YtcidfldeiklcjaaGreatDoorEbd
import Derived.Test.YtcidfldeiklcjaaGreatDoorFld5
import Derived.Test.YtcidfldeiklcjaaGreatDoorShaP
import Derived.Test.YtcidfldeiklcjaaGreatDoorLgp
/- JOINED: Laid Open Bnd TskI Open9 Pts Ballot FewV Plain7 Open7 Open10 Ope -/
/- What the rows' listed variables give the walks; one world that holds them. -/
namespace Go.Proofs.YtcidfldeiklcjaaGreatDoor
open Go.RowKit Go.ChangeShapes

abbrev laidList : List (String × DataW Unit) := [("math/bits.deBruijn32tab", Rows.laid_math_bits_deBruijn32tab), ("math/bits.deBruijn64tab", Rows.laid_math_bits_deBruijn64tab), ("internal/strconv.uint64pow10", Rows.laid_internal_strconv_uint64pow10), ("strconv.ErrRange", Rows.laid_strconv_ErrRange), ("strconv.ErrSyntax", Rows.laid_strconv_ErrSyntax)]

theorem rngType : (Tryz.prog.globals[6]?).map (·.type) = some 215 := by kernel_rfl
theorem synType : (Tryz.prog.globals[5]?).map (·.type) = some 215 := by kernel_rfl
theorem pow10Type : (Tryz.prog.globals[3]?).map (·.type) = some 269 := by kernel_rfl
theorem star : "*" ++ "errors.errorString" = "*errors.errorString" := by decide
theorem rowErr (u : TypeId) (h : Tryz.prog.typeName? 3 u = some "*errors.errorString") : u = 278 :=
  typeName_ptr_named (nm := "errors.errorString") (by rw [star]; kernel_rfl) (by kernel_rfl) (by decide) u (by rw [star]; exact h)
theorem cellsErr : Tryz.prog.cellsOf 280 = 1 := by kernel_rfl
theorem cellsString : Tryz.prog.cellsOf 9 = 1 := by kernel_rfl
theorem cellsU64 : Tryz.prog.cellsOf 148 = 1 := by kernel_rfl
theorem cellsPow10 : Tryz.prog.cellsOf 269 = 20 := by kernel_rfl

theorem var_lt {w : World} {n : String} {g : Nat} {cs : Array Value} (hg : Tryz.prog.globalNamed n = some g) (hv : w.var? Tryz.prog n = some cs) : g < w.heap.size := by
  unfold World.var? at hv
  rw [hg] at hv
  simp only [Option.bind_some] at hv
  rcases Nat.lt_or_ge g w.heap.size with h1 | h1
  · exact h1
  · rw [Array.getElem?_eq_none h1] at hv; cases hv

theorem env_of_laid {W : World} (hL : laidMetH Tryz.prog laidList W) : Env W := by
  have h : laidMet Tryz.prog laidList W := hL
  have h3 := h.tail.tail
  have h4 := h3.tail
  have h5 := h4.tail
  have hp : Lib.TabIs Tryz.prog W "internal/strconv.uint64pow10" .u64 Lib.pow10Tab := Lib.tabIs_of_head g_pow10 pow10Type Tryz.underlying269 Tryz.underlying148 cellsU64 cellsPow10 h3
  obtain ⟨a0, s0, hv0, _⟩ := laid_sentinel h4 g_rng rngType Tryz.underlying215 rowErr Tryz.underlying278 Tryz.underlying280 rfl rfl Tryz.underlying9 cellsErr cellsString
  obtain ⟨a1, s1, hv1, _⟩ := laid_sentinel h5 g_syn synType Tryz.underlying215 rowErr Tryz.underlying278 Tryz.underlying280 rfl rfl Tryz.underlying9 cellsErr cellsString
  have l1 := var_lt g_pow10 hp
  have l2 := var_lt g_rng hv0
  have l3 := var_lt g_syn hv1
  exact ⟨by unfold NG; omega, hp, ⟨_, _, hv1⟩, ⟨_, _, hv0⟩⟩

/-! ### one world that holds the listed variables -/

abbrev textR : ByteArray := { data := #[118, 97, 108, 117, 101, 32, 111, 117, 116, 32, 111, 102, 32, 114, 97, 110, 103, 101] }
abbrev textS : ByteArray := { data := #[105, 110, 118, 97, 108, 105, 100, 32, 115, 121, 110, 116, 97, 120] }
noncomputable def low : Nat := (World.holding Tryz.prog default ⟨#[], #[], []⟩).heap.size
def putG (h : Array Obj) (g : Nat) (cs : Array Value) : Array Obj := h.modify g fun
  | .cells _ t frozen => .cells cs t frozen
  | o => o
noncomputable def laidWorld (os : Os) : World :=
  let w0 := World.holding Tryz.prog os ⟨#[.cells #[.string textR] 280, .cells #[.string textS] 280], #[], []⟩
  let h1 := putG w0.heap 7 (([0, 1, 28, 2, 29, 14, 24, 3, 30, 22, 20, 15, 25, 17, 4, 8, 31, 27, 13, 23, 21, 19, 16, 7, 26, 12, 18, 6, 11, 5, 10, 9] : List Int).map fun z => Value.int .u8 z).toArray
  let h2 := putG h1 2 (([0, 1, 56, 2, 57, 49, 28, 3, 61, 58, 42, 50, 38, 29, 17, 4, 62, 47, 59, 36, 45, 43, 51, 22, 53, 39, 33, 30, 24, 18, 12, 5, 63, 55, 48, 27, 60, 41, 37, 16, 46, 35, 44, 21, 52, 32, 23, 11, 54, 26, 40, 15, 34, 20, 31, 10, 25, 14, 19, 9, 13, 8, 7, 6] : List Int).map fun z => Value.int .u8 z).toArray
  let h3 := putG h2 3 (([1, 10, 100, 1000, 10000, 100000, 1000000, 10000000, 100000000, 1000000000, 10000000000, 100000000000, 1000000000000, 10000000000000, 100000000000000, 1000000000000000, 10000000000000000, 100000000000000000, 1000000000000000000, 10000000000000000000] : List Int).map fun z => Value.int .u64 z).toArray
  let h4 := putG h3 6 #[.iface 278 (.pointer (some ⟨low, 0, none⟩))]
  let h5 := putG h4 5 #[.iface 278 (.pointer (some ⟨low + 1, 0, none⟩))]
  { w0 with heap := h5 }
theorem laid_met (os : Os) (args : Array Value) : laidMet Tryz.prog laidList ((laidWorld os).forCall (fun _ _ => 0) ⟨#[], args, []⟩).memory :=
  laidMet_of_run' 8 (by kernel_rfl) (by kernel_rfl)
end Go.Proofs.YtcidfldeiklcjaaGreatDoor
/- Arguments opened: structs of whatever number of one-cell fields, lists of ints and of strings. -/
namespace Go.Proofs.YtcidfldeiklcjaaGreatDoor
open Go.RowKit Go.ChangeShapes Go.WideShapes Go.Deep

section
variable {H : Type} {enc : TypeId × Value → H} {w : World} {base : Nat} {held : Bool}

theorem flat_of {w : World} {a : Addr} {v : Value} (h : w.cell? (a.add 0) = some v) : a = ⟨a.block, a.off, none⟩ := by
  obtain ⟨b, o, s⟩ := a
  have := World.cell?_spot h
  simp [Addr.add] at this
  subst this
  rfl
theorem flat_add (b o k : Nat) : (⟨b, o, none⟩ : Addr).add k = ⟨b, o + k, none⟩ := by
  unfold Addr.add
  by_cases h : k = 0
  · subst h; simp
  · simp [h]

theorem wf_i64 {i : Int} (h : (Lit.int .i64 i).wf = true) : Wire.I64 i := by
  have h1 : IntKind.min .i64 = -9223372036854775808 := by decide
  have h2 : IntKind.max .i64 = 9223372036854775807 := by decide
  simp only [Lit.wf, h1, h2, Bool.and_eq_true, decide_eq_true_eq] at h
  exact h

theorem ints_of {n : Nat} {u : Value} {y : DataW H × List MemPlace} (h : DataW.trod enc Tryz.prog w base (fun _ => true) held n 24 [u] = some y) :
    ∃ l : List Int, Row w 1 u l.length (ints l) ∧ (∀ x ∈ l, Wire.I64 x) ∧ l.length ≤ maxLen := by
  rcases open_ints Tryz.underlying24 Tryz.underlying3 (by kernel_rfl) h with ⟨hcs, _⟩ | ⟨x, l, c, zs, hcs, _, hl, hm, hz, _, hcell, hwz⟩
  · simp at hcs; subst hcs
    exact ⟨[], ⟨rfl, by simp, _, _, rfl, by simp, fun h => absurd h (by simp)⟩, by simp, by simp⟩
  · simp at hcs; subst hcs
    simp at hz
    have hlen : (zs.take l).length = l := by rw [List.length_take]; omega
    have hmx : c ≤ 9223372036854775807 := by simpa [maxLen] using hm
    refine ⟨zs.take l, ⟨by simp [ints], by rw [hlen]; omega, _, _, by rw [hlen], by rw [hlen]; exact hl, fun hp => ?_⟩, fun x hx => ?_, by rw [hlen]; omega⟩
    · rw [hlen] at hp
      have h0 := hcell 0 (by omega)
      have hf := flat_of h0
      refine ⟨x.block, x.off, congrArg some hf, fun k u hu => ?_⟩
      have hk : k < l := by
        have := (List.getElem?_eq_some_iff.1 hu).1
        simp [ints] at this; omega
      have h1 := hcell k (by omega)
      rw [hf] at h1
      rw [flat_add] at h1
      rw [h1]
      simp only [ints, List.map_take, List.getElem?_take, hk, if_true, List.getElem?_map] at hu
      rw [List.getD_eq_getElem?_getD]
      cases hzk : zs[k]? with
      | none => rw [hzk] at hu; simp at hu
      | some z => rw [hzk] at hu; simpa using hu
    · exact wf_i64 (hwz x (List.mem_of_mem_take hx))

theorem int_of {n : Nat} {u : Value} {y : DataW H × List MemPlace} (h : DataW.trod enc Tryz.prog w base (fun _ => true) held n 3 [u] = some y) : ∃ i : Int, u = .int .i64 i ∧ Wire.I64 i := by
  obtain ⟨i, hcs, _, hw⟩ := DataW.trod_int Tryz.underlying3 h
  simp at hcs
  exact ⟨i, hcs, wf_i64 hw⟩
theorem string_of {n : Nat} {u : Value} {y : DataW H × List MemPlace} (h : DataW.trod enc Tryz.prog w base (fun _ => true) held n 9 [u] = some y) : ∃ s : ByteArray, u = .string s ∧ s.size ≤ maxLen := by
  obtain ⟨i, hcs, _, hw⟩ := DataW.trod_string Tryz.underlying9 h
  simp at hcs
  exact ⟨i, hcs, hw⟩

end
end Go.Proofs.YtcidfldeiklcjaaGreatDoor
/- Bounds under which a record is encoded: small records, and records that are read from short strings. -/
namespace Go.Proofs.YtcidfldeiklcjaaGreatDoor
open Go.RowKit Tape

end Go.Proofs.YtcidfldeiklcjaaGreatDoor
/- Every int of a task is an int. -/
namespace Go.Proofs.YtcidfldeiklcjaaGreatDoor
open Go.RowKit Tape
end Go.Proofs.YtcidfldeiklcjaaGreatDoor
/- Arguments opened: a task, a record. -/
namespace Go.Proofs.YtcidfldeiklcjaaGreatDoor
open Go.RowKit Go.ChangeShapes Go.WideShapes Go.Deep Tape

section
variable {H : Type} {enc : TypeId × Value → H} {w : World} {base : Nat} {held : Bool}

theorem ofBytes9 (s : ByteArray) : (⟨s.data.toList.toArray⟩ : ByteArray) = s := by cases s; simp
/-- a one-cell field of a struct that came in, by its offset -/
theorem cell_field {P : Program} {spare : Nat → Bool} {t : TypeId} {fs : Array Field} {cs : List Value} {fuel : Nat} {x : DataW H × List MemPlace} (hs : P.underlying t = some (.struct fs)) (hf : DataW.trod enc P w base spare held fuel t cs = some x)
    (j : Nat) (f : Field) (hj : fs[j]? = some f) (h1 : P.cellsOf f.type = 1) (ho : f.offset < P.cellsOf t) : ∃ (u : Value) (y : DataW H × List MemPlace) (n : Nat), cs[f.offset]? = some u ∧ DataW.trod enc P w base spare held n f.type [u] = some y := by
  obtain ⟨xs, n, _, _, hlen, hxl, hg⟩ := DataW.trod_struct hs hf
  have h2 := hg j f hj
  have hjl : j < fs.size := (Array.getElem?_eq_some_iff.1 hj).1
  rw [h1] at h2
  have h3 : (cs.drop f.offset).take 1 = [cs[f.offset]'(by omega)] := by rw [List.drop_eq_getElem_cons (by omega)]; rfl
  rw [h3] at h2
  exact ⟨_, _, n, List.getElem?_eq_getElem (by omega), h2.trans (List.getElem?_eq_getElem (by omega))⟩

/-- a slice that came in, its elements opened one by one -/
theorem rows_of {α : Type} {R : World → List Value → α → Prop} {I : α → Prop} {m : Nat} {P : Program} {spare : Nat → Bool} {t e : TypeId} {n : Nat} {u : Value} {y : DataW H × List MemPlace} (ht : P.underlying t = some (.slice e)) (hc : P.cellsOf e = m) (hmp : 0 < m)
    (each : ∀ (n : Nat) (cs : List Value) (y : DataW H × List MemPlace), cs.length = m → DataW.trod enc P w base spare held n e cs = some y → ∃ a, R w cs a ∧ I a)
    (h : DataW.trod enc P w base spare held n t [u] = some y) : ∃ l : List α, RowOf R m w u l ∧ (∀ x ∈ l, I x) ∧ l.length ≤ maxLen := by
  rcases DataW.trod_slice ht h with ⟨hcs, _⟩ | ⟨a, len, cap, elems, rest, k, _, hcs, _, hb, hl, hm, hlen, hel, _⟩
  · simp at hcs; subst hcs
    exact ⟨[], RowOf.nil_ _ _ _, by simp, by simp⟩
  · simp at hcs; subst hcs
    rw [hc] at hel
    have hmx : cap ≤ 9223372036854775807 := by simpa [maxLen] using hm
    have each' : ∀ i, i < len → ∃ (cs : List Value) (x : α), cs.length = m ∧ (∀ j, j < m → w.cell? (a.add (i * m + j)) = cs[j]?) ∧ R w cs x ∧ I x := by
      intro i hi
      have h1 := hel i hi
      rw [List.getElem?_eq_getElem (by omega), Option.bind_eq_some_iff] at h1
      obtain ⟨cs, hcs, ht'⟩ := h1
      obtain ⟨_, hcl, hat⟩ := World.cells?_some hcs
      obtain ⟨x, hx, hix⟩ := each _ _ _ hcl ht'
      refine ⟨cs, x, hcl, fun j hj => ?_, hx, hix⟩
      have q := hat j hj
      rw [Go.Deep.add_add] at q
      exact q
    rcases Nat.eq_zero_or_pos len with h0 | hp
    · subst h0
      exact ⟨[], ⟨[], rfl, by simp, by simp, ⟨by simp, by simp, _, _, rfl, by simp, fun h => absurd h (by simp)⟩⟩, by simp, by simp⟩
    · have hf : a = ⟨a.block, a.off, none⟩ := by
        obtain ⟨cs, _, q1, q2, _⟩ := each' 0 hp
        have q := q2 0 hmp
        rw [Nat.zero_mul, List.getElem?_eq_getElem (by omega)] at q
        exact flat_of q
      have build : ∀ q, q ≤ len → ∃ (vs : List (List Value)) (l : List α), vs.length = q ∧ l.length = q ∧ (∀ c ∈ vs, c.length = m) ∧ (∀ (k : Nat) x, l[k]? = some x → ∃ c, vs[k]? = some c ∧ R w c x) ∧
          (∀ (k : Nat) c, vs[k]? = some c → ∀ j, j < m → w.cell? (a.add (k * m + j)) = c[j]?) ∧ ∀ x ∈ l, I x := by
        intro q
        induction q with
        | zero => intro _; exact ⟨[], [], rfl, rfl, by simp, by simp, by simp, by simp⟩
        | succ q ih =>
          intro hq
          obtain ⟨vs, l, g1, g2, g3, g4, g5, g6⟩ := ih (by omega)
          obtain ⟨cs, x, c1, c2, c3, c4⟩ := each' q (by omega)
          refine ⟨vs ++ [cs], l ++ [x], by simp [g1], by simp [g2], fun c hc => ?_, fun k z hz => ?_, fun k c hc j hj => ?_, fun z hz => ?_⟩
          · rcases List.mem_append.1 hc with hc | hc
            · exact g3 c hc
            · rw [List.mem_singleton.1 hc]; exact c1
          · rcases Nat.lt_or_ge k q with hk | hk
            · rw [List.getElem?_append_left (by omega)] at hz
              obtain ⟨c, e1, e2⟩ := g4 k z hz
              exact ⟨c, by rw [List.getElem?_append_left (by omega)]; exact e1, e2⟩
            · have hk' := (List.getElem?_eq_some_iff.1 hz).1
              rw [List.length_append, List.length_singleton] at hk'
              obtain rfl : k = q := by omega
              rw [List.getElem?_append_right (by omega), g2, Nat.sub_self] at hz
              simp at hz
              subst hz
              exact ⟨cs, by rw [List.getElem?_append_right (by omega), g1, Nat.sub_self]; rfl, c3⟩
          · rcases Nat.lt_or_ge k q with hk | hk
            · rw [List.getElem?_append_left (by omega)] at hc
              exact g5 k c hc j hj
            · have hk' := (List.getElem?_eq_some_iff.1 hc).1
              rw [List.length_append, List.length_singleton] at hk'
              obtain rfl : k = q := by omega
              rw [List.getElem?_append_right (by omega), g1, Nat.sub_self] at hc
              simp at hc
              subst hc
              exact c2 j hj
          · rcases List.mem_append.1 hz with hz | hz
            · exact g6 z hz
            · rw [List.mem_singleton.1 hz]; exact c4
      obtain ⟨vs, l, g1, g2, g3, g4, g5, g6⟩ := build len (Nat.le_refl _)
      have hfl := flatten_len vs m g3
      refine ⟨l, ⟨vs, by omega, g3, g4, ⟨by rw [hfl, g1, g2], by omega, _, _, by rw [g2], by omega, fun _ => ⟨a.block, a.off, congrArg some hf, fun k v hv => ?_⟩⟩⟩, g6, by omega⟩
      have hk := (List.getElem?_eq_some_iff.1 hv).1
      rw [hfl] at hk
      have hdm : k / m * m + k % m = k := by rw [Nat.mul_comm]; exact Nat.div_add_mod k m
      have hmod := Nat.mod_lt k hmp
      have hdiv : k / m < vs.length := (Nat.div_lt_iff_lt_mul hmp).2 hk
      have hc1 := List.getElem?_eq_getElem hdiv
      have e1 := flatten_get vs m (k / m) (k % m) _ g3 hc1 hmod
      rw [hdm] at e1
      have e2 := g5 (k / m) _ hc1 (k % m) hmod
      rw [hdm, ← e1, hv, hf, flat_add] at e2
      exact e2

theorem field_many {P : Program} {spare : Nat → Bool} {t : TypeId} {fs : Array Field} {cs : List Value} {fuel : Nat} {x : DataW H × List MemPlace} (hs : P.underlying t = some (.struct fs)) (hf : DataW.trod enc P w base spare held fuel t cs = some x)
    (j : Nat) (f : Field) (hj : fs[j]? = some f) : ∃ (y : DataW H × List MemPlace) (n : Nat), DataW.trod enc P w base spare held n f.type ((cs.drop f.offset).take (P.cellsOf f.type)) = some y := by
  obtain ⟨xs, n, _, _, hlen, hxl, hg⟩ := DataW.trod_struct hs hf
  have hjl : j < fs.size := (Array.getElem?_eq_some_iff.1 hj).1
  exact ⟨_, n, (hg j f hj).trans (List.getElem?_eq_getElem (by omega))⟩
end
end Go.Proofs.YtcidfldeiklcjaaGreatDoor
/- Lists of points: SamePoints. -/
namespace Go.Proofs.YtcidfldeiklcjaaGreatDoor
open Go.RowKit

end Go.Proofs.YtcidfldeiklcjaaGreatDoor
/- A juror's vote: its value, and the text that is signed. -/
namespace Go.Proofs.YtcidfldeiklcjaaGreatDoor
open Go.RowKit

end Go.Proofs.YtcidfldeiklcjaaGreatDoor
/- The documents' bounds on votes: FewVotes. -/
namespace Go.Proofs.YtcidfldeiklcjaaGreatDoor
open Go.RowKit

end Go.Proofs.YtcidfldeiklcjaaGreatDoor
/- The plain law: minutes read back, no other text is read; the signed text tells the votes apart. -/
namespace Go.Proofs.YtcidfldeiklcjaaGreatDoor
open Go.RowKit

end Go.Proofs.YtcidfldeiklcjaaGreatDoor
/- Arguments opened: an opening, a vote. -/
namespace Go.Proofs.YtcidfldeiklcjaaGreatDoor
open Go.RowKit Go.ChangeShapes Go.WideShapes Go.Deep

section
variable {H : Type} {enc : TypeId × Value → H} {w : World} {base : Nat} {held : Bool}

end
end Go.Proofs.YtcidfldeiklcjaaGreatDoor
/- Arguments opened: a setup, a list of statutes; the program's tables out of the row's listed variables. -/
namespace Go.Proofs.YtcidfldeiklcjaaGreatDoor
open Go.RowKit Go.ChangeShapes Go.WideShapes Go.Deep Tape

theorem db64Type : (Tryz.prog.globals[2]?).map (·.type) = some 255 := by kernel_rfl
theorem cellsU8 : Tryz.prog.cellsOf 5 = 1 := by kernel_rfl
theorem cellsDb64 : Tryz.prog.cellsOf 255 = 64 := by kernel_rfl
theorem env2_of_laid {W : World} (hL : laidMetH Tryz.prog laidList W) : Env2 W := by
  have h : laidMet Tryz.prog laidList W := hL
  exact ⟨env_of_laid hL, Lib.tabIs_of_head g_db64 db64Type Tryz.underlying255 Tryz.underlying5 cellsU8 cellsDb64 h.tail⟩

section
variable {H : Type} {enc : TypeId × Value → H} {w : World} {base : Nat} {held : Bool}

set_option maxRecDepth 100000 in
/-- a setup that came in -/
theorem setup_of {r : Reach} {b0 : Nat} {v : Value} {d : DataW H} {p : List MemPlace} (hv : Value.okWide Tryz.prog w r b0 26 v) (h : DataW.Trod enc Tryz.prog w base (fun _ => true) held 26 v d p) :
    ∃ s : Stp, StpV w v s := by
  have hC : Tryz.prog.cellsOf 26 = 5 := by kernel_rfl
  have hG : Tryz.prog.cellsOf 23 = 3 := by kernel_rfl
  obtain ⟨cs, rfl, hsz⟩ := okWide_struct Tryz.underlying26 hv
  obtain ⟨l⟩ := cs
  have hl : l.length = 5 := by simpa using hsz.trans hC
  obtain ⟨fuel, hf⟩ := h
  have hf' : DataW.trod enc Tryz.prog w base (fun _ => true) held fuel 26 l = some (d, p) := by simpa [Value.cells] using hf
  obtain ⟨y0, n0, h0⟩ := field_many Tryz.underlying26 hf' 0 _ rfl
  have g0 : DataW.trod enc Tryz.prog w base (fun _ => true) held n0 23 ((l.drop 0).take (Tryz.prog.cellsOf 23)) = some y0 := h0
  rw [hG] at g0
  obtain ⟨a0, z0, m0, q0, i0⟩ := cell_field Tryz.underlying23 g0 0 _ rfl (by kernel_rfl) (by rw [hG]; decide)
  obtain ⟨a1, z1, m1, q1, i1⟩ := cell_field Tryz.underlying23 g0 1 _ rfl (by kernel_rfl) (by rw [hG]; decide)
  obtain ⟨a2, z2, m2, q2, i2⟩ := cell_field Tryz.underlying23 g0 2 _ rfl (by kernel_rfl) (by rw [hG]; decide)
  obtain ⟨u3, y3, n3, e3, h3⟩ := cell_field Tryz.underlying26 hf' 1 _ rfl (by kernel_rfl) (by rw [hC]; decide)
  obtain ⟨u4, y4, n4, e4, h4⟩ := cell_field Tryz.underlying26 hf' 2 _ rfl (by kernel_rfl) (by rw [hC]; decide)
  have e3' : l[3]? = some u3 := e3
  have e4' : l[4]? = some u4 := e4
  have q0' : ((l.drop 0).take 3)[0]? = some a0 := q0
  have q1' : ((l.drop 0).take 3)[1]? = some a1 := q1
  have q2' : ((l.drop 0).take 3)[2]? = some a2 := q2
  obtain rfl : l = [a0, a1, a2, u3, u4] := by
    match l, hl with
    | [a, b, c, d, e], _ => simp at e3' e4' q0' q1' q2'; subst e3' e4' q0' q1' q2'; rfl
  obtain ⟨x0, rfl, w0⟩ := int_of i0
  obtain ⟨x1, rfl, w1⟩ := int_of i1
  obtain ⟨x2, rfl, w2⟩ := int_of i2
  obtain ⟨l3, r3, w3, _⟩ := ints_of h3
  obtain ⟨x4, rfl, w4⟩ := int_of h4
  obtain ⟨sa, sc, rfl, hl1, hl2⟩ := r3.form
  exact ⟨⟨x0, x1, x2, l3, x4⟩, ⟨⟨sa, sc, rfl, r3⟩, w0, w1, w2, w3, w4⟩⟩

end
end Go.Proofs.YtcidfldeiklcjaaGreatDoor
namespace Go.Proofs.YtcidfldeiklcjaaGreatDoor
open Go.RowKit Go.ChangeShapes Go.WideShapes Go.Deep Tape Tm

section
variable {H : Type} {enc : TypeId × Value → H} {w : World} {base : Nat} {held : Bool}
set_option maxRecDepth 100000 in
theorem ent_each (n : Nat) (cs : List Value) (y : DataW H × List MemPlace) (hl : cs.length = 8) (h : DataW.trod enc Tryz.prog w base (fun _ => true) held n 52 cs = some y) : ∃ e : Ent, EntR w cs e ∧ EntJ e := by
  have hC : Tryz.prog.cellsOf 52 = 8 := by kernel_rfl
  have hG : Tryz.prog.cellsOf 50 = 2 := by kernel_rfl
  obtain ⟨u0, y0, n0, e0, h0⟩ := cell_field Tryz.underlying52 h 0 _ rfl (by kernel_rfl) (by rw [hC]; decide)
  obtain ⟨u1, y1, n1, e1, h1⟩ := cell_field Tryz.underlying52 h 1 _ rfl (by kernel_rfl) (by rw [hC]; decide)
  obtain ⟨u2, y2, n2, e2, h2⟩ := cell_field Tryz.underlying52 h 2 _ rfl (by kernel_rfl) (by rw [hC]; decide)
  obtain ⟨u3, y3, n3, e3, h3⟩ := cell_field Tryz.underlying52 h 3 _ rfl (by kernel_rfl) (by rw [hC]; decide)
  obtain ⟨u4, y4, n4, e4, h4⟩ := cell_field Tryz.underlying52 h 4 _ rfl (by kernel_rfl) (by rw [hC]; decide)
  obtain ⟨u5, y5, n5, e5, h5⟩ := cell_field Tryz.underlying52 h 5 _ rfl (by kernel_rfl) (by rw [hC]; decide)
  obtain ⟨y6, n6, h6⟩ := field_many Tryz.underlying52 h 6 _ rfl
  have g6 : DataW.trod enc Tryz.prog w base (fun _ => true) held n6 50 ((cs.drop 6).take (Tryz.prog.cellsOf 50)) = some y6 := h6
  rw [hG] at g6
  obtain ⟨a6, z6, m6, q6, i6⟩ := cell_field Tryz.underlying50 g6 0 _ rfl (by kernel_rfl) (by rw [hG]; decide)
  obtain ⟨a7, z7, m7, q7, i7⟩ := cell_field Tryz.underlying50 g6 1 _ rfl (by kernel_rfl) (by rw [hG]; decide)
  have e0' : cs[0]? = some u0 := e0
  have e1' : cs[1]? = some u1 := e1
  have e2' : cs[2]? = some u2 := e2
  have e3' : cs[3]? = some u3 := e3
  have e4' : cs[4]? = some u4 := e4
  have e5' : cs[5]? = some u5 := e5
  have q6' : ((cs.drop 6).take 2)[0]? = some a6 := q6
  have q7' : ((cs.drop 6).take 2)[1]? = some a7 := q7
  obtain rfl : cs = [u0, u1, u2, u3, u4, u5, a6, a7] := by
    match cs, hl with
    | [a, b, c, d, e, f, g, h], _ => simp at e0' e1' e2' e3' e4' e5' q6' q7'; subst e0' e1' e2' e3' e4' e5' q6' q7'; rfl
  obtain ⟨i0, rfl, w0⟩ := int_of h0
  obtain ⟨i1, rfl, w1⟩ := int_of h1
  obtain ⟨i2, rfl, w2⟩ := int_of h2
  obtain ⟨i3, rfl, w3⟩ := int_of h3
  obtain ⟨l4, r4, w4, hl4⟩ := ints_of h4
  obtain ⟨s5, rfl, hl5⟩ := string_of h5
  obtain ⟨i6', rfl, w6⟩ := int_of i6
  obtain ⟨i7', rfl, w7⟩ := int_of i7
  obtain ⟨sa, sc, rfl, hn1, hn2⟩ := r4.form
  have hl5' : s5.data.toList.length ≤ 9223372036854775807 := by simpa [maxLen] using hl5
  exact ⟨⟨i0, i1, i2, i3, l4, s5.data.toList, i6', i7'⟩, ⟨.slice sa l4.length sc, by unfold entC; rw [ofBytes9], r4⟩, ⟨w0, w1, w2, w3, w4, w6, w7, hn1, hl5'⟩⟩
theorem ents_of {n : Nat} {u : Value} {y : DataW H × List MemPlace} (h : DataW.trod enc Tryz.prog w base (fun _ => true) held n 27 [u] = some y) : ∃ l : List Ent, EntsV w u l ∧ (∀ e ∈ l, EntJ e) ∧ l.length ≤ maxLen :=
  rows_of Tryz.underlying27 (by kernel_rfl) (by decide) ent_each h
end
end Go.Proofs.YtcidfldeiklcjaaGreatDoor
