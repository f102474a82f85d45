/- Every int of a task is an int. -/
import Derived.Test.YtpcdfepndmconaaGreatDoorEnv
import Derived.Stop.LaidErr
import Derived.LaidLaws
import Derived.Lib.LaidTab
import Derived.WalkKit
import Derived.ProofKit
import Derived.Test.YtpcdfepndmconaaGreatDoorStat
import Derived.OpenShut
import Derived.SliceStrings
import Derived.ChangeSlices
import Derived.Deep.Fields
import Derived.ChangeArms
import Derived.Below
import Derived.Test.YtpcdfepndmconaaGreatDoorEncM
import Derived.Test.YtpcdfepndmconaaGreatDoorFewT
/- JOINED: Laid Open Bnd TskI -/
/- What the rows' listed variables give the walks; one world that holds them. -/
namespace Go.Proofs.YtpcdfepndmconaaGreatDoor
open Go.RowKit Go.ChangeShapes

abbrev laidList : List (String × DataW Unit) := [("math/bits.deBruijn32tab", Rows.laid_math_bits_deBruijn32tab), ("math/bits.deBruijn64tab", Rows.laid_math_bits_deBruijn64tab), ("internal/strconv.uint64pow10", Rows.laid_internal_strconv_uint64pow10), ("strconv.ErrRange", Rows.laid_strconv_ErrRange), ("strconv.ErrSyntax", Rows.laid_strconv_ErrSyntax)]

theorem rngType : (Tryz.prog.globals[4]?).map (·.type) = some 195 := by kernel_rfl
theorem synType : (Tryz.prog.globals[3]?).map (·.type) = some 195 := by kernel_rfl
theorem pow10Type : (Tryz.prog.globals[5]?).map (·.type) = some 252 := by kernel_rfl
theorem star : "*" ++ "errors.errorString" = "*errors.errorString" := by decide
theorem rowErr (u : TypeId) (h : Tryz.prog.typeName? 3 u = some "*errors.errorString") : u = 257 :=
  typeName_ptr_named (nm := "errors.errorString") (by rw [star]; kernel_rfl) (by kernel_rfl) (by decide) u (by rw [star]; exact h)
theorem cellsErr : Tryz.prog.cellsOf 259 = 1 := by kernel_rfl
theorem cellsString : Tryz.prog.cellsOf 9 = 1 := by kernel_rfl
theorem cellsU64 : Tryz.prog.cellsOf 170 = 1 := by kernel_rfl
theorem cellsPow10 : Tryz.prog.cellsOf 252 = 20 := by kernel_rfl

theorem var_lt {w : World} {n : String} {g : Nat} {cs : Array Value} (hg : Tryz.prog.globalNamed n = some g) (hv : w.var? Tryz.prog n = some cs) : g < w.heap.size := by
  unfold World.var? at hv
  rw [hg] at hv
  simp only [Option.bind_some] at hv
  rcases Nat.lt_or_ge g w.heap.size with h1 | h1
  · exact h1
  · rw [Array.getElem?_eq_none h1] at hv; cases hv

theorem env_of_laid {W : World} (hL : laidMetH Tryz.prog laidList W) : Env W := by
  have h : laidMet Tryz.prog laidList W := hL
  have h3 := h.tail.tail
  have h4 := h3.tail
  have h5 := h4.tail
  have hp : Lib.TabIs Tryz.prog W "internal/strconv.uint64pow10" .u64 Lib.pow10Tab := Lib.tabIs_of_head g_pow10 pow10Type Tryz.underlying252 Tryz.underlying170 cellsU64 cellsPow10 h3
  obtain ⟨a0, s0, hv0, _⟩ := laid_sentinel h4 g_rng rngType Tryz.underlying195 rowErr Tryz.underlying257 Tryz.underlying259 rfl rfl Tryz.underlying9 cellsErr cellsString
  obtain ⟨a1, s1, hv1, _⟩ := laid_sentinel h5 g_syn synType Tryz.underlying195 rowErr Tryz.underlying257 Tryz.underlying259 rfl rfl Tryz.underlying9 cellsErr cellsString
  have l1 := var_lt g_pow10 hp
  have l2 := var_lt g_rng hv0
  have l3 := var_lt g_syn hv1
  exact ⟨by unfold NG; omega, hp, ⟨_, _, hv1⟩, ⟨_, _, hv0⟩⟩

/-! ### one world that holds the listed variables -/

abbrev textR : ByteArray := { data := #[118, 97, 108, 117, 101, 32, 111, 117, 116, 32, 111, 102, 32, 114, 97, 110, 103, 101] }
abbrev textS : ByteArray := { data := #[105, 110, 118, 97, 108, 105, 100, 32, 115, 121, 110, 116, 97, 120] }
noncomputable def low : Nat := (World.holding Tryz.prog default ⟨#[], #[], []⟩).heap.size
def putG (h : Array Obj) (g : Nat) (cs : Array Value) : Array Obj := h.modify g fun
  | .cells _ t frozen => .cells cs t frozen
  | o => o
noncomputable def laidWorld (os : Os) : World :=
  let w0 := World.holding Tryz.prog os ⟨#[.cells #[.string textR] 259, .cells #[.string textS] 259], #[], []⟩
  let h1 := putG w0.heap 7 (([0, 1, 28, 2, 29, 14, 24, 3, 30, 22, 20, 15, 25, 17, 4, 8, 31, 27, 13, 23, 21, 19, 16, 7, 26, 12, 18, 6, 11, 5, 10, 9] : List Int).map fun z => Value.int .u8 z).toArray
  let h2 := putG h1 6 (([0, 1, 56, 2, 57, 49, 28, 3, 61, 58, 42, 50, 38, 29, 17, 4, 62, 47, 59, 36, 45, 43, 51, 22, 53, 39, 33, 30, 24, 18, 12, 5, 63, 55, 48, 27, 60, 41, 37, 16, 46, 35, 44, 21, 52, 32, 23, 11, 54, 26, 40, 15, 34, 20, 31, 10, 25, 14, 19, 9, 13, 8, 7, 6] : List Int).map fun z => Value.int .u8 z).toArray
  let h3 := putG h2 5 (([1, 10, 100, 1000, 10000, 100000, 1000000, 10000000, 100000000, 1000000000, 10000000000, 100000000000, 1000000000000, 10000000000000, 100000000000000, 1000000000000000, 10000000000000000, 100000000000000000, 1000000000000000000, 10000000000000000000] : List Int).map fun z => Value.int .u64 z).toArray
  let h4 := putG h3 4 #[.iface 257 (.pointer (some ⟨low, 0, none⟩))]
  let h5 := putG h4 3 #[.iface 257 (.pointer (some ⟨low + 1, 0, none⟩))]
  { w0 with heap := h5 }
theorem laid_met (os : Os) (args : Array Value) : laidMet Tryz.prog laidList ((laidWorld os).forCall (fun _ _ => 0) ⟨#[], args, []⟩).memory :=
  laidMet_of_run' 8 (by kernel_rfl) (by kernel_rfl)
end Go.Proofs.YtpcdfepndmconaaGreatDoor
/- Arguments opened: structs of whatever number of one-cell fields, lists of ints and of strings. -/
namespace Go.Proofs.YtpcdfepndmconaaGreatDoor
open Go.RowKit Go.ChangeShapes Go.WideShapes Go.Deep

section
variable {H : Type} {enc : TypeId × Value → H} {w : World} {base : Nat} {held : Bool}

theorem open_struct {P : Program} {spare : Nat → Bool} {r : Reach} {b0 : Nat} {t : TypeId} {fs : Array Field} {v : Value} {d : DataW H} {p : List MemPlace} (hs : P.underlying t = some (.struct fs)) (hone : oneCellFields P fs = true) (hC : P.cellsOf t = fs.size)
    (hv : Value.okWide P w r b0 t v) (h : DataW.Trod enc P w base spare held t v d p) :
    ∃ cs : List Value, v = .agg cs.toArray ∧ cs.length = fs.size ∧ ∀ (j : Nat) (f : Field), fs[j]? = some f → ∃ (u : Value) (y : DataW H × List MemPlace) (n : Nat), cs[j]? = some u ∧ DataW.trod enc P w base spare held n f.type [u] = some y := by
  obtain ⟨cs, rfl, hsz⟩ := okWide_struct hs hv
  obtain ⟨l⟩ := cs
  have hl : l.length = fs.size := by simpa using hsz.trans hC
  refine ⟨l, rfl, hl, fun j f hj => ?_⟩
  obtain ⟨fuel, hf⟩ := h
  obtain ⟨xs, n, _, _, _, hlen, hg⟩ := DataW.trod_struct hs hf
  obtain ⟨ho, hk⟩ := hone_of hone j f hj
  have hjl : j < fs.size := (Array.getElem?_eq_some_iff.1 hj).1
  have h1 := hg j f hj
  rw [ho, hk] at h1
  simp only [Value.cells] at h1
  have h2 : (l.drop j).take 1 = [l[j]'(by omega)] := by rw [List.drop_eq_getElem_cons (by omega)]; rfl
  rw [h2] at h1
  exact ⟨_, _, n, List.getElem?_eq_getElem (by omega), h1.trans (List.getElem?_eq_getElem (by omega))⟩

theorem flat_of {w : World} {a : Addr} {v : Value} (h : w.cell? (a.add 0) = some v) : a = ⟨a.block, a.off, none⟩ := by
  obtain ⟨b, o, s⟩ := a
  have := World.cell?_spot h
  simp [Addr.add] at this
  subst this
  rfl
theorem flat_add (b o k : Nat) : (⟨b, o, none⟩ : Addr).add k = ⟨b, o + k, none⟩ := by
  unfold Addr.add
  by_cases h : k = 0
  · subst h; simp
  · simp [h]

theorem wf_i64 {i : Int} (h : (Lit.int .i64 i).wf = true) : Wire.I64 i := by
  have h1 : IntKind.min .i64 = -9223372036854775808 := by decide
  have h2 : IntKind.max .i64 = 9223372036854775807 := by decide
  simp only [Lit.wf, h1, h2, Bool.and_eq_true, decide_eq_true_eq] at h
  exact h

theorem ints_of {n : Nat} {u : Value} {y : DataW H × List MemPlace} (h : DataW.trod enc Tryz.prog w base (fun _ => true) held n 24 [u] = some y) :
    ∃ l : List Int, Row w 1 u l.length (ints l) ∧ (∀ x ∈ l, Wire.I64 x) ∧ l.length ≤ maxLen := by
  rcases open_ints Tryz.underlying24 Tryz.underlying3 (by kernel_rfl) h with ⟨hcs, _⟩ | ⟨x, l, c, zs, hcs, _, hl, hm, hz, _, hcell, hwz⟩
  · simp at hcs; subst hcs
    exact ⟨[], ⟨rfl, by simp, _, _, rfl, by simp, fun h => absurd h (by simp)⟩, by simp, by simp⟩
  · simp at hcs; subst hcs
    simp at hz
    have hlen : (zs.take l).length = l := by rw [List.length_take]; omega
    have hmx : c ≤ 9223372036854775807 := by simpa [maxLen] using hm
    refine ⟨zs.take l, ⟨by simp [ints], by rw [hlen]; omega, _, _, by rw [hlen], by rw [hlen]; exact hl, fun hp => ?_⟩, fun x hx => ?_, by rw [hlen]; omega⟩
    · rw [hlen] at hp
      have h0 := hcell 0 (by omega)
      have hf := flat_of h0
      refine ⟨x.block, x.off, congrArg some hf, fun k u hu => ?_⟩
      have hk : k < l := by
        have := (List.getElem?_eq_some_iff.1 hu).1
        simp [ints] at this; omega
      have h1 := hcell k (by omega)
      rw [hf] at h1
      rw [flat_add] at h1
      rw [h1]
      simp only [ints, List.map_take, List.getElem?_take, hk, if_true, List.getElem?_map] at hu
      rw [List.getD_eq_getElem?_getD]
      cases hzk : zs[k]? with
      | none => rw [hzk] at hu; simp at hu
      | some z => rw [hzk] at hu; simpa using hu
    · exact wf_i64 (hwz x (List.mem_of_mem_take hx))

theorem strs_of {n : Nat} {u : Value} {y : DataW H × List MemPlace} (h : DataW.trod enc Tryz.prog w base (fun _ => true) held n 44 [u] = some y) :
    ∃ l : List (List UInt8), Row w 1 u l.length (strs l) ∧ (∀ r ∈ l, r.length ≤ maxLen) ∧ l.length ≤ maxLen := by
  rcases open_strings Tryz.underlying44 Tryz.underlying9 (by kernel_rfl) h with ⟨hcs, _⟩ | ⟨x, l, c, zs, hcs, _, hl, hm, hz, _, hcell, hwz⟩
  · simp at hcs; subst hcs
    exact ⟨[], ⟨rfl, by simp, _, _, rfl, by simp, fun h => absurd h (by simp)⟩, by simp, by simp⟩
  · simp at hcs; subst hcs
    simp at hz
    have hlen : ((zs.take l).map fun s : ByteArray => s.data.toList).length = l := by rw [List.length_map, List.length_take]; omega
    have hmx : c ≤ 9223372036854775807 := by simpa [maxLen] using hm
    refine ⟨(zs.take l).map fun s : ByteArray => s.data.toList, ⟨by simp [strs], by rw [hlen]; omega, _, _, by rw [hlen], by rw [hlen]; exact hl, fun hp => ?_⟩, fun x hx => ?_, by rw [hlen]; omega⟩
    · rw [hlen] at hp
      have h0 := hcell 0 (by omega)
      have hf := flat_of h0
      refine ⟨x.block, x.off, congrArg some hf, fun k u hu => ?_⟩
      have hk : k < l := by
        have := (List.getElem?_eq_some_iff.1 hu).1
        simp [strs] at this; omega
      have h1 := hcell k (by omega)
      rw [hf] at h1
      rw [flat_add] at h1
      rw [h1]
      simp only [strs, List.map_map, List.map_take, List.getElem?_take, hk, if_true, List.getElem?_map] at hu
      rw [List.getD_eq_getElem?_getD]
      cases hzk : zs[k]? with
      | none => rw [hzk] at hu; simp at hu
      | some z => rw [hzk] at hu; simpa using hu
    · obtain ⟨s, hs, rfl⟩ := List.mem_map.1 hx
      exact hwz s (List.mem_of_mem_take hs)

theorem slice_of {e : TypeId} {P : Program} {spare : Nat → Bool} {n : Nat} {t : TypeId} {u : Value} {y : DataW H × List MemPlace} (ht : P.underlying t = some (.slice e)) (h : DataW.trod enc P w base spare held n t [u] = some y) : ∃ a m c, u = .slice a m c := by
  rcases DataW.trod_slice ht h with ⟨hcs, _⟩ | ⟨a, len, cap, _, _, _, _, hcs, _⟩
  · simp at hcs; exact ⟨_, _, _, hcs⟩
  · simp at hcs; exact ⟨_, _, _, hcs⟩
theorem int_of {n : Nat} {u : Value} {y : DataW H × List MemPlace} (h : DataW.trod enc Tryz.prog w base (fun _ => true) held n 3 [u] = some y) : ∃ i : Int, u = .int .i64 i ∧ Wire.I64 i := by
  obtain ⟨i, hcs, _, hw⟩ := DataW.trod_int Tryz.underlying3 h
  simp at hcs
  exact ⟨i, hcs, wf_i64 hw⟩
theorem string_of {n : Nat} {u : Value} {y : DataW H × List MemPlace} (h : DataW.trod enc Tryz.prog w base (fun _ => true) held n 9 [u] = some y) : ∃ s : ByteArray, u = .string s ∧ s.size ≤ maxLen := by
  obtain ⟨i, hcs, _, hw⟩ := DataW.trod_string Tryz.underlying9 h
  simp at hcs
  exact ⟨i, hcs, hw⟩

set_option maxRecDepth 100000 in
/-- a statute that came in -/
theorem statute_of {r : Reach} {b0 : Nat} {v : Value} {d : DataW H} {p : List MemPlace} (hv : Value.okWide Tryz.prog w r b0 46 v) (h : DataW.Trod enc Tryz.prog w base (fun _ => true) held 46 v d p) :
    ∃ x : Statute, StatV w v x ∧ ∀ s ∈ x.reasons, s.length ≤ maxLen := by
  obtain ⟨cs, rfl, hlen, hg⟩ := open_struct Tryz.underlying46 (by kernel_rfl) (by kernel_rfl) hv h
  obtain ⟨u0, y0, n0, e0, h0⟩ := hg 0 _ rfl
  obtain ⟨u1, y1, n1, e1, h1⟩ := hg 1 _ rfl
  obtain ⟨u2, y2, n2, e2, h2⟩ := hg 2 _ rfl
  obtain rfl : cs = [u0, u1, u2] := by
    match cs, hlen with
    | [a, b, c], _ => simp at e0 e1 e2; subst e0 e1 e2; rfl
  obtain ⟨rs, hr, hrl, _⟩ := strs_of h0
  obtain ⟨q, rfl, hq⟩ := int_of h1
  obtain ⟨ws, hw, hwl, _⟩ := ints_of h2
  exact ⟨⟨rs, q, ws⟩, ⟨⟨u0, u2, rfl, hr, hw⟩, hq, hwl⟩, hrl⟩

set_option maxRecDepth 100000 in
/-- a task that came in -/
theorem task_of {r : Reach} {b0 : Nat} {v : Value} {d : DataW H} {p : List MemPlace} (hv : Value.okWide Tryz.prog w r b0 30 v) (h : DataW.Trod enc Tryz.prog w base (fun _ => true) held 30 v d p) :
    ∃ (ver most dare quorum jurors : Int) (qs : ByteArray) (pa va : Option Addr) (pn pc vn vc : Nat),
      v = .agg #[.int .i64 ver, .string qs, .slice pa pn pc, .int .i64 most, .slice va vn vc, .int .i64 dare, .int .i64 quorum, .int .i64 jurors] := by
  obtain ⟨cs, rfl, hlen, hg⟩ := open_struct Tryz.underlying30 (by kernel_rfl) (by kernel_rfl) hv h
  obtain ⟨u0, y0, n0, e0, h0⟩ := hg 0 _ rfl
  obtain ⟨u1, y1, n1, e1, h1⟩ := hg 1 _ rfl
  obtain ⟨u2, y2, n2, e2, h2⟩ := hg 2 _ rfl
  obtain ⟨u3, y3, n3, e3, h3⟩ := hg 3 _ rfl
  obtain ⟨u4, y4, n4, e4, h4⟩ := hg 4 _ rfl
  obtain ⟨u5, y5, n5, e5, h5⟩ := hg 5 _ rfl
  obtain ⟨u6, y6, n6, e6, h6⟩ := hg 6 _ rfl
  obtain ⟨u7, y7, n7, e7, h7⟩ := hg 7 _ rfl
  obtain rfl : cs = [u0, u1, u2, u3, u4, u5, u6, u7] := by
    match cs, hlen with
    | [a, b, c, d, e, f, g, i], _ => simp at e0 e1 e2 e3 e4 e5 e6 e7; subst e0 e1 e2 e3 e4 e5 e6 e7; rfl
  obtain ⟨i0, rfl, _⟩ := int_of h0
  obtain ⟨s1, rfl, _⟩ := string_of h1
  obtain ⟨a2, m2, c2, rfl⟩ := slice_of Tryz.underlying28 h2
  obtain ⟨i3, rfl, _⟩ := int_of h3
  obtain ⟨a4, m4, c4, rfl⟩ := slice_of Tryz.underlying24 h4
  obtain ⟨i5, rfl, _⟩ := int_of h5
  obtain ⟨i6, rfl, _⟩ := int_of h6
  obtain ⟨i7, rfl, _⟩ := int_of h7
  exact ⟨i0, i3, i5, i6, i7, s1, a2, a4, m2, c2, m4, c4, rfl⟩
end
end Go.Proofs.YtpcdfepndmconaaGreatDoor
/- Bounds under which a record is encoded: small records, and records that are read from short strings. -/
namespace Go.Proofs.YtpcdfepndmconaaGreatDoor
open Go.RowKit Tape

theorem encB_of {r : Rec} (hi : RecI r) (hf : FewB r) : EncB r := by
  have ok := okR_of hi hf
  have hp := pf_ok hi hf
  have h1 := hf.da
  have ht : (terms r.links).length ≤ 36 := by
    have key : ∀ l : List (List (Lnk × List UInt8)), (∀ x ∈ l, x.length ≤ 6) → (terms l).length ≤ l.length * 6 := by
      intro l
      induction l with
      | nil => intro _; simp [terms]
      | cons a l ih =>
        intro h
        have h1 := ih fun x hx => h x (by simp [hx])
        have h2 := h a (by simp)
        unfold terms at h1 ⊢
        rw [List.flatMap_cons, List.length_append, List.length_map, List.length_cons, Nat.add_mul]
        omega
    have := key r.links hf.lkl
    have := hf.lk
    omega
  refine ⟨ok, ⟨by omega, fun l hl => by have := hf.dal l hl; omega, fun l hl x hx => ?_, by omega, hp.1⟩, by omega, ?_, ?_⟩
  · have := hf.ana l hl x hx; omega
  · intro t htm
    obtain ⟨l, hl, hx⟩ := List.mem_flatMap.1 htm
    obtain ⟨x, hx1, rfl⟩ := List.mem_map.1 hx
    have := hf.lkt l hl x hx1
    omega
  · have := numsE_le hp.1 (by have := hp.2; omega)
    unfold pfE
    have := hp.2
    omega

theorem recI_bare {r : Rec} (h : RecI r) : RecI r.bare := ⟨h.tk, h.sp, h.lk, h.cm, h.ch, h.bt, h.es, (fun l hl => absurd hl (by simp [Rec.bare])), (fun l hl => absurd hl (by simp [Rec.bare]))⟩
theorem fewB_bare {r : Rec} (h : FewB r) : FewB r.bare := ⟨h.tk, h.sp, h.spa, h.lk, h.lkl, h.lkt, h.lka, h.cm, h.ch, h.bt, h.btl, h.es, by simp [Rec.bare], by simp [Rec.bare], by simp [Rec.bare], by simp [Rec.bare], by simp [Rec.bare]⟩

theorem readPf_all (s : List UInt8) (p : Pf) (h : readPf s = (p, true)) : AllI (pfN p) := by
  unfold readPf at h
  split at h
  · next hc =>
    rw [Bool.and_eq_true, done_iff, ended_iff] at hc
    obtain ⟨⟨a1, a2⟩, b1, b2⟩ := hc
    obtain ⟨_, d2⟩ := clauses_codec.inv _ b1
    rw [b2, List.append_nil] at d2
    simp only at d2
    obtain ⟨hp, _⟩ := Prod.mk.inj h
    subst hp
    unfold pfN Pf.pairs
    simp only
    rw [pairs_back, ← d2]
    exact nums_i64 _
  · cases (Prod.mk.inj h).2
theorem readR_all (s : List UInt8) (r : Rec) (h : readR s = (r, true)) : AllI (nums7E r.n7) ∧ AllI (pfN r.proof) := by
  obtain ⟨ts, r1, h1⟩ : ∃ a b, Wire.texts ⟨s, false⟩ = (a, b) := ⟨_, _, rfl⟩
  obtain ⟨ns, r2, h2⟩ : ∃ a b, Wire.nums r1 = (a, b) := ⟨_, _, rfl⟩
  obtain ⟨tx, r3, h3⟩ : ∃ a b, Wire.text r2 = (a, b) := ⟨_, _, rfl⟩
  obtain ⟨p, ok, h4⟩ : ∃ a b, readPf tx = (a, b) := ⟨_, _, rfl⟩
  obtain ⟨x, tp, h5⟩ : ∃ a b, nums7 ⟨ns, false⟩ = (a, b) := ⟨_, _, rfl⟩
  unfold readR at h
  rw [h1] at h
  simp only at h
  rw [h2] at h
  simp only at h
  rw [h3] at h
  simp only at h
  rw [h4] at h
  unfold joinR at h
  rw [h5] at h
  simp only at h
  split at h
  · next hc =>
    rw [Bool.and_eq_true, Bool.and_eq_true, Bool.and_eq_true, done_iff, ended_iff, decide_eq_true_eq] at hc
    obtain ⟨⟨⟨⟨a1, a2⟩, rfl⟩, b1, b2⟩, ht⟩ := hc
    obtain ⟨hr, _⟩ := Prod.mk.inj h
    subst hr
    obtain ⟨_, g2⟩ := nums7_codec.inv ⟨ns, false⟩ (by rw [h5]; exact b1)
    rw [h5] at g2
    simp only [b2, List.append_nil] at g2
    obtain ⟨s1, s2⟩ := strip_attach x.2.2.1 ts ht
    have e1 : (mkR x ts p).n7 = x := by
      unfold mkR Rec.n7
      simp only [s1]
    refine ⟨?_, readPf_all tx p h4⟩
    rw [e1, ← g2]
    have := nums_i64 r1
    rw [h2] at this
    exact this
  · cases (Prod.mk.inj h).2

theorem flat_ge {α β : Type} {f : α → List β} : ∀ (l : List α), (∀ x ∈ l, 1 ≤ (f x).length) → l.length ≤ (l.flatMap f).length
  | [], _ => by simp
  | a :: l, h => by
    have h1 := flat_ge l fun x hx => h x (by simp [hx])
    have h2 := h a (by simp)
    rw [List.flatMap_cons, List.length_append, List.length_cons]
    omega
theorem flat_mem {α β : Type} {f : α → List β} : ∀ (l : List α) (x : α), x ∈ l → (f x).length ≤ (l.flatMap f).length
  | [], x, h => by simp at h
  | a :: l, x, h => by
    rw [List.flatMap_cons, List.length_append]
    rcases List.mem_cons.1 h with rfl | h
    · omega
    · have := flat_mem (f := f) l x h; omega
theorem numsE_ge (l : List Int) : l.length ≤ (Wire.numsE l).length := by
  have := flat_ge (f := Wire.intE) l (fun x _ => by simp [Wire.intE])
  unfold Wire.numsE Wire.listE
  simp only [List.length_append]
  omega
theorem textE_ge (t : List UInt8) : t.length + 1 ≤ (Wire.textE t).length := by
  unfold Wire.textE
  simp only [List.length_append, List.length_cons, List.length_nil]
  omega
theorem textsE_ge (l : List (List UInt8)) : l.length ≤ (Wire.textsE l).length ∧ ∀ t ∈ l, t.length ≤ (Wire.textsE l).length := by
  have h1 := flat_ge (f := Wire.textE) l (fun x _ => by have := textE_ge x; omega)
  unfold Wire.textsE Wire.listE
  simp only [List.length_append]
  refine ⟨by omega, fun t ht => ?_⟩
  have h2 := flat_mem (f := Wire.textE) l t ht
  have h3 := textE_ge t
  omega

theorem pfOk_of {p : Pf} (hs : p.shaped) (hl : (pfN p).length ≤ 600) (hi : AllI (pfN p)) : PfOk p := by
  obtain ⟨h1, h2⟩ := pairs_fst p.dares p.answers hs
  have h3 : ∀ c ∈ p.pairs, (clauseE c).length ≤ 600 := fun c hc => by
    have := flat_mem (f := clauseE) p.pairs c hc
    unfold pfN manyE at hl
    simp only [List.length_cons] at hl
    omega
  have h4 : ∀ c ∈ p.pairs, c.length ≤ 600 ∧ ∀ x ∈ c, x.2.length ≤ 600 := fun c hc => by
    have := h3 c hc
    unfold clauseE manyE at this
    simp only [List.length_cons] at this
    refine ⟨by have := flat_ge (f := spndE) c (fun x _ => by simp [spndE]); omega, fun x hx => ?_⟩
    have h5 := flat_mem (f := spndE) c x hx
    have h6 : (spndE x).length = x.2.length + 2 := by simp [spndE, listE]
    omega
  refine ⟨?_, fun l hl => ?_, fun l hl x hx => ?_, by omega, hi⟩
  · have h5 := flat_ge (f := clauseE) p.pairs (fun c _ => by simp [clauseE, manyE])
    have h6 : p.pairs.length = p.dares.length := by rw [← h1]; unfold Pf.pairs; rw [List.length_map]
    unfold pfN manyE at hl
    simp only [List.length_cons] at hl
    omega
  · rw [← h1] at hl
    obtain ⟨c, hc, rfl⟩ := List.mem_map.1 hl
    rw [List.length_map]
    exact (h4 c hc).1
  · rw [← h2] at hl
    obtain ⟨c, hc, rfl⟩ := List.mem_map.1 hl
    obtain ⟨y, hy, rfl⟩ := List.mem_map.1 hx
    exact (h4 c hc).2 y hy

theorem recI_zero : RecI zeroR := ⟨by simp [zeroR], by simp [zeroR], by simp [zeroR], by simp [zeroR, AllI], by simp [zeroR, AllI], by simp [zeroR], by simp [zeroR, AllI], by simp [zeroR], by simp [zeroR]⟩
theorem fewB_zero : FewB zeroR := ⟨by simp [zeroR], by simp [zeroR], by simp [zeroR], by simp [zeroR], by simp [zeroR], by simp [zeroR], by simp [zeroR], by simp [zeroR], by simp [zeroR], by simp [zeroR], by simp [zeroR], by simp [zeroR], by simp [zeroR], by simp [zeroR], by simp [zeroR], by simp [zeroR], by simp [zeroR]⟩
theorem readR_no {s : List UInt8} {c : Rec} (h : readR s = (c, false)) : c = zeroR := by
  unfold readR joinR at h
  split at h
  · cases (Prod.mk.inj h).2
  · exact (Prod.mk.inj h).1.symm
theorem encB_read {s : List UInt8} {c : Rec} {ok : Bool} (h : readR s = (c, ok)) (hs : s.length ≤ 600) : EncB c := by
  cases ok
  · rw [readR_no h]
    exact encB_of recI_zero fewB_zero
  · obtain ⟨h1, h2⟩ := readR_inv s c h
    obtain ⟨h3, h4⟩ := readR_all s c h
    rw [← h2] at hs
    unfold recE at hs
    simp only [List.length_append] at hs
    have g1 := textsE_ge (terms c.links)
    have g2 := numsE_ge (nums7E c.n7)
    have g3 := textE_ge (pfE c.proof)
    have g4 : (pfN c.proof).length ≤ (pfE c.proof).length := numsE_ge _
    exact ⟨⟨h3, by omega, h4, by omega, by omega, fun t ht => by have := g1.2 t ht; omega, by omega⟩, pfOk_of h1 (by omega) h4, by omega, fun t ht => by have := g1.2 t ht; omega, by omega⟩
end Go.Proofs.YtpcdfepndmconaaGreatDoor
namespace Go.Proofs.YtpcdfepndmconaaGreatDoor
open Go.RowKit Tape
/-- every int of a task -/
structure TskI (t : Tsk) : Prop where
  h5 : AllI (head5 t)
  pub : ∀ p ∈ t.passes, Wire.I64 p.pub
  gs : ∀ p ∈ t.passes, AllI p.guests
  rv : AllI t.revoked
end Go.Proofs.YtpcdfepndmconaaGreatDoor
