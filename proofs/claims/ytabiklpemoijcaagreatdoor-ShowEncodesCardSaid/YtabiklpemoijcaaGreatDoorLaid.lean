/- What the rows' listed variables give the walks; one world that holds them. -/
import Derived.Test.YtabiklpemoijcaaGreatDoorEnv
import Derived.Stop.LaidErr
import Derived.LaidLaws
import Derived.Lib.LaidTab
import Derived.WalkKit
import Derived.ProofKit
namespace Go.Proofs.YtabiklpemoijcaaGreatDoor
open Go.RowKit Go.ChangeShapes

abbrev laidList : List (String × DataW Unit) := [("math/bits.deBruijn32tab", Rows.laid_math_bits_deBruijn32tab), ("math/bits.deBruijn64tab", Rows.laid_math_bits_deBruijn64tab), ("internal/strconv.uint64pow10", Rows.laid_internal_strconv_uint64pow10), ("strconv.ErrRange", Rows.laid_strconv_ErrRange), ("strconv.ErrSyntax", Rows.laid_strconv_ErrSyntax)]

theorem rngType : (Tryz.prog.globals[5]?).map (·.type) = some 210 := by kernel_rfl
theorem synType : (Tryz.prog.globals[4]?).map (·.type) = some 210 := by kernel_rfl
theorem pow10Type : (Tryz.prog.globals[6]?).map (·.type) = some 263 := by kernel_rfl
theorem star : "*" ++ "errors.errorString" = "*errors.errorString" := by decide
theorem rowErr (u : TypeId) (h : Tryz.prog.typeName? 3 u = some "*errors.errorString") : u = 267 :=
  typeName_ptr_named (nm := "errors.errorString") (by rw [star]; kernel_rfl) (by kernel_rfl) (by decide) u (by rw [star]; exact h)
theorem cellsErr : Tryz.prog.cellsOf 269 = 1 := by kernel_rfl
theorem cellsString : Tryz.prog.cellsOf 9 = 1 := by kernel_rfl
theorem cellsU64 : Tryz.prog.cellsOf 134 = 1 := by kernel_rfl
theorem cellsPow10 : Tryz.prog.cellsOf 263 = 20 := by kernel_rfl

theorem var_lt {w : World} {n : String} {g : Nat} {cs : Array Value} (hg : Tryz.prog.globalNamed n = some g) (hv : w.var? Tryz.prog n = some cs) : g < w.heap.size := by
  unfold World.var? at hv
  rw [hg] at hv
  simp only [Option.bind_some] at hv
  rcases Nat.lt_or_ge g w.heap.size with h1 | h1
  · exact h1
  · rw [Array.getElem?_eq_none h1] at hv; cases hv

theorem env_of_laid {W : World} (hL : laidMetH Tryz.prog laidList W) : Env W := by
  have h : laidMet Tryz.prog laidList W := hL
  have h3 := h.tail.tail
  have h4 := h3.tail
  have h5 := h4.tail
  have hp : Lib.TabIs Tryz.prog W "internal/strconv.uint64pow10" .u64 Lib.pow10Tab := Lib.tabIs_of_head g_pow10 pow10Type Tryz.underlying263 Tryz.underlying134 cellsU64 cellsPow10 h3
  obtain ⟨a0, s0, hv0, _⟩ := laid_sentinel h4 g_rng rngType Tryz.underlying210 rowErr Tryz.underlying267 Tryz.underlying269 rfl rfl Tryz.underlying9 cellsErr cellsString
  obtain ⟨a1, s1, hv1, _⟩ := laid_sentinel h5 g_syn synType Tryz.underlying210 rowErr Tryz.underlying267 Tryz.underlying269 rfl rfl Tryz.underlying9 cellsErr cellsString
  have l1 := var_lt g_pow10 hp
  have l2 := var_lt g_rng hv0
  have l3 := var_lt g_syn hv1
  exact ⟨by unfold NG; omega, hp, ⟨_, _, hv1⟩, ⟨_, _, hv0⟩⟩

/-! ### one world that holds the listed variables -/

abbrev textR : ByteArray := { data := #[118, 97, 108, 117, 101, 32, 111, 117, 116, 32, 111, 102, 32, 114, 97, 110, 103, 101] }
abbrev textS : ByteArray := { data := #[105, 110, 118, 97, 108, 105, 100, 32, 115, 121, 110, 116, 97, 120] }
noncomputable def low : Nat := (World.holding Tryz.prog default ⟨#[], #[], []⟩).heap.size
def putG (h : Array Obj) (g : Nat) (cs : Array Value) : Array Obj := h.modify g fun
  | .cells _ t frozen => .cells cs t frozen
  | o => o
noncomputable def laidWorld (os : Os) : World :=
  let w0 := World.holding Tryz.prog os ⟨#[.cells #[.string textR] 269, .cells #[.string textS] 269], #[], []⟩
  let h1 := putG w0.heap 7 (([0, 1, 28, 2, 29, 14, 24, 3, 30, 22, 20, 15, 25, 17, 4, 8, 31, 27, 13, 23, 21, 19, 16, 7, 26, 12, 18, 6, 11, 5, 10, 9] : List Int).map fun z => Value.int .u8 z).toArray
  let h2 := putG h1 2 (([0, 1, 56, 2, 57, 49, 28, 3, 61, 58, 42, 50, 38, 29, 17, 4, 62, 47, 59, 36, 45, 43, 51, 22, 53, 39, 33, 30, 24, 18, 12, 5, 63, 55, 48, 27, 60, 41, 37, 16, 46, 35, 44, 21, 52, 32, 23, 11, 54, 26, 40, 15, 34, 20, 31, 10, 25, 14, 19, 9, 13, 8, 7, 6] : List Int).map fun z => Value.int .u8 z).toArray
  let h3 := putG h2 6 (([1, 10, 100, 1000, 10000, 100000, 1000000, 10000000, 100000000, 1000000000, 10000000000, 100000000000, 1000000000000, 10000000000000, 100000000000000, 1000000000000000, 10000000000000000, 100000000000000000, 1000000000000000000, 10000000000000000000] : List Int).map fun z => Value.int .u64 z).toArray
  let h4 := putG h3 5 #[.iface 267 (.pointer (some ⟨low, 0, none⟩))]
  let h5 := putG h4 4 #[.iface 267 (.pointer (some ⟨low + 1, 0, none⟩))]
  { w0 with heap := h5 }
theorem laid_met (os : Os) (args : Array Value) : laidMet Tryz.prog laidList ((laidWorld os).forCall (fun _ _ => 0) ⟨#[], args, []⟩).memory :=
  laidMet_of_run' 8 (by kernel_rfl) (by kernel_rfl)
end Go.Proofs.YtabiklpemoijcaaGreatDoor
