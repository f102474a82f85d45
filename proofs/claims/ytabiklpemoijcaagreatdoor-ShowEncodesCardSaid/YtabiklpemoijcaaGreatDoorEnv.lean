/- The listed package-level variables, as every contract takes them; numerals by strconv. -/
import Derived.Test.YtabiklpemoijcaaGreatDoorMem
import Derived.Test.YtabiklpemoijcaaGreatDoorWire
import Derived.Test.YtabiklpemoijcaaGreatDoorShelf
import Derived.Lib.AtoiErrMem
import Derived.LaidLaws
import Derived.Sort.Grow
namespace Go.Proofs.YtabiklpemoijcaaGreatDoor
open Go.RowKit

/-- the blocks below this number hold the listed package-level variables -/
def NG : Nat := max (max 6 4) 5 + 1

theorem g_pow10 : Tryz.prog.globalNamed "internal/strconv.uint64pow10" = some 6 := by kernel_rfl
theorem g_syn : Tryz.prog.globalNamed "strconv.ErrSyntax" = some 4 := by kernel_rfl
theorem g_rng : Tryz.prog.globalNamed "strconv.ErrRange" = some 5 := by kernel_rfl

structure Env (w : World) : Prop where
  size : NG ≤ w.heap.size
  pow10 : Lib.TabIs Tryz.prog w "internal/strconv.uint64pow10" .u64 Lib.pow10Tab
  syn : ∃ tp p, w.var? Tryz.prog "strconv.ErrSyntax" = some #[.iface tp p]
  rng : ∃ tp p, w.var? Tryz.prog "strconv.ErrRange" = some #[.iface tp p]

theorem var_kept {S : List Nat} {w w' : World} {n : String} {g : Nat} {cs : Array Value} (hg : Tryz.prog.globalNamed n = some g) (h : Kept S w w') (hS : g ∉ S)
    (hv : w.var? Tryz.prog n = some cs) : w'.var? Tryz.prog n = some cs := by
  unfold World.var? at hv ⊢
  rw [hg] at hv ⊢
  simp only [Option.bind_some] at hv ⊢
  have hlt : g < w.heap.size := by
    rcases Nat.lt_or_ge g w.heap.size with h1 | h1
    · exact h1
    · rw [Array.getElem?_eq_none h1] at hv; cases hv
  rw [h.block g hlt hS]
  exact hv

theorem Env.kept {S : List Nat} {w w' : World} (hE : Env w) (h : Kept S w w') (hS : ∀ k ∈ S, NG ≤ k) : Env w' := by
  have ne : ∀ g, g < NG → g ∉ S := fun g hg hx => by have := hS g hx; omega
  refine ⟨Nat.le_trans hE.size h.size, var_kept g_pow10 h (ne _ (by decide)) hE.pow10, ?_, ?_⟩
  · obtain ⟨tp, p, hv⟩ := hE.syn
    exact ⟨tp, p, var_kept g_syn h (ne _ (by decide)) hv⟩
  · obtain ⟨tp, p, hv⟩ := hE.rng
    exact ⟨tp, p, var_kept g_rng h (ne _ (by decide)) hv⟩
theorem Env.kept0 {w w' : World} (hE : Env w) (h : Kept [] w w') : Env w' := hE.kept h (by simp)
theorem Env.drewN {w : World} (hE : Env w) (n : Nat) : Env (w.drewN n) := hE.kept0 ((Kept.refl _ _).drewN n)
theorem Env.drew {w : World} (hE : Env w) : Env w.drew := hE.kept0 (Kept.refl _ _).drew
theorem Env.alloc {w : World} (hE : Env w) (o : Obj) : Env (w.alloc o) := hE.kept0 ((Kept.refl _ _).alloc o)

theorem kept_grow (w : World) (os : Array Obj) : Kept [] w (Sort.grow w os) :=
  ⟨rfl, rfl, rfl, by simp [Sort.grow], fun k hk _ => by
    show (w.heap ++ os)[k]? = _
    rw [Array.getElem?_append_left hk]⟩

/-- a string out of its bytes -/
def bs (l : List UInt8) : Value := .string ⟨l.toArray⟩

theorem itoa_any (n : Int) (w : World) (hn : Wire.I64 n) (hE : Env w) :
    Calls Tryz.prog 166 #[.int .i64 n] w fun e w' => e = .returned (.string ⟨(Lib.itoa n).toArray⟩) ∧ Kept [] w w' :=
  (Tryz.strconv_Itoa n hn.1 hn.2 w hE.pow10).mono fun _ _ ⟨he, k, os, hw⟩ => ⟨he, by subst hw; exact (((Kept.refl _ _).drewN k).trans (kept_grow _ os))⟩

theorem atoi_ok (s : ByteArray) (v : Int) (w : World) (hs : s.size ≤ 100000000) (h : Lib.atoiAll s.data.toList = .ok v) :
    Calls Tryz.prog 201 #[.string s] w fun e w' => e = .returned (.tuple #[.int .i64 v, .nilIface]) ∧ Kept [] w w' :=
  (Tryz.strconv_Atoi_ok s (by omega) v h w).mono fun _ _ ⟨he, hw⟩ => ⟨he, by
    rcases hw with rfl | ⟨t, rfl⟩
    · exact Kept.refl _ _
    · exact Kept.of_below (Lib.bytesWorld_below _ _ _)⟩

/-- how Atoi ends where there is no number -/
def AtoiBad (w : World) (e : Ending) (w' : World) : Prop := ∃ (k : Int) (T : TypeId) (N : Nat), e = .returned (.tuple #[.int .i64 k, .iface T (.pointer (some ⟨N, 0, none⟩))]) ∧ Kept [] w w'

theorem atoi_bad (s : ByteArray) (w : World) (hs : s.size ≤ 100000000) (h : ∀ v, Lib.atoiAll s.data.toList ≠ .ok v) (hE : Env w) :
    Calls Tryz.prog 201 #[.string s] w (AtoiBad w) := by
  obtain ⟨tp, p, h1⟩ := hE.syn
  obtain ⟨tq, q, h2⟩ := hE.rng
  cases ha : Lib.atoiAll s.data.toList with
  | ok v => exact absurd ha (h v)
  | range => exact (Tryz.strconv_Atoi_range_var s (by omega) ha tq q w h2).mono fun _ _ ⟨N, he, _, _, hb⟩ => ⟨_, _, _, he, Kept.of_below hb⟩
  | _ => exact (Tryz.strconv_Atoi_syntax_var s (by omega) ha tp p w h1).mono fun _ _ ⟨N, he, _, _, hb⟩ => ⟨_, _, _, he, Kept.of_below hb⟩

end Go.Proofs.YtabiklpemoijcaaGreatDoor
