/- The primality test, and groups: witness, Prime, ValidGroup, Element, Power. -/
import Derived.Test.YtcidfldeiklcjaaGreatDoorFld1
import Derived.LoopTactic
import Derived.Laws.Bits64b
import Derived.Test.YtcidfldeiklcjaaGreatDoorEnv
import Derived.Lib.TrailingZeros
import Derived.Shelf.Spec.TrailingZeros
/- JOINED: Fld2 Fld3 Env2 Prm Fld5 -/
/- Add, Sub, Mul, power, Pow modulo a small number. -/
namespace Go.Proofs.YtcidfldeiklcjaaGreatDoor
open Go.RowKit

def addN (N : Nat) (a b : Int) : Nat := (res N a + res N b) % N
def subN (N : Nat) (a b : Int) : Nat := (res N a + N - res N b) % N
def mulN (N : Nat) (a b : Int) : Nat := res N a * res N b % N

set_option maxRecDepth 100000 in
set_option maxHeartbeats 800000 in
theorem fadd_any (N : Nat) (a b : Int) (w : World) (h1 : 1 ≤ N) (h2 : N < 2305843009213693952) (ha : Wire.I64 a) (hb : Wire.I64 b) :
    Calls Tryz.prog 89 #[.int .i64 N, .int .i64 a, .int .i64 b] w fun e w' => e = .returned (.int .i64 ((addN N a b : Nat) : Int)) ∧ Kept [] w w' := by
  have V := Lib.hid (fvalid_any N w h1 h2)
  have HA := Lib.hid (residue_any N a w h1 h2 ha)
  have HB := Lib.hid (residue_any N b w h1 h2 hb)
  have l1 := res_lt N a h1
  have l2 := res_lt N b h1
  have hz' : ¬ (N : Int) = 0 := by omega
  unfold addN
  obtain ⟨x, hx⟩ : ∃ x, res N a = x := ⟨_, rfl⟩
  obtain ⟨y, hy⟩ : ∃ y, res N b = y := ⟨_, rfl⟩
  rw [hx] at HA l1 ⊢
  rw [hy] at HB l2 ⊢
  have q4 : ((x : Int) + (y : Int)) % (N : Int) < N := Int.emod_lt_of_pos _ (by omega)
  have q6 : 0 ≤ ((x : Int) + (y : Int)) % (N : Int) := Int.emod_nonneg _ (by omega)
  clear hx hy
  go_enter Tryz.func89, Tryz.ntmps89
  go_wp2_with (first
    | (go_at_call 91; refine V.out.mono ?_; rintro e w' ⟨rfl, rfl⟩)
    | (go_at_call 141; with_reducible refine HA.out.mono ?_; rintro e w' ⟨rfl, rfl⟩)
    | (go_at_call 141; with_reducible refine HB.out.mono ?_; rintro e w' ⟨rfl, rfl⟩))
  go_ret
  exact ⟨rfl, Kept.refl _ _⟩

set_option maxRecDepth 100000 in
set_option maxHeartbeats 800000 in
theorem fsub_any (N : Nat) (a b : Int) (w : World) (h1 : 1 ≤ N) (h2 : N < 2305843009213693952) (ha : Wire.I64 a) (hb : Wire.I64 b) :
    Calls Tryz.prog 217 #[.int .i64 N, .int .i64 a, .int .i64 b] w fun e w' => e = .returned (.int .i64 ((subN N a b : Nat) : Int)) ∧ Kept [] w w' := by
  have V := Lib.hid (fvalid_any N w h1 h2)
  have HA := Lib.hid (residue_any N a w h1 h2 ha)
  have HB := Lib.hid (residue_any N b w h1 h2 hb)
  have l1 := res_lt N a h1
  have l2 := res_lt N b h1
  have hz' : ¬ (N : Int) = 0 := by omega
  unfold subN
  obtain ⟨x, hx⟩ : ∃ x, res N a = x := ⟨_, rfl⟩
  obtain ⟨y, hy⟩ : ∃ y, res N b = y := ⟨_, rfl⟩
  rw [hx] at HA l1 ⊢
  rw [hy] at HB l2 ⊢
  have q4 : ((x : Int) + (N : Int) - (y : Int)) % (N : Int) < N := Int.emod_lt_of_pos _ (by omega)
  have q6 : 0 ≤ ((x : Int) + (N : Int) - (y : Int)) % (N : Int) := Int.emod_nonneg _ (by omega)
  clear hx hy
  go_enter Tryz.func217, Tryz.ntmps217
  go_wp2_with (first
    | (go_at_call 91; refine V.out.mono ?_; rintro e w' ⟨rfl, rfl⟩)
    | (go_at_call 141; with_reducible refine HA.out.mono ?_; rintro e w' ⟨rfl, rfl⟩)
    | (go_at_call 141; with_reducible refine HB.out.mono ?_; rintro e w' ⟨rfl, rfl⟩))
  go_ret
  refine ⟨?_, Kept.refl _ _⟩
  have e1 : (((x + N - y) % N : Nat) : Int) = ((x : Int) + (N : Int) - (y : Int)) % (N : Int) := by
    rw [Int.natCast_emod, show ((x + N - y : Nat) : Int) = (x : Int) + (N : Int) - (y : Int) by omega]
  rw [e1]
  rfl

set_option maxRecDepth 100000 in
set_option maxHeartbeats 800000 in
theorem fmul_any (N : Nat) (a b : Int) (w : World) (h1 : 1 ≤ N) (h2 : N < 2305843009213693952) (ha : Wire.I64 a) (hb : Wire.I64 b) :
    Calls Tryz.prog 90 #[.int .i64 N, .int .i64 a, .int .i64 b] w fun e w' => e = .returned (.int .i64 ((mulN N a b : Nat) : Int)) ∧ Kept [] w w' := by
  have V := Lib.hid (fvalid_any N w h1 h2)
  have HA := Lib.hid (residue_any N a w h1 h2 ha)
  have HB := Lib.hid (residue_any N b w h1 h2 hb)
  have l1 := res_lt N a h1
  have l2 := res_lt N b h1
  unfold mulN
  obtain ⟨x, hx⟩ : ∃ x, res N a = x := ⟨_, rfl⟩
  obtain ⟨y, hy⟩ : ∃ y, res N b = y := ⟨_, rfl⟩
  rw [hx] at HA l1 ⊢
  rw [hy] at HB l2 ⊢
  have HP := Lib.hid (product_any N x y w h1 h2 l1 l2)
  have q4 : x * y % N < N := Nat.mod_lt _ (by omega)
  obtain ⟨p, hp⟩ : ∃ p, x * y % N = p := ⟨_, rfl⟩
  rw [hp] at HP q4 ⊢
  clear hx hy hp
  go_enter Tryz.func90, Tryz.ntmps90
  go_wp2_with (first
    | (go_at_call 91; refine V.out.mono ?_; rintro e w' ⟨rfl, rfl⟩)
    | (go_at_call 141; with_reducible refine HA.out.mono ?_; rintro e w' ⟨rfl, rfl⟩)
    | (go_at_call 141; with_reducible refine HB.out.mono ?_; rintro e w' ⟨rfl, rfl⟩)
    | (go_at_call 142; refine HP.out.mono ?_; rintro e w1 ⟨rfl, hk⟩))
  go_ret
  exact ⟨rfl, hk⟩
end Go.Proofs.YtcidfldeiklcjaaGreatDoor
/- Powers modulo a small number: power, Pow. -/
namespace Go.Proofs.YtcidfldeiklcjaaGreatDoor
open Go.RowKit

theorem and_one (y : Nat) (hy : y < 18446744073709551616) : bits .and .u64 (y : Int) 1 = ((y % 2 : Nat) : Int) := by
  have h := bits_and_u64_nat y 1 hy (by omega)
  rw [Nat.and_one_is_mod] at h
  exact h

theorem pow_step (N o x y : Nat) : (y % 2 = 1 → (o * x % N) * (x * x % N) ^ (y / 2) % N = o * x ^ y % N) ∧ (y % 2 = 0 → o * (x * x % N) ^ (y / 2) % N = o * x ^ y % N) := by
  have hsq : ∀ k, (x * x % N) ^ k % N = x ^ (2 * k) % N := by
    intro k
    rw [Nat.pow_mod, Nat.mod_mod, ← Nat.pow_mod, ← Nat.pow_two, ← Nat.pow_mul]
  constructor
  · intro h
    rw [Nat.mul_mod, Nat.mod_mod, hsq, ← Nat.mul_mod, Nat.mul_assoc, ← Nat.pow_succ', show (2 * (y / 2)).succ = y by omega]
  · intro h
    rw [Nat.mul_mod, hsq, ← Nat.mul_mod, show 2 * (y / 2) = y by omega]

set_option maxRecDepth 100000 in
set_option maxHeartbeats 1000000 in
theorem power_any (N a b : Nat) (w : World) (h1 : 2 ≤ N) (h2 : N < 2305843009213693952) (ha : a < N) (hb : b < 18446744073709551616) :
    Calls Tryz.prog 140 #[.int .i64 N, .int .u64 a, .int .u64 b] w fun e w' => e = .returned (.int .u64 ((a ^ b % N : Nat) : Int)) ∧ Kept [] w w' := by
  obtain ⟨T, hT⟩ : ∃ T, a ^ b % N = T := ⟨_, rfl⟩
  rw [hT]
  have hz' : ¬ (N : Int) = 0 := by omega
  have e1 : (1 : Int) % (N : Int) = 1 := Int.emod_eq_of_lt (by omega) (by omega)
  have h0 : 1 * a ^ b % N = T := by rw [Nat.one_mul]; exact hT
  have H0 := Lib.hid h0
  clear h0 hT
  go_enter Tryz.func140, Tryz.ntmps140
  go_wp2_with fail
  simp only [e1]
  go_loopw [1, 2, 7] (fun va vb vo wr => ∃ x y o : Nat, va = .int .u64 x ∧ vb = .int .u64 y ∧ vo = .int .u64 o ∧ x < N ∧ y < 18446744073709551616 ∧ o < N ∧ o * x ^ y % N = T ∧ Kept [] w wr) (fun _ vb _ _ => (intOf vb).toNat)
  case atStart => exact ⟨a, b, 1, rfl, rfl, rfl, ha, hb, by omega, H0.out, Kept.refl _ _⟩
  case round =>
    obtain ⟨x, y, o, rfl, rfl, rfl, hx, hy, ho, hr, hk⟩ := hrel
    obtain ⟨s1, s2⟩ := pow_step N o x y
    have PS := Lib.hid (fun wr => product_any N x x wr (by omega) h2 hx hx)
    have PO := Lib.hid (fun wr => product_any N o x wr (by omega) h2 ho hx)
    have hand := and_one y hy
    have HR := Lib.hid hr
    have S1 := Lib.hid s1
    have S2 := Lib.hid s2
    have lo : o * x % N < N := Nat.mod_lt _ (by omega)
    have lx : x * x % N < N := Nat.mod_lt _ (by omega)
    obtain ⟨X, hX⟩ : ∃ X, x * x % N = X := ⟨_, rfl⟩
    obtain ⟨O, hO⟩ : ∃ O, o * x % N = O := ⟨_, rfl⟩
    rw [hX] at PS S1 S2 lx
    rw [hO] at PO S1 lo
    clear s1 s2 hr hX hO
    by_cases hy0 : y = 0
    · subst hy0
      have hd : decide ((0 : Int) < 0) = false := by decide
      have hT : o = T := by
        have := HR.out
        rw [Nat.pow_zero, Nat.mul_one, Nat.mod_eq_of_lt ho] at this
        exact this
      clear hand
      go_wp2_with fail
      go_ret
      exact ⟨rfl, hk⟩
    · have hd : decide ((0 : Int) < (y : Int)) = true := by simp; omega
      rcases Nat.mod_two_eq_zero_or_one y with h2' | h2'
      · rw [h2'] at hand
        have hn := S2.out h2'
        rw [HR.out] at hn
        have HN := Lib.hid hn
        clear hn
        have hand' : bits .and .u64 (y : Int) 1 = 0 := hand
        clear hand
        go_wp2_with (go_at_call 142; with_reducible refine (PS.out _).mono ?_)
        rintro e w1 ⟨rfl, hk1⟩
        go_wp2_with fail
        go_roundw
        case rel => exact ⟨X, y / 2, o, rfl, rfl, rfl, lx, by omega, ho, HN.out, hk.trans hk1⟩
        case measure => simp [intOf]; omega
      · rw [h2'] at hand
        have hn := S1.out h2'
        rw [HR.out] at hn
        have HN := Lib.hid hn
        clear hn
        have hand' : bits .and .u64 (y : Int) 1 = 1 := hand
        clear hand
        go_wp2_with (go_at_call 142; with_reducible refine (PO.out _).mono ?_)
        rintro e w1 ⟨rfl, hk1⟩
        go_wp2_with (go_at_call 142; with_reducible refine (PS.out _).mono ?_)
        rintro e w2 ⟨rfl, hk2⟩
        go_wp2_with fail
        go_roundw
        case rel => exact ⟨X, y / 2, O, rfl, rfl, rfl, lx, by omega, lo, HN.out, (hk.trans hk1).trans hk2⟩
        case measure => simp [intOf]; omega

def powN (N : Nat) (a : Int) (b : Nat) : Nat := res N a ^ b % N

set_option maxRecDepth 100000 in
set_option maxHeartbeats 800000 in
theorem fpow_any (N : Nat) (a : Int) (b : Nat) (w : World) (h1 : 2 ≤ N) (h2 : N < 2305843009213693952) (ha : Wire.I64 a) (hb : b < 9223372036854775808) :
    Calls Tryz.prog 146 #[.int .i64 N, .int .i64 a, .int .i64 b] w fun e w' => e = .returned (.int .i64 ((powN N a b : Nat) : Int)) ∧ Kept [] w w' := by
  have V := Lib.hid (fvalid_any N w (by omega) h2)
  have HA := Lib.hid (residue_any N a w (by omega) h2 ha)
  have l1 := res_lt N a (by omega)
  unfold powN
  obtain ⟨x, hx⟩ : ∃ x, res N a = x := ⟨_, rfl⟩
  rw [hx] at HA l1 ⊢
  have HP := Lib.hid (power_any N x b w h1 h2 l1 (by omega))
  have q4 : x ^ b % N < N := Nat.mod_lt _ (by omega)
  obtain ⟨p, hp⟩ : ∃ p, x ^ b % N = p := ⟨_, rfl⟩
  rw [hp] at HP q4 ⊢
  have hge : decide ((0 : Int) ≤ (b : Int)) = true := by simp
  clear hx hp
  go_enter Tryz.func146, Tryz.ntmps146
  go_wp2_with (first
    | (go_at_call 91; refine V.out.mono ?_; rintro e w' ⟨rfl, rfl⟩)
    | (go_at_call 141; refine HA.out.mono ?_; rintro e w' ⟨rfl, rfl⟩)
    | (go_at_call 140; refine HP.out.mono ?_; rintro e w1 ⟨rfl, hk⟩))
  go_ret
  exact ⟨rfl, hk⟩

/-! ### the example's group: 23, 11, 4 -/
end Go.Proofs.YtcidfldeiklcjaaGreatDoor
/- The table of trailing zeros, as every contract that needs it takes it. -/
namespace Go.Proofs.YtcidfldeiklcjaaGreatDoor
open Go.RowKit

def db64L : List Int := Lib.deBruijn64tab.map Int.ofNat
theorem g_db64 : Tryz.prog.globalNamed "math/bits.deBruijn64tab" = some 2 := by kernel_rfl

structure Env2 (w : World) : Prop extends Env w where
  tab : Lib.TabIs Tryz.prog w "math/bits.deBruijn64tab" .u8 db64L

theorem Env2.kept0 {w w' : World} (hE : Env2 w) (h : Kept [] w w') : Env2 w' := ⟨hE.toEnv.kept0 h, var_kept g_db64 h (by simp) hE.tab⟩
theorem Env2.alloc {w : World} (hE : Env2 w) (o : Obj) : Env2 (w.alloc o) := hE.kept0 ((Kept.refl _ _).alloc o)

theorem tab_cell {w : World} (hE : Env2 w) (i : Nat) (hi : i < 64) : w.cell? ⟨2, i, none⟩ = some (.int .u8 ((Lib.deBruijn64tab.getD i 0 : Nat) : Int)) := by
  have hl : db64L.length = 64 := by decide
  have h := Lib.TabIs.cell hE.tab g_db64 i (by omega)
  rw [h]
  congr 2
  unfold db64L
  rw [List.getD_eq_getElem?_getD, List.getD_eq_getElem?_getD, List.getElem?_map]
  cases Lib.deBruijn64tab[i]? <;> rfl

set_option maxRecDepth 100000 in
set_option maxHeartbeats 1000000 in
theorem tz64_any (x : Nat) (w : World) (h0 : x ≠ 0) (hx : x < 18446744073709551616) (hE : Env2 w) :
    Calls Tryz.prog 216 #[.int .u64 x] w fun e w' => e = .returned (.int .i64 ((Lib.ctz 64 x : Nat) : Int)) ∧ w = w' := by
  obtain ⟨hlow, hk⟩ := Lib.lowest_bit 64 x h0 hx
  obtain ⟨hi, htab⟩ := Lib.deBruijn64_at _ hk
  have hcell := tab_cell hE _ hi
  rw [htab] at hcell
  have key := tz64_key x _ hx h0 hlow
  have hx0 : ((x : Int) == 0) = false := by simp; omega
  obtain ⟨k, hk'⟩ : ∃ k, Lib.ctz 64 x = k := ⟨_, rfl⟩
  rw [hk'] at hcell key hi hk ⊢
  obtain ⟨idx, hidx⟩ : ∃ i, 2 ^ k * 285870213051353865 % 18446744073709551616 / 288230376151711744 = i := ⟨_, rfl⟩
  rw [hidx] at hcell key hi
  clear hidx htab hlow hk'
  go_enter Tryz.func216, Tryz.ntmps216
  go_wp2_with (simp only [key])
  go_ret
  exact ⟨rfl, rfl⟩
end Go.Proofs.YtcidfldeiklcjaaGreatDoor
/- The primality test of twelve bases as a function of numbers. -/
namespace Go.Prm
open Go.Lib

def small : List Nat := [2, 3, 5, 7, 11, 13, 17, 19, 23, 29, 31, 37]
def goes (n x : Nat) : Nat → Bool
  | 0 => false
  | k + 1 => x == n - 1 || goes n (x * x % n) k
/-- a base accepts the number -/
def passes (n b : Nat) : Bool :=
  b ^ ((n - 1) / 2 ^ ctz 64 (n - 1)) % n == 1 || goes n (b ^ ((n - 1) / 2 ^ ctz 64 (n - 1)) % n) (ctz 64 (n - 1))
def at_ (j : Nat) : Nat := small.getD j 0
def hits (n j : Nat) : Bool := n % at_ j == 0
def primeN (n : Nat) : Bool :=
  match (List.range 12).find? (hits n) with
  | some j => n == at_ j
  | none => (List.range 12).all fun j => passes n (at_ j)
theorem at_lt {j : Nat} (h : j < 12) : 2 ≤ at_ j ∧ at_ j ≤ 37 := by
  have : ∀ j < 12, 2 ≤ at_ j ∧ at_ j ≤ 37 := by decide
  exact this j h

theorem find_range {p : Nat → Bool} : ∀ (n k : Nat), k < n → (∀ j, j < k → p j = false) → p k = true → (List.range n).find? p = some k := by
  intro n k hk h1 h2
  rw [List.find?_range_eq_some]
  exact ⟨h2, List.mem_range.2 hk, fun j hj => by simp [h1 j hj]⟩
theorem primeN_hit {n k : Nat} (hk : k < 12) (h1 : ∀ j, j < k → hits n j = false) (h2 : hits n k = true) : primeN n = (n == at_ k) := by
  unfold primeN
  rw [find_range 12 k hk h1 h2]
theorem primeN_none {n : Nat} (h1 : ∀ j, j < 12 → hits n j = false) : primeN n = (List.range 12).all fun j => passes n (at_ j) := by
  unfold primeN
  rw [show (List.range 12).find? (hits n) = none from List.find?_eq_none.2 fun j hj => by simp [h1 j (List.mem_range.1 hj)]]
theorem primeN_bad {n k : Nat} (h1 : ∀ j, j < 12 → hits n j = false) (hk : k < 12) (h : passes n (at_ k) = false) : primeN n = false := by
  rw [primeN_none h1, List.all_eq_false]
  exact ⟨k, List.mem_range.2 hk, by simp [h]⟩
theorem primeN_all {n : Nat} (h1 : ∀ j, j < 12 → hits n j = false) (h : ∀ j, j < 12 → passes n (at_ j) = true) : primeN n = true := by
  rw [primeN_none h1, List.all_eq_true]
  exact fun j hj => h j (List.mem_range.1 hj)
theorem no_hits {n : Nat} (h1 : ∀ j, j < 12 → hits n j = false) (h2 : 2 ≤ n) : 37 < n := by
  have h : n ≤ 37 → False := by
    intro hn
    have key : ∀ n, n ≤ 37 → 2 ≤ n → ∃ j, j < 12 ∧ hits n j = true := by decide
    obtain ⟨j, hj, hh⟩ := key n hn h2
    rw [h1 j hj] at hh
    cases hh
  exact Nat.lt_of_not_le h
end Go.Prm
namespace Go.Proofs.YtcidfldeiklcjaaGreatDoor
open Go.RowKit

theorem goes_hit {n x k : Nat} (h : x = n - 1) : Prm.goes n x (k + 1) = true := by simp [Prm.goes, h]
theorem goes_step {n x k : Nat} (h : x ≠ n - 1) : Prm.goes n x (k + 1) = Prm.goes n (x * x % n) k := by simp [Prm.goes, h]

set_option maxRecDepth 100000 in
set_option maxHeartbeats 1000000 in
theorem witness_any (N b : Nat) (w : World) (h1 : 2 ≤ N) (h2 : N < 2305843009213693952) (hb : b < N) (hE : Env2 w) :
    Calls Tryz.prog 186 #[.int .i64 N, .int .u64 b] w fun e w' => e = .returned (.bool (!Prm.passes N b)) ∧ Kept [] w w' := by
  obtain ⟨m, rfl⟩ : ∃ m, N = m + 1 := ⟨N - 1, by omega⟩
  have TZ := Lib.hid (tz64_any m w (by omega) (by omega) hE)
  unfold Prm.passes
  rw [Nat.add_sub_cancel]
  have hk64 := (Lib.lowest_bit 64 m (by omega) (by omega)).2
  obtain ⟨K, hK⟩ : ∃ K, Lib.ctz 64 m = K := ⟨_, rfl⟩
  rw [hK] at TZ hk64 ⊢
  obtain ⟨D, hD⟩ : ∃ D, m / 2 ^ K = D := ⟨_, rfl⟩
  have iD : (m : Int) / 2 ^ K = (D : Int) := by rw [← hD]; simp
  have lD : D < 18446744073709551616 := by rw [← hD]; exact Nat.lt_of_le_of_lt (Nat.div_le_self _ _) (by omega)
  rw [hD]
  have PW := Lib.hid (power_any (m + 1) b D w h1 h2 hb lD)
  have lx : b ^ D % (m + 1) < m + 1 := Nat.mod_lt _ (by omega)
  obtain ⟨x0, hx0⟩ : ∃ x, b ^ D % (m + 1) = x := ⟨_, rfl⟩
  rw [hx0] at PW lx ⊢
  obtain ⟨G, hG⟩ : ∃ G, Prm.goes (m + 1) x0 K = G := ⟨_, rfl⟩
  rw [hG]
  have HG := Lib.hid hG
  rw [Int.natCast_add, Int.natCast_one] at PW ⊢
  have hm63 : m < 9223372036854775808 := by omega
  clear hK hD hx0 hG
  by_cases h11 : x0 = 1
  · subst h11
    go_enter Tryz.func186, Tryz.ntmps186
    go_wp2_with (first
      | (go_at_call 216; refine TZ.out.mono ?_; rintro e w' ⟨rfl, rfl⟩)
      | (go_at_call 140; refine PW.out.mono ?_; rintro e w1 ⟨rfl, hk⟩))
    go_ret
    exact ⟨by simp, hk⟩
  · have hd1 : ((x0 : Int) == 1) = false := by simp; omega
    go_enter Tryz.func186, Tryz.ntmps186
    go_wp2_with (first
      | (go_at_call 216; refine TZ.out.mono ?_; rintro e w' ⟨rfl, rfl⟩)
      | (go_at_call 140; refine PW.out.mono ?_; rintro e w1 ⟨rfl, hk⟩))
    go_loopw [6, 22] (fun vx vi wr => ∃ i x : Nat, i ≤ K ∧ vi = .int .i64 i ∧ vx = .int .u64 x ∧ x < m + 1 ∧ Prm.goes (m + 1) x (K - i) = G ∧ Kept [] w wr) (fun _ vi _ => K - (intOf vi).toNat)
    case atStart => exact ⟨0, x0, by omega, rfl, rfl, lx, HG.out, hk⟩
    case round =>
      obtain ⟨i, x, hi, rfl, rfl, hx, hr, hkr⟩ := hrel
      by_cases hlt : i < K
      · obtain ⟨j, hj⟩ : ∃ j, K - i = j + 1 := ⟨K - i - 1, by omega⟩
        rw [hj] at hr
        by_cases he : x = m
        · subst he
          rw [goes_hit (by omega)] at hr
          subst hr
          go_wp2_with fail
          go_ret
          exact ⟨by simp, hkr⟩
        · have hd : ((x : Int) == (m : Int)) = false := by simp; omega
          rw [goes_step (by omega)] at hr
          have PS := Lib.hid (product_any (m + 1) x x wr (by omega) h2 hx hx)
          have lz : x * x % (m + 1) < m + 1 := Nat.mod_lt _ (by omega)
          obtain ⟨z, hz⟩ : ∃ z, x * x % (m + 1) = z := ⟨_, rfl⟩
          rw [hz] at PS lz hr
          rw [Int.natCast_add, Int.natCast_one] at PS
          have HR := Lib.hid hr
          clear hr hz
          go_wp2_with (go_at_call 142; refine PS.out.mono ?_; rintro e w2 ⟨rfl, hk2⟩)
          go_roundw
          case rel => exact ⟨i + 1, z, by omega, by go_num, rfl, lz, by rw [show K - (i + 1) = j by omega]; exact HR.out, hkr.trans hk2⟩
          case measure => simp [intOf]; omega
      · obtain rfl : i = K := by omega
        rw [Nat.sub_self] at hr
        have hr' : false = G := hr
        subst hr'
        go_wp2_with fail
        go_ret
        refine ⟨?_, hkr⟩
        have : (x0 == 1) = false := by simp; omega
        rw [this]
        rfl

theorem beq_cast (a b : Nat) : ((a : Int) == (b : Int)) = (a == b) := by
  rw [Bool.eq_iff_iff, beq_iff_eq, beq_iff_eq, Int.natCast_inj]

def smallV : Array Value := #[.int .i64 2, .int .i64 3, .int .i64 5, .int .i64 7, .int .i64 11, .int .i64 13, .int .i64 17, .int .i64 19, .int .i64 23, .int .i64 29, .int .i64 31, .int .i64 37]
theorem ixs (k : Nat) (hk : k < 12) (w : World) : (Instr.index 223 (.agg #[.int .i64 2, .int .i64 3, .int .i64 5, .int .i64 7, .int .i64 11, .int .i64 13, .int .i64 17, .int .i64 19, .int .i64 23, .int .i64 29, .int .i64 31, .int .i64 37]) (.int .i64 k)).run Tryz.prog w = .ok (.int .i64 (Prm.at_ k)) w := by
  rcases (by omega : k = 0 ∨ k = 1 ∨ k = 2 ∨ k = 3 ∨ k = 4 ∨ k = 5 ∨ k = 6 ∨ k = 7 ∨ k = 8 ∨ k = 9 ∨ k = 10 ∨ k = 11) with rfl | rfl | rfl | rfl | rfl | rfl | rfl | rfl | rfl | rfl | rfl | rfl <;> kernel_rfl

set_option maxRecDepth 100000 in
set_option maxHeartbeats 1600000 in
theorem prime_any (N : Nat) (w : World) (h1 : 2 ≤ N) (h2 : N < 2305843009213693952) (hE : Env2 w) :
    Calls Tryz.prog 145 #[.int .i64 N] w fun e w' => e = .returned (.bool (Prm.primeN N)) ∧ Kept [] w w' := by
  have hE0 : Env2 (w.alloc (.cells smallV 223)) := hE.alloc _
  obtain ⟨B, hB⟩ : ∃ B, Prm.primeN N = B := ⟨_, rfl⟩
  rw [hB]
  have HB := Lib.hid hB
  clear hB
  go_enter Tryz.func145, Tryz.ntmps145
  go_wp2_with fail
  go_loop [5, 16] (fun _ i => ∃ k : Nat, k ≤ 12 ∧ i = .int .i64 k ∧ ∀ j, j < k → Prm.hits N j = false) (fun _ i => 12 - (intOf i).toNat)
  case atStart => exact ⟨0, by omega, rfl, fun j hj => by omega⟩
  case round =>
    obtain ⟨k, hk, rfl, hm⟩ := hrel
    have HM := Lib.hid hm
    clear hm
    by_cases hlt : k < 12
    · have ik := ixs k hlt
      obtain ⟨p1, p2⟩ := Prm.at_lt hlt
      have hits : Prm.hits N k = decide (N % Prm.at_ k = 0) := rfl
      obtain ⟨p, hp⟩ : ∃ p, Prm.at_ k = p := ⟨_, rfl⟩
      have HP := Lib.hid hp
      rw [hp] at ik p1 p2 hits
      have hpz : ¬ (p : Int) = 0 := by omega
      clear hp
      by_cases hh : N % p = 0
      · have hd : ((N : Int) % (p : Int) == 0) = true := by simp; omega
        have hB := HB.out
        rw [Prm.primeN_hit hlt HM.out (by rw [hits]; simpa using hh), HP.out] at hB
        have HBB := Lib.hid hB
        clear hB hits
        go_wp2_with fail
        go_ret
        exact ⟨by rw [← HBB.out, ← beq_cast]; rfl, (Kept.refl _ _).alloc _⟩
      · have hd : ((N : Int) % (p : Int) == 0) = false := by simp; omega
        have hno : Prm.hits N k = false := by rw [hits]; simpa using hh
        have HN := Lib.hid hno
        clear hno hits
        go_wp2_with fail
        go_round
        case rel => exact ⟨k + 1, by omega, by go_num, fun j hj => by
          rcases Nat.lt_or_ge j k with h | h
          · exact HM.out j h
          · obtain rfl : j = k := by omega
            exact HN.out⟩
        case measure => simp [intOf]; omega
    · obtain rfl : k = 12 := by omega
      have h37 := Prm.no_hits HM.out h1
      go_wp2_with fail
      go_loopw [7, 28] (fun _ i wr => ∃ k : Nat, k ≤ 12 ∧ i = .int .i64 k ∧ (∀ j, j < k → Prm.passes N (Prm.at_ j) = true) ∧ Kept [] (w.alloc (.cells smallV 223)) wr) (fun _ i _ => 12 - (intOf i).toNat)
      case atStart => exact ⟨0, by omega, rfl, fun j hj => by omega, Kept.refl _ _⟩
      case round =>
        obtain ⟨k, hk, rfl, hm, hkr⟩ := hrel
        have HQ := Lib.hid hm
        clear hm
        by_cases hlt : k < 12
        · have ik := ixs k hlt
          obtain ⟨p1, p2⟩ := Prm.at_lt hlt
          have W := Lib.hid (witness_any N (Prm.at_ k) wr h1 h2 (by omega) (hE0.kept0 hkr))
          have AB := Lib.hid (fun h => Prm.primeN_bad (n := N) (k := k) HM.out hlt h)
          have AG : Hid (Prm.passes N (Prm.at_ k) = true → ∀ j, j < k + 1 → Prm.passes N (Prm.at_ j) = true) := fun h j hj => by
            rcases Nat.lt_or_ge j k with h' | h'
            · exact HQ.out j h'
            · obtain rfl : j = k := by omega
              exact h
          obtain ⟨t, ht⟩ : ∃ t, Prm.passes N (Prm.at_ k) = t := ⟨_, rfl⟩
          rw [ht] at W AB AG
          obtain ⟨p, hp⟩ : ∃ p, Prm.at_ k = p := ⟨_, rfl⟩
          rw [hp] at ik p1 p2 W
          clear hp ht
          cases t
          · have hB := HB.out
            rw [AB.out rfl] at hB
            have HBB := Lib.hid hB
            clear hB
            go_wp2_with (go_at_call 186; refine W.out.mono ?_; rintro e w2 ⟨rfl, hk2⟩)
            go_ret
            exact ⟨by rw [← HBB.out]; rfl, ((Kept.refl _ _).alloc _).trans (hkr.trans hk2)⟩
          · go_wp2_with (go_at_call 186; refine W.out.mono ?_; rintro e w2 ⟨rfl, hk2⟩)
            go_roundw
            case rel => exact ⟨k + 1, by omega, by go_num, AG.out (by first | trivial | rfl), hkr.trans hk2⟩
            case measure => simp [intOf]; omega
        · obtain rfl : k = 12 := by omega
          have hB := HB.out
          rw [Prm.primeN_all HM.out HQ.out] at hB
          have HBB := Lib.hid hB
          clear hB
          go_wp2_with fail
          go_ret
          exact ⟨by rw [← HBB.out]; rfl, ((Kept.refl _ _).alloc _).trans hkr⟩
end Go.Proofs.YtcidfldeiklcjaaGreatDoor
