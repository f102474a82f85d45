/- The example's group: ValidGroup, Element, Power, Product. -/
import Derived.Test.YtabiklpemoijcaaGreatDoorStat
import Derived.LoopTactic
import Derived.Laws.Bits64b
/- JOINED: Fld1 Fld2 Fld3 Fld4 -/
/- Arithmetic modulo a small number: valid, residue, product, power, Add, Sub, Mul, Pow. -/
namespace Go.Proofs.YtabiklpemoijcaaGreatDoor
open Go.RowKit

set_option maxHeartbeats 400000 in
theorem fvalid_any (N : Nat) (w : World) (h1 : 1 ≤ N) (h2 : N < 2147483648) :
    Calls Tryz.prog 97 #[.int .i64 N] w fun e w' => e = .returned (.bool true) ∧ w = w' := by
  go_enter Tryz.func97, Tryz.ntmps97
  go_wp2
  go_ret
  exact ⟨by simp; omega, rfl⟩

theorem tmod_emod (a n : Int) (h : 1 ≤ n) : (a.tmod n < 0 → a.tmod n + n = a % n) ∧ (¬ a.tmod n < 0 → a.tmod n = a % n) := by
  rw [Int.tmod_eq_emod]
  have h1 := Int.emod_nonneg a (show n ≠ 0 by omega)
  have h2 := Int.emod_lt_of_pos a (show 0 < n by omega)
  have h3 : (n.natAbs : Int) = n := by omega
  split
  · exact ⟨fun h => by omega, fun _ => by omega⟩
  · exact ⟨fun _ => by omega, fun h => by omega⟩

/-- the residue -/
def res (N : Nat) (a : Int) : Nat := (a % (N : Int)).toNat
theorem res_eq (N : Nat) (a : Int) (h1 : 1 ≤ N) : ((res N a : Nat) : Int) = a % (N : Int) := Int.toNat_of_nonneg (Int.emod_nonneg a (by omega))
theorem res_lt (N : Nat) (a : Int) (h1 : 1 ≤ N) : res N a < N := by
  have := Int.emod_lt_of_pos a (show (0 : Int) < N by omega)
  have := res_eq N a h1
  omega

set_option maxHeartbeats 800000 in
theorem residue_any (N : Nat) (a : Int) (w : World) (h1 : 1 ≤ N) (h2 : N < 2147483648) (ha : Wire.I64 a) :
    Calls Tryz.prog 98 #[.int .i64 N, .int .i64 a] w fun e w' => e = .returned (.int .u64 ((res N a : Nat) : Int)) ∧ w = w' := by
  obtain ⟨a1, a2⟩ := ha
  obtain ⟨t1, t2⟩ := tmod_emod a N (by omega)
  have e0 := res_eq N a h1
  have e1 := res_lt N a h1
  have hn0 : ((N : Int) == 0) = false := by simp; omega
  obtain ⟨r, hr⟩ : ∃ r, res N a = r := ⟨_, rfl⟩
  rw [hr] at e0 e1 ⊢
  rw [← e0] at t1 t2
  obtain ⟨t, ht⟩ : ∃ t, a.tmod N = t := ⟨_, rfl⟩
  rw [ht] at t1 t2
  by_cases hneg : t < 0
  · have e2 := t1 hneg
    have hd : decide (t < 0) = true := by simpa using hneg
    go_enter Tryz.func98, Tryz.ntmps98
    go_wp2
    go_ret
    exact ⟨rfl, rfl⟩
  · have e2 := t2 hneg
    have hd : decide (t < 0) = false := by simpa using hneg
    go_enter Tryz.func98, Tryz.ntmps98
    go_wp2
    go_ret
    exact ⟨rfl, rfl⟩

set_option maxRecDepth 100000 in
set_option maxHeartbeats 800000 in
theorem div64_low (x y : Nat) (w : World) (hx : x < 18446744073709551616) (hy : y < 18446744073709551616) (h0 : 0 < y) :
    Calls Tryz.prog 210 #[.int .u64 0, .int .u64 x, .int .u64 y] w fun e w' => e = .returned (.tuple #[.int .u64 ((x / y : Nat) : Int), .int .u64 ((x % y : Nat) : Int)]) ∧ Kept [] w w' := by
  have hz : ((y : Int) == 0) = false := by simp; omega
  have hle : decide ((y : Int) ≤ 0) = false := by simp; omega
  have hz' : ¬ (y : Int) = 0 := by omega
  have q3 : (x : Int) / (y : Int) ≤ x := Int.ediv_le_self _ (by omega)
  have q5 : 0 ≤ (x : Int) / (y : Int) := Int.ediv_nonneg (by omega) (by omega)
  have q4 : (x : Int) % (y : Int) < y := Int.emod_lt_of_pos _ (by omega)
  have q6 : 0 ≤ (x : Int) % (y : Int) := Int.emod_nonneg _ (by omega)
  go_enter Tryz.func210, Tryz.ntmps210
  go_wp2_with fail
  go_region
  go_wp2_with fail
  go_ret2
  exact ⟨rfl, (Kept.refl _ _).drewN _⟩

set_option maxHeartbeats 800000 in
theorem rem64_low (x y : Nat) (w : World) (hx : x < 18446744073709551616) (hy : y < 18446744073709551616) (h0 : 0 < y) :
    Calls Tryz.prog 176 #[.int .u64 0, .int .u64 x, .int .u64 y] w fun e w' => e = .returned (.int .u64 ((x % y : Nat) : Int)) ∧ Kept [] w w' := by
  have hz' : ¬ (y : Int) = 0 := by omega
  have hm : (0 : Int) % (y : Int) = 0 := Int.zero_emod _
  have H := Lib.hid (div64_low x y w hx hy h0)
  go_enter Tryz.func176, Tryz.ntmps176
  go_wp2_with (go_at_call 210; refine H.out.mono ?_; rintro e w1 ⟨rfl, hk⟩)
  go_ret
  exact ⟨rfl, hk⟩

set_option maxHeartbeats 800000 in
theorem product_any (N x y : Nat) (w : World) (h1 : 1 ≤ N) (h2 : N < 2147483648) (hx : x < N) (hy : y < N) :
    Calls Tryz.prog 99 #[.int .i64 N, .int .u64 x, .int .u64 y] w fun e w' => e = .returned (.int .u64 ((x * y % N : Nat) : Int)) ∧ Kept [] w w' := by
  have hp : x * y < 18446744073709551616 := by
    have : x * y ≤ 2147483648 * 2147483648 := Nat.mul_le_mul (by omega) (by omega)
    omega
  have hm := Tryz.bits_Mul64 x y (by omega) (by omega) w
  have e1 : x * y / 18446744073709551616 = 0 := Nat.div_eq_of_lt hp
  have e2 : x * y % 18446744073709551616 = x * y := Nat.mod_eq_of_lt hp
  rw [e1, e2] at hm
  have HM := Lib.hid hm
  have H := Lib.hid (rem64_low (x * y) N w hp (by omega) (by omega))
  obtain ⟨z, hz⟩ : ∃ z, x * y = z := ⟨_, rfl⟩
  rw [hz] at HM H hp ⊢
  obtain ⟨r, hr⟩ : ∃ r, z % N = r := ⟨_, rfl⟩
  rw [hr] at H ⊢
  clear hm e1 e2 hz hr
  go_enter Tryz.func99, Tryz.ntmps99
  go_wp2_with (first
    | (go_at_call 175; refine HM.out.mono ?_; rintro e w1 ⟨rfl, hw⟩; rw [hw])
    | (go_at_call 176; refine H.out.mono ?_; rintro e w1 ⟨rfl, hk⟩))
  go_ret
  exact ⟨rfl, hk⟩

end Go.Proofs.YtabiklpemoijcaaGreatDoor
/- Add, Sub, Mul, power, Pow modulo a small number. -/
namespace Go.Proofs.YtabiklpemoijcaaGreatDoor
open Go.RowKit

def addN (N : Nat) (a b : Int) : Nat := (res N a + res N b) % N
def subN (N : Nat) (a b : Int) : Nat := (res N a + N - res N b) % N
def mulN (N : Nat) (a b : Int) : Nat := res N a * res N b % N

set_option maxRecDepth 100000 in
set_option maxHeartbeats 800000 in
theorem fadd_any (N : Nat) (a b : Int) (w : World) (h1 : 1 ≤ N) (h2 : N < 2147483648) (ha : Wire.I64 a) (hb : Wire.I64 b) :
    Calls Tryz.prog 32 #[.int .i64 N, .int .i64 a, .int .i64 b] w fun e w' => e = .returned (.int .i64 ((addN N a b : Nat) : Int)) ∧ Kept [] w w' := by
  have V := Lib.hid (fvalid_any N w h1 h2)
  have HA := Lib.hid (residue_any N a w h1 h2 ha)
  have HB := Lib.hid (residue_any N b w h1 h2 hb)
  have l1 := res_lt N a h1
  have l2 := res_lt N b h1
  have hz' : ¬ (N : Int) = 0 := by omega
  unfold addN
  obtain ⟨x, hx⟩ : ∃ x, res N a = x := ⟨_, rfl⟩
  obtain ⟨y, hy⟩ : ∃ y, res N b = y := ⟨_, rfl⟩
  rw [hx] at HA l1 ⊢
  rw [hy] at HB l2 ⊢
  have q4 : ((x : Int) + (y : Int)) % (N : Int) < N := Int.emod_lt_of_pos _ (by omega)
  have q6 : 0 ≤ ((x : Int) + (y : Int)) % (N : Int) := Int.emod_nonneg _ (by omega)
  clear hx hy
  go_enter Tryz.func32, Tryz.ntmps32
  go_wp2_with (first
    | (go_at_call 97; refine V.out.mono ?_; rintro e w' ⟨rfl, rfl⟩)
    | (go_at_call 98; with_reducible refine HA.out.mono ?_; rintro e w' ⟨rfl, rfl⟩)
    | (go_at_call 98; with_reducible refine HB.out.mono ?_; rintro e w' ⟨rfl, rfl⟩))
  go_ret
  exact ⟨rfl, Kept.refl _ _⟩

set_option maxRecDepth 100000 in
set_option maxHeartbeats 800000 in
theorem fsub_any (N : Nat) (a b : Int) (w : World) (h1 : 1 ≤ N) (h2 : N < 2147483648) (ha : Wire.I64 a) (hb : Wire.I64 b) :
    Calls Tryz.prog 34 #[.int .i64 N, .int .i64 a, .int .i64 b] w fun e w' => e = .returned (.int .i64 ((subN N a b : Nat) : Int)) ∧ Kept [] w w' := by
  have V := Lib.hid (fvalid_any N w h1 h2)
  have HA := Lib.hid (residue_any N a w h1 h2 ha)
  have HB := Lib.hid (residue_any N b w h1 h2 hb)
  have l1 := res_lt N a h1
  have l2 := res_lt N b h1
  have hz' : ¬ (N : Int) = 0 := by omega
  unfold subN
  obtain ⟨x, hx⟩ : ∃ x, res N a = x := ⟨_, rfl⟩
  obtain ⟨y, hy⟩ : ∃ y, res N b = y := ⟨_, rfl⟩
  rw [hx] at HA l1 ⊢
  rw [hy] at HB l2 ⊢
  have q4 : ((x : Int) + (N : Int) - (y : Int)) % (N : Int) < N := Int.emod_lt_of_pos _ (by omega)
  have q6 : 0 ≤ ((x : Int) + (N : Int) - (y : Int)) % (N : Int) := Int.emod_nonneg _ (by omega)
  clear hx hy
  go_enter Tryz.func34, Tryz.ntmps34
  go_wp2_with (first
    | (go_at_call 97; refine V.out.mono ?_; rintro e w' ⟨rfl, rfl⟩)
    | (go_at_call 98; with_reducible refine HA.out.mono ?_; rintro e w' ⟨rfl, rfl⟩)
    | (go_at_call 98; with_reducible refine HB.out.mono ?_; rintro e w' ⟨rfl, rfl⟩))
  go_ret
  refine ⟨?_, Kept.refl _ _⟩
  have e1 : (((x + N - y) % N : Nat) : Int) = ((x : Int) + (N : Int) - (y : Int)) % (N : Int) := by
    rw [Int.natCast_emod, show ((x + N - y : Nat) : Int) = (x : Int) + (N : Int) - (y : Int) by omega]
  rw [e1]
  rfl

set_option maxRecDepth 100000 in
set_option maxHeartbeats 800000 in
theorem fmul_any (N : Nat) (a b : Int) (w : World) (h1 : 1 ≤ N) (h2 : N < 2147483648) (ha : Wire.I64 a) (hb : Wire.I64 b) :
    Calls Tryz.prog 33 #[.int .i64 N, .int .i64 a, .int .i64 b] w fun e w' => e = .returned (.int .i64 ((mulN N a b : Nat) : Int)) ∧ Kept [] w w' := by
  have V := Lib.hid (fvalid_any N w h1 h2)
  have HA := Lib.hid (residue_any N a w h1 h2 ha)
  have HB := Lib.hid (residue_any N b w h1 h2 hb)
  have l1 := res_lt N a h1
  have l2 := res_lt N b h1
  unfold mulN
  obtain ⟨x, hx⟩ : ∃ x, res N a = x := ⟨_, rfl⟩
  obtain ⟨y, hy⟩ : ∃ y, res N b = y := ⟨_, rfl⟩
  rw [hx] at HA l1 ⊢
  rw [hy] at HB l2 ⊢
  have HP := Lib.hid (product_any N x y w h1 h2 l1 l2)
  have q4 : x * y % N < N := Nat.mod_lt _ (by omega)
  obtain ⟨p, hp⟩ : ∃ p, x * y % N = p := ⟨_, rfl⟩
  rw [hp] at HP q4 ⊢
  clear hx hy hp
  go_enter Tryz.func33, Tryz.ntmps33
  go_wp2_with (first
    | (go_at_call 97; refine V.out.mono ?_; rintro e w' ⟨rfl, rfl⟩)
    | (go_at_call 98; with_reducible refine HA.out.mono ?_; rintro e w' ⟨rfl, rfl⟩)
    | (go_at_call 98; with_reducible refine HB.out.mono ?_; rintro e w' ⟨rfl, rfl⟩)
    | (go_at_call 99; refine HP.out.mono ?_; rintro e w1 ⟨rfl, hk⟩))
  go_ret
  exact ⟨rfl, hk⟩
end Go.Proofs.YtabiklpemoijcaaGreatDoor
/- Powers modulo a small number: power, Pow. -/
namespace Go.Proofs.YtabiklpemoijcaaGreatDoor
open Go.RowKit

theorem and_one (y : Nat) (hy : y < 18446744073709551616) : bits .and .u64 (y : Int) 1 = ((y % 2 : Nat) : Int) := by
  have h := bits_and_u64_nat y 1 hy (by omega)
  rw [Nat.and_one_is_mod] at h
  exact h

theorem pow_step (N o x y : Nat) : (y % 2 = 1 → (o * x % N) * (x * x % N) ^ (y / 2) % N = o * x ^ y % N) ∧ (y % 2 = 0 → o * (x * x % N) ^ (y / 2) % N = o * x ^ y % N) := by
  have hsq : ∀ k, (x * x % N) ^ k % N = x ^ (2 * k) % N := by
    intro k
    rw [Nat.pow_mod, Nat.mod_mod, ← Nat.pow_mod, ← Nat.pow_two, ← Nat.pow_mul]
  constructor
  · intro h
    rw [Nat.mul_mod, Nat.mod_mod, hsq, ← Nat.mul_mod, Nat.mul_assoc, ← Nat.pow_succ', show (2 * (y / 2)).succ = y by omega]
  · intro h
    rw [Nat.mul_mod, hsq, ← Nat.mul_mod, show 2 * (y / 2) = y by omega]

set_option maxRecDepth 100000 in
set_option maxHeartbeats 1000000 in
theorem power_any (N a b : Nat) (w : World) (h1 : 2 ≤ N) (h2 : N < 2147483648) (ha : a < N) (hb : b < 18446744073709551616) :
    Calls Tryz.prog 170 #[.int .i64 N, .int .u64 a, .int .u64 b] w fun e w' => e = .returned (.int .u64 ((a ^ b % N : Nat) : Int)) ∧ Kept [] w w' := by
  obtain ⟨T, hT⟩ : ∃ T, a ^ b % N = T := ⟨_, rfl⟩
  rw [hT]
  have hz' : ¬ (N : Int) = 0 := by omega
  have e1 : (1 : Int) % (N : Int) = 1 := Int.emod_eq_of_lt (by omega) (by omega)
  have h0 : 1 * a ^ b % N = T := by rw [Nat.one_mul]; exact hT
  have H0 := Lib.hid h0
  clear h0 hT
  go_enter Tryz.func170, Tryz.ntmps170
  go_wp2_with fail
  simp only [e1]
  go_loopw [1, 2, 7] (fun va vb vo wr => ∃ x y o : Nat, va = .int .u64 x ∧ vb = .int .u64 y ∧ vo = .int .u64 o ∧ x < N ∧ y < 18446744073709551616 ∧ o < N ∧ o * x ^ y % N = T ∧ Kept [] w wr) (fun _ vb _ _ => (intOf vb).toNat)
  case atStart => exact ⟨a, b, 1, rfl, rfl, rfl, ha, hb, by omega, H0.out, Kept.refl _ _⟩
  case round =>
    obtain ⟨x, y, o, rfl, rfl, rfl, hx, hy, ho, hr, hk⟩ := hrel
    obtain ⟨s1, s2⟩ := pow_step N o x y
    have PS := Lib.hid (fun wr => product_any N x x wr (by omega) h2 hx hx)
    have PO := Lib.hid (fun wr => product_any N o x wr (by omega) h2 ho hx)
    have hand := and_one y hy
    have HR := Lib.hid hr
    have S1 := Lib.hid s1
    have S2 := Lib.hid s2
    have lo : o * x % N < N := Nat.mod_lt _ (by omega)
    have lx : x * x % N < N := Nat.mod_lt _ (by omega)
    obtain ⟨X, hX⟩ : ∃ X, x * x % N = X := ⟨_, rfl⟩
    obtain ⟨O, hO⟩ : ∃ O, o * x % N = O := ⟨_, rfl⟩
    rw [hX] at PS S1 S2 lx
    rw [hO] at PO S1 lo
    clear s1 s2 hr hX hO
    by_cases hy0 : y = 0
    · subst hy0
      have hd : decide ((0 : Int) < 0) = false := by decide
      have hT : o = T := by
        have := HR.out
        rw [Nat.pow_zero, Nat.mul_one, Nat.mod_eq_of_lt ho] at this
        exact this
      clear hand
      go_wp2_with fail
      go_ret
      exact ⟨rfl, hk⟩
    · have hd : decide ((0 : Int) < (y : Int)) = true := by simp; omega
      rcases Nat.mod_two_eq_zero_or_one y with h2' | h2'
      · rw [h2'] at hand
        have hn := S2.out h2'
        rw [HR.out] at hn
        have HN := Lib.hid hn
        clear hn
        have hand' : bits .and .u64 (y : Int) 1 = 0 := hand
        clear hand
        go_wp2_with (go_at_call 99; with_reducible refine (PS.out _).mono ?_)
        rintro e w1 ⟨rfl, hk1⟩
        go_wp2_with fail
        go_roundw
        case rel => exact ⟨X, y / 2, o, rfl, rfl, rfl, lx, by omega, ho, HN.out, hk.trans hk1⟩
        case measure => simp [intOf]; omega
      · rw [h2'] at hand
        have hn := S1.out h2'
        rw [HR.out] at hn
        have HN := Lib.hid hn
        clear hn
        have hand' : bits .and .u64 (y : Int) 1 = 1 := hand
        clear hand
        go_wp2_with (go_at_call 99; with_reducible refine (PO.out _).mono ?_)
        rintro e w1 ⟨rfl, hk1⟩
        go_wp2_with (go_at_call 99; with_reducible refine (PS.out _).mono ?_)
        rintro e w2 ⟨rfl, hk2⟩
        go_wp2_with fail
        go_roundw
        case rel => exact ⟨X, y / 2, O, rfl, rfl, rfl, lx, by omega, lo, HN.out, (hk.trans hk1).trans hk2⟩
        case measure => simp [intOf]; omega

def powN (N : Nat) (a : Int) (b : Nat) : Nat := res N a ^ b % N

set_option maxRecDepth 100000 in
set_option maxHeartbeats 800000 in
theorem fpow_any (N : Nat) (a : Int) (b : Nat) (w : World) (h1 : 2 ≤ N) (h2 : N < 2147483648) (ha : Wire.I64 a) (hb : b < 9223372036854775808) :
    Calls Tryz.prog 114 #[.int .i64 N, .int .i64 a, .int .i64 b] w fun e w' => e = .returned (.int .i64 ((powN N a b : Nat) : Int)) ∧ Kept [] w w' := by
  have V := Lib.hid (fvalid_any N w (by omega) h2)
  have HA := Lib.hid (residue_any N a w (by omega) h2 ha)
  have l1 := res_lt N a (by omega)
  unfold powN
  obtain ⟨x, hx⟩ : ∃ x, res N a = x := ⟨_, rfl⟩
  rw [hx] at HA l1 ⊢
  have HP := Lib.hid (power_any N x b w h1 h2 l1 (by omega))
  have q4 : x ^ b % N < N := Nat.mod_lt _ (by omega)
  obtain ⟨p, hp⟩ : ∃ p, x ^ b % N = p := ⟨_, rfl⟩
  rw [hp] at HP q4 ⊢
  have hge : decide ((0 : Int) ≤ (b : Int)) = true := by simp
  clear hx hp
  go_enter Tryz.func114, Tryz.ntmps114
  go_wp2_with (first
    | (go_at_call 97; refine V.out.mono ?_; rintro e w' ⟨rfl, rfl⟩)
    | (go_at_call 98; refine HA.out.mono ?_; rintro e w' ⟨rfl, rfl⟩)
    | (go_at_call 170; refine HP.out.mono ?_; rintro e w1 ⟨rfl, hk⟩))
  go_ret
  exact ⟨rfl, hk⟩

/-! ### the example's group: 23, 11, 4 -/
theorem ix0 (w : World) : (Instr.index 220 (.agg #[.int .i64 2, .int .i64 3, .int .i64 5, .int .i64 7, .int .i64 11, .int .i64 13, .int .i64 17, .int .i64 19, .int .i64 23, .int .i64 29, .int .i64 31, .int .i64 37]) (.int .i64 0)).run Tryz.prog w = .ok (.int .i64 2) w := by kernel_rfl
theorem ix1 (w : World) : (Instr.index 220 (.agg #[.int .i64 2, .int .i64 3, .int .i64 5, .int .i64 7, .int .i64 11, .int .i64 13, .int .i64 17, .int .i64 19, .int .i64 23, .int .i64 29, .int .i64 31, .int .i64 37]) (.int .i64 1)).run Tryz.prog w = .ok (.int .i64 3) w := by kernel_rfl
theorem ix2 (w : World) : (Instr.index 220 (.agg #[.int .i64 2, .int .i64 3, .int .i64 5, .int .i64 7, .int .i64 11, .int .i64 13, .int .i64 17, .int .i64 19, .int .i64 23, .int .i64 29, .int .i64 31, .int .i64 37]) (.int .i64 2)).run Tryz.prog w = .ok (.int .i64 5) w := by kernel_rfl
theorem ix3 (w : World) : (Instr.index 220 (.agg #[.int .i64 2, .int .i64 3, .int .i64 5, .int .i64 7, .int .i64 11, .int .i64 13, .int .i64 17, .int .i64 19, .int .i64 23, .int .i64 29, .int .i64 31, .int .i64 37]) (.int .i64 3)).run Tryz.prog w = .ok (.int .i64 7) w := by kernel_rfl
theorem ix4 (w : World) : (Instr.index 220 (.agg #[.int .i64 2, .int .i64 3, .int .i64 5, .int .i64 7, .int .i64 11, .int .i64 13, .int .i64 17, .int .i64 19, .int .i64 23, .int .i64 29, .int .i64 31, .int .i64 37]) (.int .i64 4)).run Tryz.prog w = .ok (.int .i64 11) w := by kernel_rfl
theorem ix5 (w : World) : (Instr.index 220 (.agg #[.int .i64 2, .int .i64 3, .int .i64 5, .int .i64 7, .int .i64 11, .int .i64 13, .int .i64 17, .int .i64 19, .int .i64 23, .int .i64 29, .int .i64 31, .int .i64 37]) (.int .i64 5)).run Tryz.prog w = .ok (.int .i64 13) w := by kernel_rfl
theorem ix6 (w : World) : (Instr.index 220 (.agg #[.int .i64 2, .int .i64 3, .int .i64 5, .int .i64 7, .int .i64 11, .int .i64 13, .int .i64 17, .int .i64 19, .int .i64 23, .int .i64 29, .int .i64 31, .int .i64 37]) (.int .i64 6)).run Tryz.prog w = .ok (.int .i64 17) w := by kernel_rfl
theorem ix7 (w : World) : (Instr.index 220 (.agg #[.int .i64 2, .int .i64 3, .int .i64 5, .int .i64 7, .int .i64 11, .int .i64 13, .int .i64 17, .int .i64 19, .int .i64 23, .int .i64 29, .int .i64 31, .int .i64 37]) (.int .i64 7)).run Tryz.prog w = .ok (.int .i64 19) w := by kernel_rfl
theorem ix8 (w : World) : (Instr.index 220 (.agg #[.int .i64 2, .int .i64 3, .int .i64 5, .int .i64 7, .int .i64 11, .int .i64 13, .int .i64 17, .int .i64 19, .int .i64 23, .int .i64 29, .int .i64 31, .int .i64 37]) (.int .i64 8)).run Tryz.prog w = .ok (.int .i64 23) w := by kernel_rfl

set_option maxRecDepth 100000 in
set_option maxHeartbeats 1000000 in
theorem prime_11 (w : World) : Calls Tryz.prog 168 #[.int .i64 11] w fun e w' => e = .returned (.bool true) ∧ Kept [] w w' := by
  have i0 := ix0
  have i1 := ix1
  have i2 := ix2
  have i3 := ix3
  have i4 := ix4
  go_enter Tryz.func168, Tryz.ntmps168
  go_wp2_with fail
  go_loop [5, 16] (fun _ i => ∃ k : Nat, k ≤ 4 ∧ i = .int .i64 k) (fun _ i => 12 - (intOf i).toNat)
  case atStart => exact ⟨0, by omega, rfl⟩
  case round =>
    obtain ⟨k, hk, rfl⟩ := hrel
    rcases (by omega : k = 0 ∨ k = 1 ∨ k = 2 ∨ k = 3 ∨ k = 4) with rfl | rfl | rfl | rfl | rfl
    · go_wp2_with fail
      go_round
      case rel => exact ⟨1, by omega, rfl⟩
      case measure => simp [intOf]
    · go_wp2_with fail
      go_round
      case rel => exact ⟨2, by omega, rfl⟩
      case measure => simp [intOf]
    · go_wp2_with fail
      go_round
      case rel => exact ⟨3, by omega, rfl⟩
      case measure => simp [intOf]
    · go_wp2_with fail
      go_round
      case rel => exact ⟨4, by omega, rfl⟩
      case measure => simp [intOf]
    · go_wp2_with fail
      go_ret
      exact ⟨rfl, (Kept.refl _ _).alloc _⟩

set_option maxRecDepth 100000 in
set_option maxHeartbeats 1000000 in
theorem prime_23 (w : World) : Calls Tryz.prog 168 #[.int .i64 23] w fun e w' => e = .returned (.bool true) ∧ Kept [] w w' := by
  have i0 := ix0
  have i1 := ix1
  have i2 := ix2
  have i3 := ix3
  have i4 := ix4
  have i5 := ix5
  have i6 := ix6
  have i7 := ix7
  have i8 := ix8
  go_enter Tryz.func168, Tryz.ntmps168
  go_wp2_with fail
  go_loop [5, 16] (fun _ i => ∃ k : Nat, k ≤ 8 ∧ i = .int .i64 k) (fun _ i => 12 - (intOf i).toNat)
  case atStart => exact ⟨0, by omega, rfl⟩
  case round =>
    obtain ⟨k, hk, rfl⟩ := hrel
    rcases (by omega : k = 0 ∨ k = 1 ∨ k = 2 ∨ k = 3 ∨ k = 4 ∨ k = 5 ∨ k = 6 ∨ k = 7 ∨ k = 8) with rfl | rfl | rfl | rfl | rfl | rfl | rfl | rfl | rfl
    · go_wp2_with fail
      go_round
      case rel => exact ⟨1, by omega, rfl⟩
      case measure => simp [intOf]
    · go_wp2_with fail
      go_round
      case rel => exact ⟨2, by omega, rfl⟩
      case measure => simp [intOf]
    · go_wp2_with fail
      go_round
      case rel => exact ⟨3, by omega, rfl⟩
      case measure => simp [intOf]
    · go_wp2_with fail
      go_round
      case rel => exact ⟨4, by omega, rfl⟩
      case measure => simp [intOf]
    · go_wp2_with fail
      go_round
      case rel => exact ⟨5, by omega, rfl⟩
      case measure => simp [intOf]
    · go_wp2_with fail
      go_round
      case rel => exact ⟨6, by omega, rfl⟩
      case measure => simp [intOf]
    · go_wp2_with fail
      go_round
      case rel => exact ⟨7, by omega, rfl⟩
      case measure => simp [intOf]
    · go_wp2_with fail
      go_round
      case rel => exact ⟨8, by omega, rfl⟩
      case measure => simp [intOf]
    · go_wp2_with fail
      go_ret
      exact ⟨rfl, (Kept.refl _ _).alloc _⟩
end Go.Proofs.YtabiklpemoijcaaGreatDoor
namespace Go.Proofs.YtabiklpemoijcaaGreatDoor
open Go.RowKit

set_option maxRecDepth 100000 in
set_option maxHeartbeats 1000000 in
theorem validGroup_x (w : World) : Calls Tryz.prog 89 #[.agg #[.int .i64 23, .int .i64 11, .int .i64 4]] w fun e w' => e = .returned (.bool true) ∧ Kept [] w w' := by
  obtain ⟨W, hW⟩ : ∃ W, w.alloc (.cells #[.int .i64 23, .int .i64 11, .int .i64 4] 23) = W := ⟨_, rfl⟩
  have hb : Blk W w.heap.size 23 #[.int .i64 23, .int .i64 11, .int .i64 4] := hW ▸ Blk.new _ _ _
  have hkW : Kept [] w W := hW ▸ (Kept.refl _ _).alloc _
  have K0 : Hid (∀ w', Kept [] W w' → w'.cell? ⟨w.heap.size, 0, none⟩ = some (.int .i64 23)) := Kept.cellOf (hb.cell 0)
  have K1 : Hid (∀ w', Kept [] W w' → w'.cell? ⟨w.heap.size, 1, none⟩ = some (.int .i64 11)) := Kept.cellOf (hb.cell 1)
  have K2 : Hid (∀ w', Kept [] W w' → w'.cell? ⟨w.heap.size, 2, none⟩ = some (.int .i64 4)) := Kept.cellOf (hb.cell 2)
  have e0 := K0.out W (Kept.refl _ _)
  have e1 := K1.out W (Kept.refl _ _)
  have e2 := K2.out W (Kept.refl _ _)
  have HW := Lib.hid hW
  have hp : powN 23 4 11 = 1 := by decide
  clear hW hb
  go_enter Tryz.func89, Tryz.ntmps89
  go_wp2_with fail
  rw [HW.out]
  go_wp2_with (go_at_call 168; with_reducible refine (prime_11 _).mono ?_)
  rintro e w1 ⟨rfl, k1⟩
  clear e0 e1 e2
  have e0 := K0.out w1 k1
  have e1 := K1.out w1 k1
  have e2 := K2.out w1 k1
  go_wp2_with (go_at_call 168; with_reducible refine (prime_23 _).mono ?_)
  rintro e w2 ⟨rfl, k2⟩
  replace k2 := k1.trans k2
  clear e0 e1 e2
  have e0 := K0.out w2 k2
  have e1 := K1.out w2 k2
  have e2 := K2.out w2 k2
  have P := Lib.hid (fpow_any 23 4 11 w2 (by omega) (by omega) ⟨by omega, by omega⟩ (by omega))
  rw [hp] at P
  go_wp2_with (go_at_call 114; refine P.out.mono ?_)
  rintro e w3 ⟨rfl, k3⟩
  go_wp2_with fail
  go_ret
  exact ⟨rfl, hkW.trans (k2.trans k3)⟩

set_option maxRecDepth 100000 in
set_option maxHeartbeats 1000000 in
theorem element_x (x : Nat) (w : World) (h1 : 1 ≤ x) (h2 : x < 23) (hp : powN 23 x 11 = 1) :
    Calls Tryz.prog 113 #[.agg #[.int .i64 23, .int .i64 11, .int .i64 4], .int .i64 x] w fun e w' => e = .returned (.bool true) ∧ Kept [] w w' := by
  obtain ⟨W, hW⟩ : ∃ W, w.alloc (.cells #[.int .i64 23, .int .i64 11, .int .i64 4] 23) = W := ⟨_, rfl⟩
  have hb : Blk W w.heap.size 23 #[.int .i64 23, .int .i64 11, .int .i64 4] := hW ▸ Blk.new _ _ _
  have hkW : Kept [] w W := hW ▸ (Kept.refl _ _).alloc _
  have K0 : Hid (∀ w', Kept [] W w' → w'.cell? ⟨w.heap.size, 0, none⟩ = some (.int .i64 23)) := Kept.cellOf (hb.cell 0)
  have K1 : Hid (∀ w', Kept [] W w' → w'.cell? ⟨w.heap.size, 1, none⟩ = some (.int .i64 11)) := Kept.cellOf (hb.cell 1)
  have K2 : Hid (∀ w', Kept [] W w' → w'.cell? ⟨w.heap.size, 2, none⟩ = some (.int .i64 4)) := Kept.cellOf (hb.cell 2)
  have e0 := K0.out W (Kept.refl _ _)
  have e1 := K1.out W (Kept.refl _ _)
  have e2 := K2.out W (Kept.refl _ _)
  have HW := Lib.hid hW
  clear hW hb
  go_enter Tryz.func113, Tryz.ntmps113
  go_wp2_with fail
  rw [HW.out]
  go_wp2_with (go_at_call 89; with_reducible refine (validGroup_x _).mono ?_)
  rintro e w1 ⟨rfl, k1⟩
  clear e0 e1 e2
  have e0 := K0.out w1 k1
  have e1 := K1.out w1 k1
  have P := Lib.hid (fpow_any 23 x 11 w1 (by omega) (by omega) ⟨by omega, by omega⟩ (by omega))
  rw [hp] at P
  go_wp2_with (go_at_call 114; refine P.out.mono ?_)
  rintro e w3 ⟨rfl, k3⟩
  go_wp2_with fail
  go_ret
  exact ⟨rfl, hkW.trans (k1.trans k3)⟩

theorem wrap_nat (p : Nat) (h : p < 9223372036854775808) : IntKind.i64.wrap (p : Int) = p := by
  rw [IntKind.wrap_i64]; omega

/-- x to the power of k in the example's group -/
def pwr (x k : Int) : Nat := res 23 x ^ res 11 k % 23

set_option maxRecDepth 100000 in
set_option maxHeartbeats 1000000 in
theorem power_x (x k : Int) (w : World) (hx : Wire.I64 x) (hk : Wire.I64 k) :
    Calls Tryz.prog 92 #[.agg #[.int .i64 23, .int .i64 11, .int .i64 4], .int .i64 x, .int .i64 k] w fun e w' => e = .returned (.int .i64 ((pwr x k : Nat) : Int)) ∧ Kept [] w w' := by
  obtain ⟨W, hW⟩ : ∃ W, w.alloc (.cells #[.int .i64 23, .int .i64 11, .int .i64 4] 23) = W := ⟨_, rfl⟩
  have hb : Blk W w.heap.size 23 #[.int .i64 23, .int .i64 11, .int .i64 4] := hW ▸ Blk.new _ _ _
  have hkW : Kept [] w W := hW ▸ (Kept.refl _ _).alloc _
  have k0 : ∀ w', Kept [] W w' → w'.cell? ⟨w.heap.size, 0, none⟩ = some (.int .i64 23) := Kept.cellOf (hb.cell 0)
  have k1 : ∀ w', Kept [] W w' → w'.cell? ⟨w.heap.size, 1, none⟩ = some (.int .i64 11) := Kept.cellOf (hb.cell 1)
  have e0 := k0 W (Kept.refl _ _)
  have e1 := k1 W (Kept.refl _ _)
  have HW := Lib.hid hW
  have V1 : Hid (Calls Tryz.prog 97 #[.int .i64 23] W fun e w' => e = .returned (.bool true) ∧ W = w') := fvalid_any 23 W (by omega) (by omega)
  have V2 : Hid (Calls Tryz.prog 97 #[.int .i64 11] W fun e w' => e = .returned (.bool true) ∧ W = w') := fvalid_any 11 W (by omega) (by omega)
  have l1 := res_lt 23 x (by omega)
  have l2 := res_lt 11 k (by omega)
  unfold pwr
  obtain ⟨X, hX⟩ : ∃ X, res 23 x = X := ⟨_, rfl⟩
  obtain ⟨K, hK⟩ : ∃ K, res 11 k = K := ⟨_, rfl⟩
  have R1 : Hid (∀ w, Calls Tryz.prog 98 #[.int .i64 23, .int .i64 x] w fun e w' => e = .returned (.int .u64 ((X : Nat) : Int)) ∧ w = w') := fun w => by
    have := residue_any 23 x w (by omega) (by omega) hx
    rwa [hX] at this
  have R2 : Hid (∀ w, Calls Tryz.prog 98 #[.int .i64 11, .int .i64 k] w fun e w' => e = .returned (.int .u64 ((K : Nat) : Int)) ∧ w = w') := fun w => by
    have := residue_any 11 k w (by omega) (by omega) hk
    rwa [hK] at this
  rw [hX] at l1 ⊢
  rw [hK] at l2 ⊢
  have q4 : X ^ K % 23 < 23 := Nat.mod_lt _ (by omega)
  obtain ⟨p, hp⟩ : ∃ p, X ^ K % 23 = p := ⟨_, rfl⟩
  have HP : Hid (∀ w, Calls Tryz.prog 170 #[.int .i64 23, .int .u64 X, .int .u64 K] w fun e w' => e = .returned (.int .u64 ((p : Nat) : Int)) ∧ Kept [] w w') := fun w => by
    have := power_any 23 X K w (by omega) (by omega) l1 (by omega)
    rwa [hp] at this
  rw [hp] at q4 ⊢
  clear hW hX hK hp
  go_enter Tryz.func92, Tryz.ntmps92
  go_wp2_with fail
  rw [HW.out]
  go_wp2_with (first
    | (go_at_call 97; with_reducible refine V1.out.mono ?_; rintro e w' ⟨rfl, rfl⟩)
    | (go_at_call 97; with_reducible refine V2.out.mono ?_; rintro e w' ⟨rfl, rfl⟩))
  clear e0 e1
  go_region_held3 (fun w' => Kept [] W w') (first | assumption | exact (Kept.refl _ _).drew | exact Kept.alloc (by assumption) _)
    (first
      | (go_at_call 98; with_reducible refine (kept_from (W := W) (by assumption) ((R1.out _).mono fun _ _ h => ⟨h.1, h.2 ▸ Kept.refl _ _⟩)).mono ?_; rintro e w2 ⟨rfl, hk2⟩)
      | (go_at_call 98; with_reducible refine (kept_from (W := W) (by assumption) ((R2.out _).mono fun _ _ h => ⟨h.1, h.2 ▸ Kept.refl _ _⟩)).mono ?_; rintro e w2 ⟨rfl, hk2⟩)
      | (go_at_call 170; with_reducible refine (kept_from (W := W) (by assumption) (HP.out _)).mono ?_; rintro e w3 ⟨rfl, hk3⟩))
  go_wp2
  go_ret
  exact ⟨by show Ending.returned (Value.int .i64 (IntKind.i64.wrap (p : Int))) = _; rw [wrap_nat p (by omega)], hkW.trans hk3⟩

def stepX (o : Nat) (p : Int × Int) : Nat := mulN 23 (o : Int) ((pwr p.1 p.2 : Nat) : Int)
def prodX (bs es : List Int) : Nat := (bs.zip es).foldl stepX 1
theorem stepX_lt (o : Nat) (p : Int × Int) : stepX o p < 23 := Nat.mod_lt _ (by omega)
theorem pwr_lt (x k : Int) : pwr x k < 23 := Nat.mod_lt _ (by omega)

set_option maxRecDepth 100000 in
set_option maxHeartbeats 1000000 in
theorem product_x (vb ve : Value) (bs es : List Int) (w : World) (hb : Row w 1 vb bs.length (ints bs)) (he : Row w 1 ve es.length (ints es)) (hl : bs.length = es.length)
    (ib : ∀ x ∈ bs, Wire.I64 x) (ie : ∀ x ∈ es, Wire.I64 x) :
    Calls Tryz.prog 101 #[.agg #[.int .i64 23, .int .i64 11, .int .i64 4], vb, ve] w fun e w' => e = .returned (.tuple #[.int .i64 ((prodX bs es : Nat) : Int), .bool true]) ∧ Kept [] w w' := by
  obtain ⟨ab, cb, rfl, hlb, _⟩ := hb.form
  obtain ⟨ae, ce, rfl, hle, _⟩ := he.form
  obtain ⟨W, hW⟩ : ∃ W, w.alloc (.cells #[.int .i64 23, .int .i64 11, .int .i64 4] 23) = W := ⟨_, rfl⟩
  have hbk : Blk W w.heap.size 23 #[.int .i64 23, .int .i64 11, .int .i64 4] := hW ▸ Blk.new _ _ _
  have hkW : Kept [] w W := hW ▸ (Kept.refl _ _).alloc _
  have K0 : Hid (∀ w', Kept [] W w' → w'.cell? ⟨w.heap.size, 0, none⟩ = some (.int .i64 23)) := Kept.cellOf (hbk.cell 0)
  have K1 : Hid (∀ w', Kept [] W w' → w'.cell? ⟨w.heap.size, 1, none⟩ = some (.int .i64 11)) := Kept.cellOf (hbk.cell 1)
  have K2 : Hid (∀ w', Kept [] W w' → w'.cell? ⟨w.heap.size, 2, none⟩ = some (.int .i64 4)) := Kept.cellOf (hbk.cell 2)
  have e0 := K0.out W (Kept.refl _ _)
  have e1 := K1.out W (Kept.refl _ _)
  have HW := Lib.hid hW
  have V1 : Hid (Calls Tryz.prog 97 #[.int .i64 23] W fun e w' => e = .returned (.bool true) ∧ W = w') := fvalid_any 23 W (by omega) (by omega)
  have V2 : Hid (Calls Tryz.prog 97 #[.int .i64 11] W fun e w' => e = .returned (.bool true) ∧ W = w') := fvalid_any 11 W (by omega) (by omega)
  have HB := Lib.hid (hb.kept hkW)
  have HE := Lib.hid (he.kept hkW)
  have IB := Lib.hid ib
  have IE := Lib.hid ie
  have hlq : ((bs.length : Int) != (es.length : Int)) = false := by simp; omega
  have hm1 : (1 : Int).tmod 23 = 1 := by decide
  obtain ⟨T, hT⟩ : ∃ T, prodX bs es = T := ⟨_, rfl⟩
  have H0 : Hid (((bs.zip es).drop 0).foldl stepX 1 = T) := hT
  rw [hT]
  clear hW hbk hb he ib ie hT
  go_enter Tryz.func101, Tryz.ntmps101
  go_wp2_with fail
  rw [HW.out]
  go_wp2_with (first
    | (go_at_call 97; with_reducible refine V1.out.mono ?_; rintro e w' ⟨rfl, rfl⟩)
    | (go_at_call 97; with_reducible refine V2.out.mono ?_; rintro e w' ⟨rfl, rfl⟩))
  clear e0 e1
  go_loopw [8, 9, 10, 33] (fun vo _ _ vi wr => ∃ k o : Nat, k ≤ bs.length ∧ vi = .int .i64 k ∧ vo = .int .i64 o ∧ o < 23 ∧ ((bs.zip es).drop k).foldl stepX o = T ∧ Kept [] W wr) (fun _ _ _ vi _ => bs.length - (intOf vi).toNat)
  case atStart => exact ⟨0, 1, by omega, rfl, rfl, by omega, H0.out, Kept.refl _ _⟩
  case round =>
    obtain ⟨k, o, hk, rfl, rfl, ho, hr, hkr⟩ := hrel
    have HR := Lib.hid hr
    clear hr
    by_cases hlt : k < bs.length
    · have hlte : k < es.length := by omega
      obtain ⟨ba, oa, rfl, hca⟩ := (HB.out.kept hkr).at_ (by omega)
      obtain ⟨bb, ob, rfl, hcb⟩ := (HE.out.kept hkr).at_ (by omega)
      have xb := hca k _ (ints_get hlt)
      have xe : ∀ w', Kept [] wr w' → w'.cell? ⟨bb, ob + k, none⟩ = some (.int .i64 es[k]) := Kept.cellOf (hcb k _ (ints_get hlte))
      have k0 : ∀ w', Kept [] wr w' → w'.cell? ⟨w.heap.size, 0, none⟩ = some (.int .i64 23) := Kept.cellOf (K0.out _ hkr)
      have k1 : ∀ w', Kept [] wr w' → w'.cell? ⟨w.heap.size, 1, none⟩ = some (.int .i64 11) := Kept.cellOf (K1.out _ hkr)
      have k2 : ∀ w', Kept [] wr w' → w'.cell? ⟨w.heap.size, 2, none⟩ = some (.int .i64 4) := Kept.cellOf (K2.out _ hkr)
      have ix := IB.out bs[k] (List.getElem_mem hlt)
      have iy := IE.out es[k] (List.getElem_mem hlte)
      have hz : (bs.zip es).drop k = (bs[k], es[k]) :: (bs.zip es).drop (k + 1) := by
        rw [List.drop_eq_getElem_cons (by rw [List.length_zip]; omega), List.getElem_zip]
      have hn := HR.out
      rw [hz, List.foldl_cons] at hn
      have lst := stepX_lt o (bs[k], es[k])
      have HP : Hid (∀ w, Calls Tryz.prog 92 #[.agg #[.int .i64 23, .int .i64 11, .int .i64 4], .int .i64 bs[k], .int .i64 es[k]] w fun e w' => e = .returned (.int .i64 ((pwr bs[k] es[k] : Nat) : Int)) ∧ Kept [] w w') := fun w => power_x bs[k] es[k] w ix iy
      have lpw := pwr_lt bs[k] es[k]
      have HS : stepX o (bs[k], es[k]) = mulN 23 (o : Int) ((pwr bs[k] es[k] : Nat) : Int) := rfl
      obtain ⟨q, hq⟩ : ∃ q, pwr bs[k] es[k] = q := ⟨_, rfl⟩
      rw [hq] at HP HS lpw
      have HM : Hid (∀ w, Calls Tryz.prog 33 #[.int .i64 23, .int .i64 o, .int .i64 q] w fun e w' => e = .returned (.int .i64 ((mulN 23 (o : Int) (q : Int) : Nat) : Int)) ∧ Kept [] w w') :=
        fun w => fmul_any 23 o q w (by omega) (by omega) ⟨by omega, by omega⟩ ⟨by omega, by omega⟩
      rw [← HS] at HM
      obtain ⟨s, hs⟩ : ∃ s, stepX o (bs[k], es[k]) = s := ⟨_, rfl⟩
      rw [hs] at HM hn lst
      have HN := Lib.hid hn
      clear hn hs HS hq hz hca hcb ix iy
      go_upto_region 7 with (fail)
      clear xb
      go_region_held3 (fun w' => Kept [] wr w') (first | assumption | exact (Kept.refl _ _).drew | exact Kept.alloc (by assumption) _)
        (first
          | (go_at_call 92; with_reducible refine (kept_from (W := wr) (by assumption) (HP.out _)).mono ?_; rintro e w2 ⟨rfl, hk2⟩)
          | (go_at_call 33; with_reducible refine (kept_from (W := wr) (by assumption) (HM.out _)).mono ?_; rintro e w3 ⟨rfl, hk3⟩))
      clear k0 k1 k2 xe
      go_wp2
      go_roundw
      case rel => exact ⟨k + 1, s, by omega, by go_num, rfl, lst, HN.out, hkr.trans hk3⟩
      case measure => simp [intOf]; omega
    · obtain rfl : k = bs.length := by omega
      have hn := HR.out
      rw [List.drop_eq_nil_of_le (by rw [List.length_zip]; omega), List.foldl_nil] at hn
      subst hn
      go_wp2_with fail
      go_ret2
      exact ⟨rfl, hkW.trans hkr⟩
end Go.Proofs.YtabiklpemoijcaaGreatDoor
