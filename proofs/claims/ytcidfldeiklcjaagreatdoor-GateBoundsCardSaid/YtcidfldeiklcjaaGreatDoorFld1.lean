/- Arithmetic modulo a small number: valid, residue, product, power, Add, Sub, Mul, Pow. -/
import Derived.Test.YtcidfldeiklcjaaGreatDoorRdS
import Derived.Test.YtcidfldeiklcjaaGreatDoorKnu
import Derived.Shelf.Bits.Mul64
namespace Go.Proofs.YtcidfldeiklcjaaGreatDoor
open Go.RowKit

set_option maxHeartbeats 400000 in
theorem fvalid_any (N : Nat) (w : World) (h1 : 1 ≤ N) (h2 : N < 2305843009213693952) :
    Calls Tryz.prog 91 #[.int .i64 N] w fun e w' => e = .returned (.bool true) ∧ w = w' := by
  go_enter Tryz.func91, Tryz.ntmps91
  go_wp2
  go_ret
  exact ⟨by simp; omega, rfl⟩

theorem tmod_emod (a n : Int) (h : 1 ≤ n) : (a.tmod n < 0 → a.tmod n + n = a % n) ∧ (¬ a.tmod n < 0 → a.tmod n = a % n) := by
  rw [Int.tmod_eq_emod]
  have h1 := Int.emod_nonneg a (show n ≠ 0 by omega)
  have h2 := Int.emod_lt_of_pos a (show 0 < n by omega)
  have h3 : (n.natAbs : Int) = n := by omega
  split
  · exact ⟨fun h => by omega, fun _ => by omega⟩
  · exact ⟨fun _ => by omega, fun h => by omega⟩

/-- the residue -/
def res (N : Nat) (a : Int) : Nat := (a % (N : Int)).toNat
theorem res_eq (N : Nat) (a : Int) (h1 : 1 ≤ N) : ((res N a : Nat) : Int) = a % (N : Int) := Int.toNat_of_nonneg (Int.emod_nonneg a (by omega))
theorem res_lt (N : Nat) (a : Int) (h1 : 1 ≤ N) : res N a < N := by
  have := Int.emod_lt_of_pos a (show (0 : Int) < N by omega)
  have := res_eq N a h1
  omega

set_option maxHeartbeats 800000 in
theorem residue_any (N : Nat) (a : Int) (w : World) (h1 : 1 ≤ N) (h2 : N < 2305843009213693952) (ha : Wire.I64 a) :
    Calls Tryz.prog 141 #[.int .i64 N, .int .i64 a] w fun e w' => e = .returned (.int .u64 ((res N a : Nat) : Int)) ∧ w = w' := by
  obtain ⟨a1, a2⟩ := ha
  obtain ⟨t1, t2⟩ := tmod_emod a N (by omega)
  have e0 := res_eq N a h1
  have e1 := res_lt N a h1
  have hn0 : ((N : Int) == 0) = false := by simp; omega
  obtain ⟨r, hr⟩ : ∃ r, res N a = r := ⟨_, rfl⟩
  rw [hr] at e0 e1 ⊢
  rw [← e0] at t1 t2
  obtain ⟨t, ht⟩ : ∃ t, a.tmod N = t := ⟨_, rfl⟩
  rw [ht] at t1 t2
  by_cases hneg : t < 0
  · have e2 := t1 hneg
    have hd : decide (t < 0) = true := by simpa using hneg
    go_enter Tryz.func141, Tryz.ntmps141
    go_wp2
    go_ret
    exact ⟨rfl, rfl⟩
  · have e2 := t2 hneg
    have hd : decide (t < 0) = false := by simpa using hneg
    go_enter Tryz.func141, Tryz.ntmps141
    go_wp2
    go_ret
    exact ⟨rfl, rfl⟩

set_option maxRecDepth 100000 in
set_option maxHeartbeats 800000 in
theorem div64_low (x y : Nat) (w : World) (hx : x < 18446744073709551616) (hy : y < 18446744073709551616) (h0 : 0 < y) :
    Calls Tryz.prog 215 #[.int .u64 0, .int .u64 x, .int .u64 y] w fun e w' => e = .returned (.tuple #[.int .u64 ((x / y : Nat) : Int), .int .u64 ((x % y : Nat) : Int)]) ∧ Kept [] w w' := by
  have hz : ((y : Int) == 0) = false := by simp; omega
  have hle : decide ((y : Int) ≤ 0) = false := by simp; omega
  have hz' : ¬ (y : Int) = 0 := by omega
  have q3 : (x : Int) / (y : Int) ≤ x := Int.ediv_le_self _ (by omega)
  have q5 : 0 ≤ (x : Int) / (y : Int) := Int.ediv_nonneg (by omega) (by omega)
  have q4 : (x : Int) % (y : Int) < y := Int.emod_lt_of_pos _ (by omega)
  have q6 : 0 ≤ (x : Int) % (y : Int) := Int.emod_nonneg _ (by omega)
  go_enter Tryz.func215, Tryz.ntmps215
  go_wp2_with fail
  go_region
  go_wp2_with fail
  go_ret2
  exact ⟨rfl, (Kept.refl _ _).drewN _⟩

set_option maxHeartbeats 800000 in
theorem rem64_low (x y : Nat) (w : World) (hx : x < 18446744073709551616) (hy : y < 18446744073709551616) (h0 : 0 < y) :
    Calls Tryz.prog 182 #[.int .u64 0, .int .u64 x, .int .u64 y] w fun e w' => e = .returned (.int .u64 ((x % y : Nat) : Int)) ∧ Kept [] w w' := by
  have hz' : ¬ (y : Int) = 0 := by omega
  have hm : (0 : Int) % (y : Int) = 0 := Int.zero_emod _
  have H := Lib.hid (div64_low x y w hx hy h0)
  go_enter Tryz.func182, Tryz.ntmps182
  go_wp2_with (go_at_call 215; refine H.out.mono ?_; rintro e w1 ⟨rfl, hk⟩)
  go_ret
  exact ⟨rfl, hk⟩

/-- how a division ends -/
def DivP (r : Nat) (w : World) (e : Ending) (w' : World) : Prop := (∃ q : Int, e = .returned (.tuple #[.int .u64 q, .int .u64 (r : Int)])) ∧ Kept [] w w'

set_option maxRecDepth 100000 in
set_option maxHeartbeats 1600000 in
theorem div64_high (hi lo y : Nat) (w : World) (h0 : 0 < hi) (hh : hi < y) (hy : y < 18446744073709551616) (hl : lo < 18446744073709551616) :
    Calls Tryz.prog 215 #[.int .u64 hi, .int .u64 lo, .int .u64 y] w (DivP ((hi * 18446744073709551616 + lo) % y) w) := by
  obtain ⟨b1, b2, b3⟩ := Lib.bitLenAux_bounds 64 y hy (by omega)
  have b4 := Lib.bitLen_le y 64 (by omega) hy
  have LZ := Lib.hid (Tryz.bits_LeadingZeros64 y w (by omega) (by omega))
  obtain ⟨L, hL⟩ : ∃ L, Lib.bitLen y = L := ⟨_, rfl⟩
  have hL' : Lib.bitLenAux 64 y = L := hL
  rw [hL'] at b1 b2 b3
  have hyN : ((y : Int)).toNat = y := by omega
  rw [hyN, hL] at LZ
  rw [hL] at b4
  obtain ⟨s, hs⟩ : ∃ s, L + s = 64 := ⟨64 - L, by omega⟩
  have hsI : (64 : Int) - (L : Int) = (s : Int) := by omega
  rw [hsI] at LZ
  have hz : ((y : Int) == 0) = false := by simp; omega
  have hle : decide ((y : Int) ≤ (hi : Int)) = false := by simp; omega
  have hi0 : ((hi : Int) == 0) = false := by simp; omega
  have hs64 : s ≤ 64 := by omega
  have hpw : 2 ^ L * 2 ^ s = 18446744073709551616 := by rw [← Nat.pow_add, hs]
  have hpw1 : 2 ^ (L - 1) * 2 ^ s = 9223372036854775808 := by rw [← Nat.pow_add, show L - 1 + s = 63 by omega]
  have Y1 : y * 2 ^ s < 18446744073709551616 := by rw [← hpw]; exact (Nat.mul_lt_mul_right (Nat.two_pow_pos s)).2 b3
  have Y2 : 9223372036854775808 ≤ y * 2 ^ s := by rw [← hpw1]; exact Nat.mul_le_mul_right _ b2
  have U1 := Knu.un_lt hh hl hs64
  have U2 := Knu.div_lt hl hs64
  have SH := Lib.hid (Knu.shifted (hi := hi) (lo := lo) hs64)
  have OR := Lib.hid (Knu.or_add (a := hi) U2)
  have TW := Lib.hid (fun un21 e1 e2 => @Knu.two hi lo y s (hi * 2 ^ s + lo / 2 ^ (64 - s)) (lo * 2 ^ s % 18446744073709551616) un21 e1 e2)
  obtain ⟨A, hA⟩ : ∃ A, hi * 2 ^ s = A := ⟨_, rfl⟩
  obtain ⟨C, hC⟩ : ∃ C, lo / 2 ^ (64 - s) = C := ⟨_, rfl⟩
  obtain ⟨B, hB⟩ : ∃ B, lo * 2 ^ s = B := ⟨_, rfl⟩
  obtain ⟨Y, hY⟩ : ∃ Y, y * 2 ^ s = Y := ⟨_, rfl⟩
  rw [hA, hC, hB] at SH
  rw [hA, hC] at OR U1
  rw [hC] at U2
  rw [hA, hC, hB, hY] at TW
  rw [hY] at Y1 Y2 U1
  have iA : (hi : Int) * 2 ^ s = (A : Int) := by rw [← hA]; simp
  have iB : (lo : Int) * 2 ^ s = (B : Int) := by rw [← hB]; simp
  have iY : (y : Int) * 2 ^ s = (Y : Int) := by rw [← hY]; simp
  have iC : (lo : Int) / 2 ^ (64 - s) = (C : Int) := by rw [← hC]; simp
  have T0 : B % 18446744073709551616 < 18446744073709551616 := Nat.mod_lt _ (by omega)
  have iU : IntKind.u64.wrap (B : Int) = ((B % 18446744073709551616 : Nat) : Int) := by rw [IntKind.wrap_u64]; omega
  have iO : bits .or .u64 (A : Int) (C : Int) = ((A + C : Nat) : Int) := by rw [bits_or_u64_nat A C (by omega) (by omega), OR.out]
  obtain ⟨T, hT⟩ : ∃ T, B % 18446744073709551616 = T := ⟨_, rfl⟩
  obtain ⟨U, hU⟩ : ∃ U, A + C = U := ⟨_, rfl⟩
  rw [hT] at iU SH TW T0
  rw [hU] at iO SH TW U1
  have n1lt : Y / 4294967296 < 4294967296 := by omega
  have n1ge : 2147483648 ≤ Y / 4294967296 := by omega
  have n0lt : Y % 4294967296 < 4294967296 := by omega
  have eY : Y = Y / 4294967296 * 4294967296 + Y % 4294967296 := by omega
  have i1 : (Y : Int) / 4294967296 = ((Y / 4294967296 : Nat) : Int) := by omega
  have i0 := Mul64.maskN Y Y1
  have u1lt : T / 4294967296 < 4294967296 := by omega
  have u0lt : T % 4294967296 < 4294967296 := by omega
  have j1 : (T : Int) / 4294967296 = ((T / 4294967296 : Nat) : Int) := by omega
  have j0 := Mul64.maskN T T0
  obtain ⟨n1, hn1⟩ : ∃ n, Y / 4294967296 = n := ⟨_, rfl⟩
  obtain ⟨n0, hn0⟩ : ∃ n, Y % 4294967296 = n := ⟨_, rfl⟩
  obtain ⟨u1, hu1⟩ : ∃ n, T / 4294967296 = n := ⟨_, rfl⟩
  obtain ⟨u0, hu0⟩ : ∃ n, T % 4294967296 = n := ⟨_, rfl⟩
  rw [hn1] at i1 n1lt n1ge eY
  rw [hn0] at i0 n0lt eY
  rw [hu1] at j1 u1lt TW
  rw [hu0] at j0 u0lt TW
  have st0 := Knu.St.start eY n1ge n1lt n0lt U1 u1lt
  have ql0 := st0.q_lt
  have er := st0.hr
  have rlt : U % n1 < n1 := Nat.mod_lt _ (by omega)
  have k1 : (U : Int) / (n1 : Int) = ((U / n1 : Nat) : Int) := by simp
  obtain ⟨Q, hQ⟩ : ∃ Q, U / n1 = Q := ⟨_, rfl⟩
  obtain ⟨R, hR⟩ : ∃ R, U % n1 = R := ⟨_, rfl⟩
  rw [hQ] at st0 ql0 er k1
  rw [hR] at st0 er rlt
  have k2 : (Q : Int) * (n1 : Int) = ((Q * n1 : Nat) : Int) := by simp
  obtain ⟨M, hM⟩ : ∃ M, Q * n1 = M := ⟨_, rfl⟩
  rw [hM] at er k2
  have k3 : (U : Int) - (M : Int) = (R : Int) := by omega
  have ST0 := Lib.hid st0
  have NZ : ¬ (n1 : Int) = 0 := by omega
  have EY := Lib.hid eY
  have hb64 : 0 < Y := by omega
  have rlt' : R < 4294967296 := by omega
  have hA64 : A < 18446744073709551616 := by omega
  have hC64 : C < 18446744073709551616 := by omega
  have hU64 : U < 18446744073709551616 := by omega
  have hM64 : M ≤ U := by omega
  clear hyN hL hL' hsI b1 b2 b3 b4 hA hB hC hY hpw hpw1 hT hU hn1 hn0 hu1 hu0 hQ hR hM st0 er eY
  go_enter Tryz.func215, Tryz.ntmps215
  go_upto_region 8 with (go_at_call 237; refine LZ.out.mono ?_; rintro e w1 ⟨rfl, rfl⟩)
  go_upto_region 17 with (fail)
  go_loop [15, 16] (fun vq vr => ∃ q rh : Nat, vq = .int .u64 q ∧ vr = .int .u64 rh ∧ Knu.St Y n1 n0 U u1 q rh ∧ rh < 4294967296) (fun vq _ => (intOf vq).toNat)
  case atStart => exact ⟨Q, R, rfl, rfl, ST0.out, rlt'⟩
  case round =>
    obtain ⟨q, rh, rfl, rfl, hst1, hrh1⟩ := hrel
    have hql1 := hst1.q_lt
    obtain ⟨p1, hp1⟩ : ∃ p, q * n0 = p := ⟨_, rfl⟩
    have ip1 : (q : Int) * (n0 : Int) = (p1 : Int) := by rw [← hp1]; simp
    have pl1 : q < 4294967296 → p1 < 18446744073709551616 := fun h => by
      have := Nat.mul_le_mul (show q ≤ 4294967295 by omega) (show n0 ≤ 4294967295 by omega)
      omega
    by_cases hc1 : 4294967296 ≤ q ∨ rh * 4294967296 + u1 < q * n0
    · obtain ⟨hq11, hst11⟩ := hst1.step hc1
      obtain ⟨q', hq'⟩ : ∃ q', q = q' + 1 := ⟨q - 1, by omega⟩
      rw [show q - 1 = q' by omega] at hst11
      have HST1 := Lib.hid hst11
      rw [hp1] at hc1
      have lq' : q' ≤ 4294967297 := by omega
      clear hst11 hst1 hp1
      subst hq'
      rw [Int.natCast_add, Int.natCast_one] at ip1
      obtain ⟨H1, hH1⟩ : ∃ H, 4294967296 * rh = H := ⟨_, rfl⟩
      obtain ⟨S1, hS1⟩ : ∃ S, H1 + u1 = S := ⟨_, rfl⟩
      obtain ⟨T1, hT1⟩ : ∃ T, rh + n1 = T := ⟨_, rfl⟩
      have iH1 : 4294967296 * (rh : Int) = (H1 : Int) := by omega
      have iS1 : (H1 : Int) + (u1 : Int) = (S1 : Int) := by omega
      have iT1 : (rh : Int) + (n1 : Int) = (T1 : Int) := by omega
      have lH1 : H1 < 18446744073709551616 := by omega
      have lS1 : S1 < 18446744073709551616 := by omega
      have lT1 : T1 < 18446744073709551616 := by omega
      replace hc1 : 4294967296 ≤ q' + 1 ∨ S1 < p1 := by omega
      rw [hT1] at HST1
      clear hH1 hS1 hT1
      by_cases hb1 : 4294967296 ≤ T1
      · have hq1 := HST1.out.broke hb1
        have HQ1 := Lib.hid hq1
        have hd2 : decide (4294967296 ≤ (T1 : Int)) = true := by simp; omega
        clear hq1
        by_cases hbig : 4294967296 ≤ q' + 1
        · have hd : decide (4294967296 ≤ (q' : Int) + 1) = true := by simp; omega
          clear hc1 pl1
          obtain ⟨r1, r2⟩ := Knu.rest HQ1.out
          have vlt : (U * 4294967296 + u1) % Y < Y := Nat.mod_lt _ hb64
          obtain ⟨V, hV⟩ : ∃ V, (U * 4294967296 + u1) % Y = V := ⟨_, rfl⟩
          obtain ⟨P, hP⟩ : ∃ P, q' * Y = P := ⟨_, rfl⟩
          have iP : (q' : Int) * (Y : Int) = (P : Int) := by rw [← hP]; simp
          rw [hP] at r1 r2
          rw [hV] at r2 vlt
          have iV : IntKind.u64.wrap (IntKind.u64.wrap (IntKind.u64.wrap ((U : Int) * 4294967296) + (u1 : Int)) - IntKind.u64.wrap (P : Int)) = (V : Int) := by simp only [IntKind.wrap_u64]; omega
          have HV := Lib.hid hV
          have st2 := Knu.St.start EY.out n1ge n1lt n0lt vlt u0lt
          have ql2 := st2.q_lt
          have er2 := st2.hr
          have rlt2 : V % n1 < n1 := Nat.mod_lt _ (by omega)
          have m1 : (V : Int) / (n1 : Int) = ((V / n1 : Nat) : Int) := by simp
          obtain ⟨Q2, hQ2⟩ : ∃ Q, V / n1 = Q := ⟨_, rfl⟩
          obtain ⟨R2, hR2⟩ : ∃ R, V % n1 = R := ⟨_, rfl⟩
          rw [hQ2] at st2 ql2 er2 m1
          rw [hR2] at st2 er2 rlt2
          have m2 : (Q2 : Int) * (n1 : Int) = ((Q2 * n1 : Nat) : Int) := by simp
          obtain ⟨M2, hM2⟩ : ∃ M, Q2 * n1 = M := ⟨_, rfl⟩
          rw [hM2] at er2 m2
          have m3 : (V : Int) - (M2 : Int) = (R2 : Int) := by omega
          have ST2 := Lib.hid st2
          have hM2l : M2 ≤ V := by omega
          have rlt2' : R2 < 4294967296 := by omega
          clear hV hP hQ2 hR2 hM2 st2 er2 r1 r2
          go_wp2_with fail
          go_loop [18, 16] (fun vq vr => ∃ q rh : Nat, vq = .int .u64 q ∧ vr = .int .u64 rh ∧ Knu.St Y n1 n0 V u0 q rh ∧ rh < 4294967296) (fun vq _ => (intOf vq).toNat)
          case atStart => exact ⟨Q2, R2, rfl, rfl, ST2.out, rlt2'⟩
          case round =>
            obtain ⟨z, zh, rfl, rfl, hst2, hrh2⟩ := hrel
            have hql2 := hst2.q_lt
            obtain ⟨p2, hp2⟩ : ∃ p, z * n0 = p := ⟨_, rfl⟩
            have ip2 : (z : Int) * (n0 : Int) = (p2 : Int) := by rw [← hp2]; simp
            have pl2 : z < 4294967296 → p2 < 18446744073709551616 := fun h => by
              have := Nat.mul_le_mul (show z ≤ 4294967295 by omega) (show n0 ≤ 4294967295 by omega)
              omega
            by_cases hc2 : 4294967296 ≤ z ∨ zh * 4294967296 + u0 < z * n0
            · obtain ⟨hq12, hst12⟩ := hst2.step hc2
              obtain ⟨q', hq'⟩ : ∃ q', z = q' + 1 := ⟨z - 1, by omega⟩
              rw [show z - 1 = q' by omega] at hst12
              have HST1 := Lib.hid hst12
              rw [hp2] at hc2
              have lq' : q' ≤ 4294967297 := by omega
              clear hst12 hst2 hp2
              subst hq'
              rw [Int.natCast_add, Int.natCast_one] at ip2
              obtain ⟨H2, hH2⟩ : ∃ H, 4294967296 * zh = H := ⟨_, rfl⟩
              obtain ⟨S2, hS2⟩ : ∃ S, H2 + u0 = S := ⟨_, rfl⟩
              obtain ⟨T2, hT2⟩ : ∃ T, zh + n1 = T := ⟨_, rfl⟩
              have iH2 : 4294967296 * (zh : Int) = (H2 : Int) := by omega
              have iS2 : (H2 : Int) + (u0 : Int) = (S2 : Int) := by omega
              have iT2 : (zh : Int) + (n1 : Int) = (T2 : Int) := by omega
              have lH2 : H2 < 18446744073709551616 := by omega
              have lS2 : S2 < 18446744073709551616 := by omega
              have lT2 : T2 < 18446744073709551616 := by omega
              replace hc2 : 4294967296 ≤ q' + 1 ∨ S2 < p2 := by omega
              rw [hT2] at HST1
              clear hH2 hS2 hT2
              by_cases hb2 : 4294967296 ≤ T2
              · have hq2 := HST1.out.broke hb2
                have HQ2 := Lib.hid hq2
                have hd2 : decide (4294967296 ≤ (T2 : Int)) = true := by simp; omega
                clear hq2
                by_cases hbig : 4294967296 ≤ q' + 1
                · have hd : decide (4294967296 ≤ (q' : Int) + 1) = true := by simp; omega
                  clear hc2 pl2
                  obtain ⟨s1, s2⟩ := Knu.rest HQ2.out
                  have xlt : (V * 4294967296 + u0) % Y < Y := Nat.mod_lt _ hb64
                  have tw := TW.out V SH.out HV.out.symm
                  obtain ⟨X, hX⟩ : ∃ X, (V * 4294967296 + u0) % Y = X := ⟨_, rfl⟩
                  obtain ⟨P2, hP2⟩ : ∃ P, q' * Y = P := ⟨_, rfl⟩
                  have iP2 : (q' : Int) * (Y : Int) = (P2 : Int) := by rw [← hP2]; simp
                  rw [hP2] at s1 s2
                  rw [hX] at s2 xlt tw
                  have iX : IntKind.u64.wrap (IntKind.u64.wrap (IntKind.u64.wrap ((V : Int) * 4294967296) + (u0 : Int)) - IntKind.u64.wrap (P2 : Int)) = (X : Int) := by simp only [IntKind.wrap_u64]; omega
                  have iS : (X : Int) / 2 ^ s = (((hi * 18446744073709551616 + lo) % y : Nat) : Int) := by rw [← tw]; simp
                  obtain ⟨F, hF⟩ : ∃ F, (hi * 18446744073709551616 + lo) % y = F := ⟨_, rfl⟩
                  rw [hF] at iS
                  have HF := Lib.hid hF
                  clear hX hP2 s1 s2 tw hF
                  go_wp2_with fail
                  refine bodyPost_ret (v := .tuple #[.int .u64 _, .int .u64 F]) (by first | (simp [results, Tryz.results215, go_sem]; rfl)) rfl ⟨⟨_, by rw [HF.out]⟩, Kept.refl _ _⟩
                · have hd : decide (4294967296 ≤ (q' : Int) + 1) = false := by simp; omega
                  have hpl := pl2 (by omega)
                  have hcc : S2 < p2 := by omega
                  clear hc2 pl2
                  obtain ⟨s1, s2⟩ := Knu.rest HQ2.out
                  have xlt : (V * 4294967296 + u0) % Y < Y := Nat.mod_lt _ hb64
                  have tw := TW.out V SH.out HV.out.symm
                  obtain ⟨X, hX⟩ : ∃ X, (V * 4294967296 + u0) % Y = X := ⟨_, rfl⟩
                  obtain ⟨P2, hP2⟩ : ∃ P, q' * Y = P := ⟨_, rfl⟩
                  have iP2 : (q' : Int) * (Y : Int) = (P2 : Int) := by rw [← hP2]; simp
                  rw [hP2] at s1 s2
                  rw [hX] at s2 xlt tw
                  have iX : IntKind.u64.wrap (IntKind.u64.wrap (IntKind.u64.wrap ((V : Int) * 4294967296) + (u0 : Int)) - IntKind.u64.wrap (P2 : Int)) = (X : Int) := by simp only [IntKind.wrap_u64]; omega
                  have iS : (X : Int) / 2 ^ s = (((hi * 18446744073709551616 + lo) % y : Nat) : Int) := by rw [← tw]; simp
                  obtain ⟨F, hF⟩ : ∃ F, (hi * 18446744073709551616 + lo) % y = F := ⟨_, rfl⟩
                  rw [hF] at iS
                  have HF := Lib.hid hF
                  clear hX hP2 s1 s2 tw hF
                  go_wp2_with fail
                  refine bodyPost_ret (v := .tuple #[.int .u64 _, .int .u64 F]) (by first | (simp [results, Tryz.results215, go_sem]; rfl)) rfl ⟨⟨_, by rw [HF.out]⟩, Kept.refl _ _⟩
              · have hb' : T2 < 4294967296 := by omega
                have hd2 : decide (4294967296 ≤ (T2 : Int)) = false := by simp; omega
                clear hb2
                by_cases hbig : 4294967296 ≤ q' + 1
                · have hd : decide (4294967296 ≤ (q' : Int) + 1) = true := by simp; omega
                  clear hc2 pl2
                  go_wp2_with fail
                  go_round
                  case rel => exact ⟨q', T2, rfl, rfl, HST1.out, hb'⟩
                  case measure => simp [intOf]
                · have hd : decide (4294967296 ≤ (q' : Int) + 1) = false := by simp; omega
                  have hpl := pl2 (by omega)
                  have hcc : S2 < p2 := by omega
                  clear hc2 pl2
                  go_wp2_with fail
                  go_round
                  case rel => exact ⟨q', T2, rfl, rfl, HST1.out, hb'⟩
                  case measure => simp [intOf]
            · have hq2 := hst2.done (by omega)
              have hlt : z < 4294967296 := by omega
              have hd : decide (4294967296 ≤ (z : Int)) = false := by simp; omega
              have hpl := pl2 (by omega)
              have hnp : p2 ≤ zh * 4294967296 + u0 := by omega
              have HQ2 := Lib.hid hq2
              clear hq2 hst2 hp2 hc2 pl2
              obtain ⟨s1, s2⟩ := Knu.rest HQ2.out
              have xlt : (V * 4294967296 + u0) % Y < Y := Nat.mod_lt _ hb64
              have tw := TW.out V SH.out HV.out.symm
              obtain ⟨X, hX⟩ : ∃ X, (V * 4294967296 + u0) % Y = X := ⟨_, rfl⟩
              obtain ⟨P2, hP2⟩ : ∃ P, z * Y = P := ⟨_, rfl⟩
              have iP2 : (z : Int) * (Y : Int) = (P2 : Int) := by rw [← hP2]; simp
              rw [hP2] at s1 s2
              rw [hX] at s2 xlt tw
              have iX : IntKind.u64.wrap (IntKind.u64.wrap (IntKind.u64.wrap ((V : Int) * 4294967296) + (u0 : Int)) - IntKind.u64.wrap (P2 : Int)) = (X : Int) := by simp only [IntKind.wrap_u64]; omega
              have iS : (X : Int) / 2 ^ s = (((hi * 18446744073709551616 + lo) % y : Nat) : Int) := by rw [← tw]; simp
              obtain ⟨F, hF⟩ : ∃ F, (hi * 18446744073709551616 + lo) % y = F := ⟨_, rfl⟩
              rw [hF] at iS
              have HF := Lib.hid hF
              clear hX hP2 s1 s2 tw hF
              go_wp2_with fail
              refine bodyPost_ret (v := .tuple #[.int .u64 _, .int .u64 F]) (by first | (simp [results, Tryz.results215, go_sem]; rfl)) rfl ⟨⟨_, by rw [HF.out]⟩, Kept.refl _ _⟩
        · have hd : decide (4294967296 ≤ (q' : Int) + 1) = false := by simp; omega
          have hpl := pl1 (by omega)
          have hcc : S1 < p1 := by omega
          clear hc1 pl1
          obtain ⟨r1, r2⟩ := Knu.rest HQ1.out
          have vlt : (U * 4294967296 + u1) % Y < Y := Nat.mod_lt _ hb64
          obtain ⟨V, hV⟩ : ∃ V, (U * 4294967296 + u1) % Y = V := ⟨_, rfl⟩
          obtain ⟨P, hP⟩ : ∃ P, q' * Y = P := ⟨_, rfl⟩
          have iP : (q' : Int) * (Y : Int) = (P : Int) := by rw [← hP]; simp
          rw [hP] at r1 r2
          rw [hV] at r2 vlt
          have iV : IntKind.u64.wrap (IntKind.u64.wrap (IntKind.u64.wrap ((U : Int) * 4294967296) + (u1 : Int)) - IntKind.u64.wrap (P : Int)) = (V : Int) := by simp only [IntKind.wrap_u64]; omega
          have HV := Lib.hid hV
          have st2 := Knu.St.start EY.out n1ge n1lt n0lt vlt u0lt
          have ql2 := st2.q_lt
          have er2 := st2.hr
          have rlt2 : V % n1 < n1 := Nat.mod_lt _ (by omega)
          have m1 : (V : Int) / (n1 : Int) = ((V / n1 : Nat) : Int) := by simp
          obtain ⟨Q2, hQ2⟩ : ∃ Q, V / n1 = Q := ⟨_, rfl⟩
          obtain ⟨R2, hR2⟩ : ∃ R, V % n1 = R := ⟨_, rfl⟩
          rw [hQ2] at st2 ql2 er2 m1
          rw [hR2] at st2 er2 rlt2
          have m2 : (Q2 : Int) * (n1 : Int) = ((Q2 * n1 : Nat) : Int) := by simp
          obtain ⟨M2, hM2⟩ : ∃ M, Q2 * n1 = M := ⟨_, rfl⟩
          rw [hM2] at er2 m2
          have m3 : (V : Int) - (M2 : Int) = (R2 : Int) := by omega
          have ST2 := Lib.hid st2
          have hM2l : M2 ≤ V := by omega
          have rlt2' : R2 < 4294967296 := by omega
          clear hV hP hQ2 hR2 hM2 st2 er2 r1 r2
          go_wp2_with fail
          go_loop [18, 16] (fun vq vr => ∃ q rh : Nat, vq = .int .u64 q ∧ vr = .int .u64 rh ∧ Knu.St Y n1 n0 V u0 q rh ∧ rh < 4294967296) (fun vq _ => (intOf vq).toNat)
          case atStart => exact ⟨Q2, R2, rfl, rfl, ST2.out, rlt2'⟩
          case round =>
            obtain ⟨z, zh, rfl, rfl, hst2, hrh2⟩ := hrel
            have hql2 := hst2.q_lt
            obtain ⟨p2, hp2⟩ : ∃ p, z * n0 = p := ⟨_, rfl⟩
            have ip2 : (z : Int) * (n0 : Int) = (p2 : Int) := by rw [← hp2]; simp
            have pl2 : z < 4294967296 → p2 < 18446744073709551616 := fun h => by
              have := Nat.mul_le_mul (show z ≤ 4294967295 by omega) (show n0 ≤ 4294967295 by omega)
              omega
            by_cases hc2 : 4294967296 ≤ z ∨ zh * 4294967296 + u0 < z * n0
            · obtain ⟨hq12, hst12⟩ := hst2.step hc2
              obtain ⟨q', hq'⟩ : ∃ q', z = q' + 1 := ⟨z - 1, by omega⟩
              rw [show z - 1 = q' by omega] at hst12
              have HST1 := Lib.hid hst12
              rw [hp2] at hc2
              have lq' : q' ≤ 4294967297 := by omega
              clear hst12 hst2 hp2
              subst hq'
              rw [Int.natCast_add, Int.natCast_one] at ip2
              obtain ⟨H2, hH2⟩ : ∃ H, 4294967296 * zh = H := ⟨_, rfl⟩
              obtain ⟨S2, hS2⟩ : ∃ S, H2 + u0 = S := ⟨_, rfl⟩
              obtain ⟨T2, hT2⟩ : ∃ T, zh + n1 = T := ⟨_, rfl⟩
              have iH2 : 4294967296 * (zh : Int) = (H2 : Int) := by omega
              have iS2 : (H2 : Int) + (u0 : Int) = (S2 : Int) := by omega
              have iT2 : (zh : Int) + (n1 : Int) = (T2 : Int) := by omega
              have lH2 : H2 < 18446744073709551616 := by omega
              have lS2 : S2 < 18446744073709551616 := by omega
              have lT2 : T2 < 18446744073709551616 := by omega
              replace hc2 : 4294967296 ≤ q' + 1 ∨ S2 < p2 := by omega
              rw [hT2] at HST1
              clear hH2 hS2 hT2
              by_cases hb2 : 4294967296 ≤ T2
              · have hq2 := HST1.out.broke hb2
                have HQ2 := Lib.hid hq2
                have hd2 : decide (4294967296 ≤ (T2 : Int)) = true := by simp; omega
                clear hq2
                by_cases hbig : 4294967296 ≤ q' + 1
                · have hd : decide (4294967296 ≤ (q' : Int) + 1) = true := by simp; omega
                  clear hc2 pl2
                  obtain ⟨s1, s2⟩ := Knu.rest HQ2.out
                  have xlt : (V * 4294967296 + u0) % Y < Y := Nat.mod_lt _ hb64
                  have tw := TW.out V SH.out HV.out.symm
                  obtain ⟨X, hX⟩ : ∃ X, (V * 4294967296 + u0) % Y = X := ⟨_, rfl⟩
                  obtain ⟨P2, hP2⟩ : ∃ P, q' * Y = P := ⟨_, rfl⟩
                  have iP2 : (q' : Int) * (Y : Int) = (P2 : Int) := by rw [← hP2]; simp
                  rw [hP2] at s1 s2
                  rw [hX] at s2 xlt tw
                  have iX : IntKind.u64.wrap (IntKind.u64.wrap (IntKind.u64.wrap ((V : Int) * 4294967296) + (u0 : Int)) - IntKind.u64.wrap (P2 : Int)) = (X : Int) := by simp only [IntKind.wrap_u64]; omega
                  have iS : (X : Int) / 2 ^ s = (((hi * 18446744073709551616 + lo) % y : Nat) : Int) := by rw [← tw]; simp
                  obtain ⟨F, hF⟩ : ∃ F, (hi * 18446744073709551616 + lo) % y = F := ⟨_, rfl⟩
                  rw [hF] at iS
                  have HF := Lib.hid hF
                  clear hX hP2 s1 s2 tw hF
                  go_wp2_with fail
                  refine bodyPost_ret (v := .tuple #[.int .u64 _, .int .u64 F]) (by first | (simp [results, Tryz.results215, go_sem]; rfl)) rfl ⟨⟨_, by rw [HF.out]⟩, Kept.refl _ _⟩
                · have hd : decide (4294967296 ≤ (q' : Int) + 1) = false := by simp; omega
                  have hpl := pl2 (by omega)
                  have hcc : S2 < p2 := by omega
                  clear hc2 pl2
                  obtain ⟨s1, s2⟩ := Knu.rest HQ2.out
                  have xlt : (V * 4294967296 + u0) % Y < Y := Nat.mod_lt _ hb64
                  have tw := TW.out V SH.out HV.out.symm
                  obtain ⟨X, hX⟩ : ∃ X, (V * 4294967296 + u0) % Y = X := ⟨_, rfl⟩
                  obtain ⟨P2, hP2⟩ : ∃ P, q' * Y = P := ⟨_, rfl⟩
                  have iP2 : (q' : Int) * (Y : Int) = (P2 : Int) := by rw [← hP2]; simp
                  rw [hP2] at s1 s2
                  rw [hX] at s2 xlt tw
                  have iX : IntKind.u64.wrap (IntKind.u64.wrap (IntKind.u64.wrap ((V : Int) * 4294967296) + (u0 : Int)) - IntKind.u64.wrap (P2 : Int)) = (X : Int) := by simp only [IntKind.wrap_u64]; omega
                  have iS : (X : Int) / 2 ^ s = (((hi * 18446744073709551616 + lo) % y : Nat) : Int) := by rw [← tw]; simp
                  obtain ⟨F, hF⟩ : ∃ F, (hi * 18446744073709551616 + lo) % y = F := ⟨_, rfl⟩
                  rw [hF] at iS
                  have HF := Lib.hid hF
                  clear hX hP2 s1 s2 tw hF
                  go_wp2_with fail
                  refine bodyPost_ret (v := .tuple #[.int .u64 _, .int .u64 F]) (by first | (simp [results, Tryz.results215, go_sem]; rfl)) rfl ⟨⟨_, by rw [HF.out]⟩, Kept.refl _ _⟩
              · have hb' : T2 < 4294967296 := by omega
                have hd2 : decide (4294967296 ≤ (T2 : Int)) = false := by simp; omega
                clear hb2
                by_cases hbig : 4294967296 ≤ q' + 1
                · have hd : decide (4294967296 ≤ (q' : Int) + 1) = true := by simp; omega
                  clear hc2 pl2
                  go_wp2_with fail
                  go_round
                  case rel => exact ⟨q', T2, rfl, rfl, HST1.out, hb'⟩
                  case measure => simp [intOf]
                · have hd : decide (4294967296 ≤ (q' : Int) + 1) = false := by simp; omega
                  have hpl := pl2 (by omega)
                  have hcc : S2 < p2 := by omega
                  clear hc2 pl2
                  go_wp2_with fail
                  go_round
                  case rel => exact ⟨q', T2, rfl, rfl, HST1.out, hb'⟩
                  case measure => simp [intOf]
            · have hq2 := hst2.done (by omega)
              have hlt : z < 4294967296 := by omega
              have hd : decide (4294967296 ≤ (z : Int)) = false := by simp; omega
              have hpl := pl2 (by omega)
              have hnp : p2 ≤ zh * 4294967296 + u0 := by omega
              have HQ2 := Lib.hid hq2
              clear hq2 hst2 hp2 hc2 pl2
              obtain ⟨s1, s2⟩ := Knu.rest HQ2.out
              have xlt : (V * 4294967296 + u0) % Y < Y := Nat.mod_lt _ hb64
              have tw := TW.out V SH.out HV.out.symm
              obtain ⟨X, hX⟩ : ∃ X, (V * 4294967296 + u0) % Y = X := ⟨_, rfl⟩
              obtain ⟨P2, hP2⟩ : ∃ P, z * Y = P := ⟨_, rfl⟩
              have iP2 : (z : Int) * (Y : Int) = (P2 : Int) := by rw [← hP2]; simp
              rw [hP2] at s1 s2
              rw [hX] at s2 xlt tw
              have iX : IntKind.u64.wrap (IntKind.u64.wrap (IntKind.u64.wrap ((V : Int) * 4294967296) + (u0 : Int)) - IntKind.u64.wrap (P2 : Int)) = (X : Int) := by simp only [IntKind.wrap_u64]; omega
              have iS : (X : Int) / 2 ^ s = (((hi * 18446744073709551616 + lo) % y : Nat) : Int) := by rw [← tw]; simp
              obtain ⟨F, hF⟩ : ∃ F, (hi * 18446744073709551616 + lo) % y = F := ⟨_, rfl⟩
              rw [hF] at iS
              have HF := Lib.hid hF
              clear hX hP2 s1 s2 tw hF
              go_wp2_with fail
              refine bodyPost_ret (v := .tuple #[.int .u64 _, .int .u64 F]) (by first | (simp [results, Tryz.results215, go_sem]; rfl)) rfl ⟨⟨_, by rw [HF.out]⟩, Kept.refl _ _⟩
      · have hb' : T1 < 4294967296 := by omega
        have hd2 : decide (4294967296 ≤ (T1 : Int)) = false := by simp; omega
        clear hb1
        by_cases hbig : 4294967296 ≤ q' + 1
        · have hd : decide (4294967296 ≤ (q' : Int) + 1) = true := by simp; omega
          clear hc1 pl1
          go_wp2_with fail
          go_round
          case rel => exact ⟨q', T1, rfl, rfl, HST1.out, hb'⟩
          case measure => simp [intOf]
        · have hd : decide (4294967296 ≤ (q' : Int) + 1) = false := by simp; omega
          have hpl := pl1 (by omega)
          have hcc : S1 < p1 := by omega
          clear hc1 pl1
          go_wp2_with fail
          go_round
          case rel => exact ⟨q', T1, rfl, rfl, HST1.out, hb'⟩
          case measure => simp [intOf]
    · have hq1 := hst1.done (by omega)
      have hlt : q < 4294967296 := by omega
      have hd : decide (4294967296 ≤ (q : Int)) = false := by simp; omega
      have hpl := pl1 (by omega)
      have hnp : p1 ≤ rh * 4294967296 + u1 := by omega
      have HQ1 := Lib.hid hq1
      clear hq1 hst1 hp1 hc1 pl1
      obtain ⟨r1, r2⟩ := Knu.rest HQ1.out
      have vlt : (U * 4294967296 + u1) % Y < Y := Nat.mod_lt _ hb64
      obtain ⟨V, hV⟩ : ∃ V, (U * 4294967296 + u1) % Y = V := ⟨_, rfl⟩
      obtain ⟨P, hP⟩ : ∃ P, q * Y = P := ⟨_, rfl⟩
      have iP : (q : Int) * (Y : Int) = (P : Int) := by rw [← hP]; simp
      rw [hP] at r1 r2
      rw [hV] at r2 vlt
      have iV : IntKind.u64.wrap (IntKind.u64.wrap (IntKind.u64.wrap ((U : Int) * 4294967296) + (u1 : Int)) - IntKind.u64.wrap (P : Int)) = (V : Int) := by simp only [IntKind.wrap_u64]; omega
      have HV := Lib.hid hV
      have st2 := Knu.St.start EY.out n1ge n1lt n0lt vlt u0lt
      have ql2 := st2.q_lt
      have er2 := st2.hr
      have rlt2 : V % n1 < n1 := Nat.mod_lt _ (by omega)
      have m1 : (V : Int) / (n1 : Int) = ((V / n1 : Nat) : Int) := by simp
      obtain ⟨Q2, hQ2⟩ : ∃ Q, V / n1 = Q := ⟨_, rfl⟩
      obtain ⟨R2, hR2⟩ : ∃ R, V % n1 = R := ⟨_, rfl⟩
      rw [hQ2] at st2 ql2 er2 m1
      rw [hR2] at st2 er2 rlt2
      have m2 : (Q2 : Int) * (n1 : Int) = ((Q2 * n1 : Nat) : Int) := by simp
      obtain ⟨M2, hM2⟩ : ∃ M, Q2 * n1 = M := ⟨_, rfl⟩
      rw [hM2] at er2 m2
      have m3 : (V : Int) - (M2 : Int) = (R2 : Int) := by omega
      have ST2 := Lib.hid st2
      have hM2l : M2 ≤ V := by omega
      have rlt2' : R2 < 4294967296 := by omega
      clear hV hP hQ2 hR2 hM2 st2 er2 r1 r2
      go_wp2_with fail
      go_loop [18, 16] (fun vq vr => ∃ q rh : Nat, vq = .int .u64 q ∧ vr = .int .u64 rh ∧ Knu.St Y n1 n0 V u0 q rh ∧ rh < 4294967296) (fun vq _ => (intOf vq).toNat)
      case atStart => exact ⟨Q2, R2, rfl, rfl, ST2.out, rlt2'⟩
      case round =>
        obtain ⟨z, zh, rfl, rfl, hst2, hrh2⟩ := hrel
        have hql2 := hst2.q_lt
        obtain ⟨p2, hp2⟩ : ∃ p, z * n0 = p := ⟨_, rfl⟩
        have ip2 : (z : Int) * (n0 : Int) = (p2 : Int) := by rw [← hp2]; simp
        have pl2 : z < 4294967296 → p2 < 18446744073709551616 := fun h => by
          have := Nat.mul_le_mul (show z ≤ 4294967295 by omega) (show n0 ≤ 4294967295 by omega)
          omega
        by_cases hc2 : 4294967296 ≤ z ∨ zh * 4294967296 + u0 < z * n0
        · obtain ⟨hq12, hst12⟩ := hst2.step hc2
          obtain ⟨q', hq'⟩ : ∃ q', z = q' + 1 := ⟨z - 1, by omega⟩
          rw [show z - 1 = q' by omega] at hst12
          have HST1 := Lib.hid hst12
          rw [hp2] at hc2
          have lq' : q' ≤ 4294967297 := by omega
          clear hst12 hst2 hp2
          subst hq'
          rw [Int.natCast_add, Int.natCast_one] at ip2
          obtain ⟨H2, hH2⟩ : ∃ H, 4294967296 * zh = H := ⟨_, rfl⟩
          obtain ⟨S2, hS2⟩ : ∃ S, H2 + u0 = S := ⟨_, rfl⟩
          obtain ⟨T2, hT2⟩ : ∃ T, zh + n1 = T := ⟨_, rfl⟩
          have iH2 : 4294967296 * (zh : Int) = (H2 : Int) := by omega
          have iS2 : (H2 : Int) + (u0 : Int) = (S2 : Int) := by omega
          have iT2 : (zh : Int) + (n1 : Int) = (T2 : Int) := by omega
          have lH2 : H2 < 18446744073709551616 := by omega
          have lS2 : S2 < 18446744073709551616 := by omega
          have lT2 : T2 < 18446744073709551616 := by omega
          replace hc2 : 4294967296 ≤ q' + 1 ∨ S2 < p2 := by omega
          rw [hT2] at HST1
          clear hH2 hS2 hT2
          by_cases hb2 : 4294967296 ≤ T2
          · have hq2 := HST1.out.broke hb2
            have HQ2 := Lib.hid hq2
            have hd2 : decide (4294967296 ≤ (T2 : Int)) = true := by simp; omega
            clear hq2
            by_cases hbig : 4294967296 ≤ q' + 1
            · have hd : decide (4294967296 ≤ (q' : Int) + 1) = true := by simp; omega
              clear hc2 pl2
              obtain ⟨s1, s2⟩ := Knu.rest HQ2.out
              have xlt : (V * 4294967296 + u0) % Y < Y := Nat.mod_lt _ hb64
              have tw := TW.out V SH.out HV.out.symm
              obtain ⟨X, hX⟩ : ∃ X, (V * 4294967296 + u0) % Y = X := ⟨_, rfl⟩
              obtain ⟨P2, hP2⟩ : ∃ P, q' * Y = P := ⟨_, rfl⟩
              have iP2 : (q' : Int) * (Y : Int) = (P2 : Int) := by rw [← hP2]; simp
              rw [hP2] at s1 s2
              rw [hX] at s2 xlt tw
              have iX : IntKind.u64.wrap (IntKind.u64.wrap (IntKind.u64.wrap ((V : Int) * 4294967296) + (u0 : Int)) - IntKind.u64.wrap (P2 : Int)) = (X : Int) := by simp only [IntKind.wrap_u64]; omega
              have iS : (X : Int) / 2 ^ s = (((hi * 18446744073709551616 + lo) % y : Nat) : Int) := by rw [← tw]; simp
              obtain ⟨F, hF⟩ : ∃ F, (hi * 18446744073709551616 + lo) % y = F := ⟨_, rfl⟩
              rw [hF] at iS
              have HF := Lib.hid hF
              clear hX hP2 s1 s2 tw hF
              go_wp2_with fail
              refine bodyPost_ret (v := .tuple #[.int .u64 _, .int .u64 F]) (by first | (simp [results, Tryz.results215, go_sem]; rfl)) rfl ⟨⟨_, by rw [HF.out]⟩, Kept.refl _ _⟩
            · have hd : decide (4294967296 ≤ (q' : Int) + 1) = false := by simp; omega
              have hpl := pl2 (by omega)
              have hcc : S2 < p2 := by omega
              clear hc2 pl2
              obtain ⟨s1, s2⟩ := Knu.rest HQ2.out
              have xlt : (V * 4294967296 + u0) % Y < Y := Nat.mod_lt _ hb64
              have tw := TW.out V SH.out HV.out.symm
              obtain ⟨X, hX⟩ : ∃ X, (V * 4294967296 + u0) % Y = X := ⟨_, rfl⟩
              obtain ⟨P2, hP2⟩ : ∃ P, q' * Y = P := ⟨_, rfl⟩
              have iP2 : (q' : Int) * (Y : Int) = (P2 : Int) := by rw [← hP2]; simp
              rw [hP2] at s1 s2
              rw [hX] at s2 xlt tw
              have iX : IntKind.u64.wrap (IntKind.u64.wrap (IntKind.u64.wrap ((V : Int) * 4294967296) + (u0 : Int)) - IntKind.u64.wrap (P2 : Int)) = (X : Int) := by simp only [IntKind.wrap_u64]; omega
              have iS : (X : Int) / 2 ^ s = (((hi * 18446744073709551616 + lo) % y : Nat) : Int) := by rw [← tw]; simp
              obtain ⟨F, hF⟩ : ∃ F, (hi * 18446744073709551616 + lo) % y = F := ⟨_, rfl⟩
              rw [hF] at iS
              have HF := Lib.hid hF
              clear hX hP2 s1 s2 tw hF
              go_wp2_with fail
              refine bodyPost_ret (v := .tuple #[.int .u64 _, .int .u64 F]) (by first | (simp [results, Tryz.results215, go_sem]; rfl)) rfl ⟨⟨_, by rw [HF.out]⟩, Kept.refl _ _⟩
          · have hb' : T2 < 4294967296 := by omega
            have hd2 : decide (4294967296 ≤ (T2 : Int)) = false := by simp; omega
            clear hb2
            by_cases hbig : 4294967296 ≤ q' + 1
            · have hd : decide (4294967296 ≤ (q' : Int) + 1) = true := by simp; omega
              clear hc2 pl2
              go_wp2_with fail
              go_round
              case rel => exact ⟨q', T2, rfl, rfl, HST1.out, hb'⟩
              case measure => simp [intOf]
            · have hd : decide (4294967296 ≤ (q' : Int) + 1) = false := by simp; omega
              have hpl := pl2 (by omega)
              have hcc : S2 < p2 := by omega
              clear hc2 pl2
              go_wp2_with fail
              go_round
              case rel => exact ⟨q', T2, rfl, rfl, HST1.out, hb'⟩
              case measure => simp [intOf]
        · have hq2 := hst2.done (by omega)
          have hlt : z < 4294967296 := by omega
          have hd : decide (4294967296 ≤ (z : Int)) = false := by simp; omega
          have hpl := pl2 (by omega)
          have hnp : p2 ≤ zh * 4294967296 + u0 := by omega
          have HQ2 := Lib.hid hq2
          clear hq2 hst2 hp2 hc2 pl2
          obtain ⟨s1, s2⟩ := Knu.rest HQ2.out
          have xlt : (V * 4294967296 + u0) % Y < Y := Nat.mod_lt _ hb64
          have tw := TW.out V SH.out HV.out.symm
          obtain ⟨X, hX⟩ : ∃ X, (V * 4294967296 + u0) % Y = X := ⟨_, rfl⟩
          obtain ⟨P2, hP2⟩ : ∃ P, z * Y = P := ⟨_, rfl⟩
          have iP2 : (z : Int) * (Y : Int) = (P2 : Int) := by rw [← hP2]; simp
          rw [hP2] at s1 s2
          rw [hX] at s2 xlt tw
          have iX : IntKind.u64.wrap (IntKind.u64.wrap (IntKind.u64.wrap ((V : Int) * 4294967296) + (u0 : Int)) - IntKind.u64.wrap (P2 : Int)) = (X : Int) := by simp only [IntKind.wrap_u64]; omega
          have iS : (X : Int) / 2 ^ s = (((hi * 18446744073709551616 + lo) % y : Nat) : Int) := by rw [← tw]; simp
          obtain ⟨F, hF⟩ : ∃ F, (hi * 18446744073709551616 + lo) % y = F := ⟨_, rfl⟩
          rw [hF] at iS
          have HF := Lib.hid hF
          clear hX hP2 s1 s2 tw hF
          go_wp2_with fail
          refine bodyPost_ret (v := .tuple #[.int .u64 _, .int .u64 F]) (by first | (simp [results, Tryz.results215, go_sem]; rfl)) rfl ⟨⟨_, by rw [HF.out]⟩, Kept.refl _ _⟩

set_option maxHeartbeats 800000 in
theorem rem64_any (hi lo y : Nat) (w : World) (hh : hi < y) (hy : y < 18446744073709551616) (hl : lo < 18446744073709551616) :
    Calls Tryz.prog 182 #[.int .u64 hi, .int .u64 lo, .int .u64 y] w fun e w' => e = .returned (.int .u64 (((hi * 18446744073709551616 + lo) % y : Nat) : Int)) ∧ Kept [] w w' := by
  by_cases h0 : hi = 0
  · subst h0
    rw [Nat.zero_mul, Nat.zero_add]
    exact rem64_low lo y w hl hy (by omega)
  · have H := Lib.hid (div64_high hi lo y w (by omega) hh hy hl)
    have hz' : ¬ (y : Int) = 0 := by omega
    have hm : (hi : Int) % (y : Int) = hi := Int.emod_eq_of_lt (by omega) (by omega)
    obtain ⟨r, hr⟩ : ∃ r, (hi * 18446744073709551616 + lo) % y = r := ⟨_, rfl⟩
    rw [hr] at H ⊢
    clear hr
    go_enter Tryz.func182, Tryz.ntmps182
    go_wp2_with (go_at_call 215; refine H.out.mono ?_; rintro e w1 ⟨⟨q, rfl⟩, hk⟩)
    go_ret
    exact ⟨rfl, hk⟩

set_option maxHeartbeats 800000 in
theorem product_any (N x y : Nat) (w : World) (h1 : 1 ≤ N) (h2 : N < 2305843009213693952) (hx : x < N) (hy : y < N) :
    Calls Tryz.prog 142 #[.int .i64 N, .int .u64 x, .int .u64 y] w fun e w' => e = .returned (.int .u64 ((x * y % N : Nat) : Int)) ∧ Kept [] w w' := by
  have hp : x * y / 18446744073709551616 < N := by
    rw [Nat.div_lt_iff_lt_mul (by omega)]
    have a1 : x * y ≤ N * N := Nat.mul_le_mul (by omega) (by omega)
    have a2 : N * N < N * 18446744073709551616 := Nat.mul_lt_mul_of_pos_left (by omega) (by omega)
    omega
  have hm := Tryz.bits_Mul64 x y (by omega) (by omega) w
  have HM := Lib.hid hm
  have hr := rem64_any (x * y / 18446744073709551616) (x * y % 18446744073709551616) N w hp (by omega) (Nat.mod_lt _ (by omega))
  rw [Nat.mul_comm (x * y / 18446744073709551616), Nat.div_add_mod] at hr
  have H := Lib.hid hr
  obtain ⟨a, ha⟩ : ∃ z, x * y / 18446744073709551616 = z := ⟨_, rfl⟩
  obtain ⟨b, hb⟩ : ∃ z, x * y % 18446744073709551616 = z := ⟨_, rfl⟩
  rw [ha, hb] at HM H
  obtain ⟨r, hr⟩ : ∃ r, x * y % N = r := ⟨_, rfl⟩
  rw [hr] at H ⊢
  clear hm ha hb hr hp
  go_enter Tryz.func142, Tryz.ntmps142
  go_wp2_with (first
    | (go_at_call 106; refine HM.out.mono ?_; rintro e w1 ⟨rfl, hw⟩; rw [hw])
    | (go_at_call 182; refine H.out.mono ?_; rintro e w1 ⟨rfl, hk⟩))
  go_ret
  exact ⟨rfl, hk⟩

end Go.Proofs.YtcidfldeiklcjaaGreatDoor
