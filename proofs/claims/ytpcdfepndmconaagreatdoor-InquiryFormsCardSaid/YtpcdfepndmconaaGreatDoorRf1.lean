/- The reference's arithmetic modulo a number below 2^61: Valid, Residue, Add, Mul, power. -/
import Derived.Test.YtpcdfepndmconaaGreatDoorFld6
import Derived.Test.YtpcdfepndmconaaGreatDoorPrm
/- JOINED: Set2 Rf1 -/
/- Setups: ValidSetup, for any setup. -/
namespace Go.Proofs.YtpcdfepndmconaaGreatDoor
open Go.RowKit

structure Stp where
  P : Int
  Q : Int
  G : Int
  bases : List Int
  blind : Int
abbrev stpA (s : Stp) (v : Value) : Array Value := #[.int .i64 s.P, .int .i64 s.Q, .int .i64 s.G, v, .int .i64 s.blind]
structure StpV (w : World) (v : Value) (s : Stp) : Prop where
  form : ∃ a c, v = .agg (stpA s (.slice a s.bases.length c)) ∧ Row w 1 (.slice a s.bases.length c) s.bases.length (ints s.bases)
  ip : Wire.I64 s.P
  iq : Wire.I64 s.Q
  ig : Wire.I64 s.G
  ib : ∀ x ∈ s.bases, Wire.I64 x
  il : Wire.I64 s.blind
theorem StpV.kept {w w' : World} {v : Value} {s : Stp} (h : StpV w v s) (k : Kept [] w w') : StpV w' v s := by
  obtain ⟨⟨a, c, h1, h2⟩, h3, h4, h5, h6, h7⟩ := h
  exact ⟨⟨a, c, h1, h2.kept k⟩, h3, h4, h5, h6, h7⟩

def othB (q : Nat) (x : Int) : Bool := !(x == 1) && memB q x
def setupB (s : Stp) : Bool := groupB s.P s.Q s.G && (decide (2 ≤ s.bases.length) && (decide (s.bases.length ≤ 7) && (s.bases.all (othB s.Q.toNat) && othB s.Q.toNat s.blind)))

set_option maxRecDepth 100000 in
set_option maxHeartbeats 800000 in
theorem clo_oth (x : Int) (b : Nat) (v : Value) (s : Stp) (q : Nat) (w : World) (hb : Blk w b 26 (stpA s v)) (hok : GrpOk s.P s.Q s.G q) (hg : groupN q s.G = true) (hx : Wire.I64 x) (hE : Env2 w) :
    Calls Tryz.prog 160 #[.int .i64 x, .pointer (some ⟨b, 0, none⟩)] w fun e w' => e = .returned (.bool (othB q x)) ∧ Kept [] w w' := by
  have e0 : w.cell? ⟨b, 0, none⟩ = some (.int .i64 s.P) := hb.cell 0
  have e1 : w.cell? ⟨b, 1, none⟩ = some (.int .i64 s.Q) := hb.cell 1
  have e2 : w.cell? ⟨b, 2, none⟩ = some (.int .i64 s.G) := hb.cell 2
  have HE := Lib.hid (element_any s.P s.Q s.G x q w hok hg hx hE)
  unfold othB
  clear hb hok
  by_cases h1 : x = 1
  · subst h1
    go_enter Tryz.func160, Tryz.ntmps160
    go_wp2_with fail
    go_ret
    exact ⟨rfl, Kept.refl _ _⟩
  · have hne : (x != 1) = true := by simpa using h1
    have hne' : (x == 1) = false := by simpa using h1
    rw [hne']
    obtain ⟨t, ht⟩ : ∃ t, memB q x = t := ⟨_, rfl⟩
    rw [ht] at HE ⊢
    clear ht hne'
    go_enter Tryz.func160, Tryz.ntmps160
    go_wp2_with (go_at_call 95; refine HE.out.mono ?_; rintro e w1 ⟨rfl, hk⟩)
    go_ret
    exact ⟨rfl, hk⟩

theorem all_take_false {p : Int → Bool} {l : List Int} {k : Nat} (h : k < l.length) (hp : p l[k] = false) : l.all p = false := by
  rw [List.all_eq_false]
  exact ⟨l[k], List.getElem_mem h, by simp [hp]⟩
theorem all_of {p : Int → Bool} {l : List Int} (h : ∀ j (hj : j < l.length), p l[j] = true) : l.all p = true := by
  rw [List.all_eq_true]
  intro x hx
  obtain ⟨j, hj, rfl⟩ := List.mem_iff_getElem.1 hx
  exact h j hj

set_option maxRecDepth 100000 in
set_option maxHeartbeats 1600000 in
theorem validSetup_any (v : Value) (s : Stp) (w : World) (h : StpV w v s) (hE : Env2 w) : Calls Tryz.prog 84 #[v] w fun e w' => e = .returned (.bool (setupB s)) ∧ Kept [] w w' := by
  obtain ⟨⟨a, c, rfl, hrow⟩, ip, iq, ig, ib, il⟩ := h
  obtain ⟨P, Q, G, bases, blind⟩ := s
  simp only at ip iq ig ib il hrow ⊢
  have hlen := hrow.form
  obtain ⟨_, _, _, hl1, _⟩ := hlen
  obtain ⟨W, hW⟩ : ∃ W, w.alloc (.cells #[.int .i64 P, .int .i64 Q, .int .i64 G, .slice a bases.length c, .int .i64 blind] 26) = W := ⟨_, rfl⟩
  have hb : Blk W w.heap.size 26 #[.int .i64 P, .int .i64 Q, .int .i64 G, .slice a bases.length c, .int .i64 blind] := hW ▸ Blk.new _ _ _
  have hkW : Kept [] w W := hW ▸ (Kept.refl _ _).alloc _
  have hEW : Env2 W := hE.kept0 hkW
  have HR := Lib.hid (hrow.kept hkW)
  have HB := Lib.hid hb
  have K0 : Hid (∀ w', Kept [] W w' → w'.cell? ⟨w.heap.size, 0, none⟩ = some (.int .i64 P)) := Kept.cellOf (hb.cell 0)
  have K1 : Hid (∀ w', Kept [] W w' → w'.cell? ⟨w.heap.size, 1, none⟩ = some (.int .i64 Q)) := Kept.cellOf (hb.cell 1)
  have K2 : Hid (∀ w', Kept [] W w' → w'.cell? ⟨w.heap.size, 2, none⟩ = some (.int .i64 G)) := Kept.cellOf (hb.cell 2)
  have K3 : Hid (∀ w', Kept [] W w' → w'.cell? ⟨w.heap.size, 3, none⟩ = some (.slice a bases.length c)) := Kept.cellOf (hb.cell 3)
  have K4 : Hid (∀ w', Kept [] W w' → w'.cell? ⟨w.heap.size, 4, none⟩ = some (.int .i64 blind)) := Kept.cellOf (hb.cell 4)
  have e0 := K0.out W (Kept.refl _ _)
  have e1 := K1.out W (Kept.refl _ _)
  have e2 := K2.out W (Kept.refl _ _)
  have HW := Lib.hid hW
  have hmf : ∀ (fn : Fn) (first cap : Array Value) (w : World), (Instr.makeFunc fn first cap).run Tryz.prog w = .ok (.func fn first cap) w := fun _ _ _ _ => rfl
  have VG := Lib.hid (validGroup_any P Q G W ip iq ig hEW)
  have IB := Lib.hid ib
  obtain ⟨g, hg⟩ : ∃ g, groupB P Q G = g := ⟨_, rfl⟩
  unfold setupB
  simp only
  rw [hg] at VG ⊢
  have HG := Lib.hid hg
  clear hb hW hrow ib hg
  cases g
  · rw [Bool.false_and]
    go_enter Tryz.func84, Tryz.ntmps84
    go_wp2_with fail
    rw [HW.out]
    go_wp2_with (go_at_call 159; with_reducible refine VG.out.mono ?_)
    rintro e w1 ⟨rfl, k1⟩
    go_wp2_with fail
    go_ret
    exact ⟨rfl, hkW.trans k1⟩
  rw [Bool.true_and]
  by_cases c1 : bases.length < 2
  · rw [decide_eq_false (show ¬ 2 ≤ bases.length by omega), Bool.false_and]
    have d1 : decide ((bases.length : Int) < 2) = true := by simp; omega
    go_enter Tryz.func84, Tryz.ntmps84
    go_wp2_with fail
    rw [HW.out]
    go_wp2_with (go_at_call 159; with_reducible refine VG.out.mono ?_)
    rintro e w1 ⟨rfl, k1⟩
    clear e0 e1 e2
    have e3 := K3.out w1 k1
    go_wp2_with fail
    go_ret
    exact ⟨rfl, hkW.trans k1⟩
  have d1 : decide ((bases.length : Int) < 2) = false := by simp; omega
  rw [decide_eq_true (show 2 ≤ bases.length by omega), Bool.true_and]
  by_cases c2 : 7 < bases.length
  · rw [decide_eq_false (show ¬ bases.length ≤ 7 by omega), Bool.false_and]
    have d2 : decide ((7 : Int) < (bases.length : Int)) = true := by simp; omega
    go_enter Tryz.func84, Tryz.ntmps84
    go_wp2_with fail
    rw [HW.out]
    go_wp2_with (go_at_call 159; with_reducible refine VG.out.mono ?_)
    rintro e w1 ⟨rfl, k1⟩
    clear e0 e1 e2
    have e3 := K3.out w1 k1
    go_wp2_with fail
    go_ret
    exact ⟨rfl, hkW.trans k1⟩
  have d2 : decide ((7 : Int) < (bases.length : Int)) = false := by simp; omega
  rw [decide_eq_true (show bases.length ≤ 7 by omega), Bool.true_and]
  obtain ⟨q, hok, hgn⟩ := groupB_ok HG.out
  have hqt : Q.toNat = q := by have := hok.hQ; omega
  rw [hqt]
  have CL : Hid (∀ w' x, Kept [] W w' → Wire.I64 x → Calls Tryz.prog 160 #[.int .i64 x, .pointer (some ⟨w.heap.size, 0, none⟩)] w' fun e w2 => e = .returned (.bool (othB q x)) ∧ Kept [] w' w2) :=
    fun w' x k hx => clo_oth x _ _ ⟨P, Q, G, bases, blind⟩ q w' (HB.out.kept k (by simp)) hok hgn hx (hEW.kept0 k)
  obtain ⟨R, hR⟩ : ∃ R, (bases.all (othB q) && othB q blind) = R := ⟨_, rfl⟩
  rw [hR]
  have HRR := Lib.hid hR
  clear hR hok hqt
  go_enter Tryz.func84, Tryz.ntmps84
  go_wp2_with fail
  rw [HW.out]
  go_wp2_with (go_at_call 159; with_reducible refine VG.out.mono ?_)
  rintro e w1 ⟨rfl, k1⟩
  clear e0 e1 e2
  have e3 := K3.out w1 k1
  go_wp2_with fail
  clear e3
  go_loopw [5, 26] (fun _ i wr => ∃ k : Nat, k ≤ bases.length ∧ i = .int .i64 k ∧ (∀ j (hj : j < bases.length), j < k → othB q bases[j] = true) ∧ Kept [] W wr) (fun _ i _ => bases.length - (intOf i).toNat)
  case atStart => exact ⟨0, Nat.zero_le _, rfl, fun j _ hj => by omega, k1⟩
  case round =>
    obtain ⟨k, hk, rfl, hm, hkr⟩ := hrel
    have HM := Lib.hid hm
    clear hm
    by_cases hlt : k < bases.length
    · obtain ⟨ba, oa, rfl, hca⟩ := (HR.out.kept hkr).at_ (by omega)
      have xa := hca k _ (ints_get hlt)
      have HC := Lib.hid (CL.out wr bases[k] hkr (IB.out _ (List.getElem_mem hlt)))
      obtain ⟨t, ht⟩ : ∃ t, othB q bases[k] = t := ⟨_, rfl⟩
      rw [ht] at HC
      have HT := Lib.hid ht
      clear hca ht
      cases t
      · have hR := HRR.out
        rw [all_take_false hlt HT.out, Bool.false_and] at hR
        subst hR
        go_wp2_with (go_at_call 160; refine HC.out.mono ?_; rintro e w2 ⟨rfl, hk2⟩)
        go_ret
        exact ⟨rfl, hkW.trans (hkr.trans hk2)⟩
      · go_wp2_with (go_at_call 160; refine HC.out.mono ?_; rintro e w2 ⟨rfl, hk2⟩)
        go_roundw
        case rel => exact ⟨k + 1, by omega, by go_num, fun j hj hjk => by
          rcases Nat.lt_or_ge j k with h | h
          · exact HM.out j hj h
          · obtain rfl : j = k := by omega
            exact HT.out, hkr.trans hk2⟩
        case measure => simp [intOf]; omega
    · obtain rfl : k = bases.length := by omega
      have e4 := K4.out wr hkr
      have hR := HRR.out
      rw [all_of (fun j hj => HM.out j hj hj), Bool.true_and] at hR
      have hcl := CL.out wr blind hkr il
      rw [hR] at hcl
      have HC := Lib.hid hcl
      clear hR hcl
      go_wp2_with (go_at_call 160; refine HC.out.mono ?_; rintro e w2 ⟨rfl, hk2⟩)
      go_ret
      exact ⟨rfl, hkW.trans (hkr.trans hk2)⟩
end Go.Proofs.YtpcdfepndmconaaGreatDoor
namespace Go.Proofs.YtpcdfepndmconaaGreatDoor
open Go.RowKit

set_option maxHeartbeats 400000 in
theorem rvalid_any (N : Nat) (w : World) (h1 : 1 ≤ N) (h2 : N < 2305843009213693952) :
    Calls Tryz.prog 157 #[.int .i64 N] w fun e w' => e = .returned (.bool true) ∧ w = w' := by
  go_enter Tryz.func157, Tryz.ntmps157
  go_wp2
  go_ret
  exact ⟨by simp; omega, rfl⟩

set_option maxHeartbeats 800000 in
theorem rresidue_any (N : Nat) (a : Int) (w : World) (h1 : 1 ≤ N) (h2 : N < 2305843009213693952) (ha : Wire.I64 a) :
    Calls Tryz.prog 158 #[.int .i64 N, .int .i64 a] w fun e w' => e = .returned (.int .i64 ((res N a : Nat) : Int)) ∧ w = w' := by
  obtain ⟨a1, a2⟩ := ha
  obtain ⟨t1, t2⟩ := tmod_emod a N (by omega)
  have e0 := res_eq N a h1
  have e1 := res_lt N a h1
  have hn0 : ((N : Int) == 0) = false := by simp; omega
  obtain ⟨r, hr⟩ : ∃ r, res N a = r := ⟨_, rfl⟩
  rw [hr] at e0 e1 ⊢
  rw [← e0] at t1 t2
  obtain ⟨t, ht⟩ : ∃ t, a.tmod N = t := ⟨_, rfl⟩
  rw [ht] at t1 t2
  by_cases hneg : t < 0
  · have e2 := t1 hneg
    have hd : decide (t < 0) = true := by simpa using hneg
    go_enter Tryz.func158, Tryz.ntmps158
    go_wp2
    go_ret
    exact ⟨rfl, rfl⟩
  · have e2 := t2 hneg
    have hd : decide (t < 0) = false := by simpa using hneg
    go_enter Tryz.func158, Tryz.ntmps158
    go_wp2
    go_ret
    exact ⟨rfl, rfl⟩

set_option maxRecDepth 100000 in
set_option maxHeartbeats 800000 in
theorem radd_any (N : Nat) (a b : Int) (w : World) (h1 : 1 ≤ N) (h2 : N < 2305843009213693952) (ha : Wire.I64 a) (hb : Wire.I64 b) :
    Calls Tryz.prog 140 #[.int .i64 N, .int .i64 a, .int .i64 b] w fun e w' => e = .returned (.int .i64 ((addN N a b : Nat) : Int)) ∧ w = w' := by
  have V := Lib.hid (rvalid_any N w h1 h2)
  have HA := Lib.hid (rresidue_any N a w h1 h2 ha)
  have HB := Lib.hid (rresidue_any N b w h1 h2 hb)
  have l1 := res_lt N a h1
  have l2 := res_lt N b h1
  have hz' : ¬ (N : Int) = 0 := by omega
  unfold addN
  obtain ⟨x, hx⟩ : ∃ x, res N a = x := ⟨_, rfl⟩
  obtain ⟨y, hy⟩ : ∃ y, res N b = y := ⟨_, rfl⟩
  rw [hx] at HA l1 ⊢
  rw [hy] at HB l2 ⊢
  have q4 : ((x : Int) + (y : Int)) % (N : Int) < N := Int.emod_lt_of_pos _ (by omega)
  have q6 : 0 ≤ ((x : Int) + (y : Int)) % (N : Int) := Int.emod_nonneg _ (by omega)
  clear hx hy
  go_enter Tryz.func140, Tryz.ntmps140
  go_wp2_with (first
    | (go_at_call 157; refine V.out.mono ?_; rintro e w' ⟨rfl, rfl⟩)
    | (go_at_call 158; with_reducible refine HA.out.mono ?_; rintro e w' ⟨rfl, rfl⟩)
    | (go_at_call 158; with_reducible refine HB.out.mono ?_; rintro e w' ⟨rfl, rfl⟩))
  go_ret
  exact ⟨rfl, rfl⟩

theorem and_three (d : Nat) (hd : d < 9223372036854775808) : bits .and .i64 (d : Int) 3 = ((d % 4 : Nat) : Int) := by
  have hx : d &&& 3 = d % 4 := Nat.and_two_pow_sub_one_eq_mod d 2
  have h1 : BitVec.ofInt 64 (3 : Int) = BitVec.ofNat 64 3 := by decide
  have h2 : (BitVec.ofInt 64 (d : Int)).toNat = d := by
    rw [BitVec.ofInt_natCast, BitVec.toNat_ofNat]; exact Nat.mod_eq_of_lt (by omega)
  show IntKind.i64.wrap ((BitVec.ofInt 64 (d : Int) &&& BitVec.ofInt 64 (3 : Int)).toNat : Int) = _
  rw [BitVec.toNat_and, h1, h2, BitVec.toNat_ofNat, show 3 % 2 ^ 64 = 3 by decide, hx, IntKind.wrap_i64]
  omega

/-- two bits more of the second factor -/
theorem mul_digit (N x y i : Nat) : (4 * (x * (y / 2 ^ (2 * i + 2)) % N) % N + y / 2 ^ (2 * i) % 4 * x) % N = x * (y / 2 ^ (2 * i)) % N := by
  have e1 : y / 2 ^ (2 * i + 2) = y / 2 ^ (2 * i) / 4 := by rw [Nat.pow_add, ← Nat.div_div_eq_div_mul]
  rw [e1]
  generalize y / 2 ^ (2 * i) = d
  rw [Nat.add_mod, Nat.mod_mod, Nat.mul_mod_mod, ← Nat.add_mod]
  congr 1
  have := Nat.div_add_mod d 4
  conv => rhs; rw [← this]
  rw [Nat.mul_add, Nat.mul_left_comm, Nat.mul_comm x (d % 4)]

set_option maxRecDepth 100000 in
set_option maxHeartbeats 1600000 in
theorem rmul_any (N : Nat) (a b : Int) (w : World) (h1 : 1 ≤ N) (h2 : N < 2305843009213693952) (ha : Wire.I64 a) (hb : Wire.I64 b) :
    Calls Tryz.prog 82 #[.int .i64 N, .int .i64 a, .int .i64 b] w fun e w' => e = .returned (.int .i64 ((mulN N a b : Nat) : Int)) ∧ w = w' := by
  have V := Lib.hid (rvalid_any N w h1 h2)
  have HA := Lib.hid (rresidue_any N a w h1 h2 ha)
  have HB := Lib.hid (rresidue_any N b w h1 h2 hb)
  have l1 := res_lt N a h1
  have l2 := res_lt N b h1
  have hz' : ¬ (N : Int) = 0 := by omega
  unfold mulN
  obtain ⟨x, hx⟩ : ∃ x, res N a = x := ⟨_, rfl⟩
  obtain ⟨y, hy⟩ : ∃ y, res N b = y := ⟨_, rfl⟩
  rw [hx] at HA l1 ⊢
  rw [hy] at HB l2 ⊢
  clear hx hy
  by_cases hs : N ≤ 2147483648
  · have hd : decide ((N : Int) ≤ 2147483648) = true := by simp; omega
    have q0 : x * y ≤ 2147483648 * 2147483648 := Nat.mul_le_mul (by omega) (by omega)
    obtain ⟨p, hp⟩ : ∃ p, x * y = p := ⟨_, rfl⟩
    have hp' : (x : Int) * (y : Int) = (p : Int) := by rw [← hp]; simp
    rw [hp] at q0 ⊢
    have q4 : (p : Int) % (N : Int) < N := Int.emod_lt_of_pos _ (by omega)
    have q6 : 0 ≤ (p : Int) % (N : Int) := Int.emod_nonneg _ (by omega)
    clear hp
    go_enter Tryz.func82, Tryz.ntmps82
    go_wp2_with (first
      | (go_at_call 157; refine V.out.mono ?_; rintro e w' ⟨rfl, rfl⟩)
      | (go_at_call 158; with_reducible refine HA.out.mono ?_; rintro e w' ⟨rfl, rfl⟩)
      | (go_at_call 158; with_reducible refine HB.out.mono ?_; rintro e w' ⟨rfl, rfl⟩))
    go_ret
    exact ⟨rfl, rfl⟩
  · have hd : decide ((N : Int) ≤ 2147483648) = false := by simp; omega
    go_enter Tryz.func82, Tryz.ntmps82
    go_wp2_with (first
      | (go_at_call 157; refine V.out.mono ?_; rintro e w' ⟨rfl, rfl⟩)
      | (go_at_call 158; with_reducible refine HA.out.mono ?_; rintro e w' ⟨rfl, rfl⟩)
      | (go_at_call 158; with_reducible refine HB.out.mono ?_; rintro e w' ⟨rfl, rfl⟩))
    have e60 : y / 2 ^ 62 = 0 := Nat.div_eq_of_lt (by omega)
    have E60 := Lib.hid e60
    clear e60
    go_loop [9, 10] (fun vo vk => ∃ (o : Nat) (k : Int), vo = .int .i64 o ∧ vk = .int .i64 k ∧ o < N ∧ ((k = -2 ∧ o = x * y % N) ∨ ∃ K : Nat, K ≤ 60 ∧ (∃ i, K = 2 * i) ∧ k = (K : Int) ∧ o = x * (y / 2 ^ (K + 2)) % N)) (fun _ vk => (intOf vk + 2).toNat)
    case atStart => exact ⟨0, 60, rfl, rfl, by omega, Or.inr ⟨60, by omega, ⟨30, rfl⟩, rfl, by rw [E60.out, Nat.mul_zero, Nat.zero_mod]⟩⟩
    case round =>
      obtain ⟨o, k, rfl, rfl, ho, hk⟩ := hrel
      rcases hk with ⟨rfl, hk⟩ | ⟨K, hK, hi, rfl, hk⟩
      · go_wp2_with fail
        go_ret
        exact ⟨rfl, rfl⟩
      · obtain ⟨D, hD⟩ : ∃ D, y / 2 ^ K = D := ⟨_, rfl⟩
        have hDl : D < 2305843009213693952 := by rw [← hD]; exact Nat.lt_of_le_of_lt (Nat.div_le_self _ _) (by omega)
        have iS : (y : Int) / 2 ^ K = (D : Int) := by rw [← hD]; simp
        have i3 := and_three D (by omega)
        have hd4 : D % 4 < 4 := Nat.mod_lt _ (by omega)
        obtain ⟨d, hd'⟩ : ∃ d, D % 4 = d := ⟨_, rfl⟩
        obtain ⟨P, hP⟩ : ∃ P, 4 * o % N = P := ⟨_, rfl⟩
        have iP : 4 * (o : Int) % (N : Int) = (P : Int) := by rw [← hP]; simp
        have lP : P < N := by rw [← hP]; exact Nat.mod_lt _ (by omega)
        have fin : (P + d * x) % N = x * D % N := by
          obtain ⟨i, rfl⟩ := hi
          have := mul_digit N x y i
          rw [← hk, hP, hD, hd'] at this
          exact this
        have FIN := Lib.hid fin
        have HI := Lib.hid hi
        have HD := Lib.hid hD
        rw [hd'] at i3 hd4
        have hgo : decide ((0 : Int) ≤ (K : Int)) = true := by simp
        have P0 : Hid (P = (P + 0 * x) % N) := by show P = _; rw [Nat.zero_mul, Nat.add_zero, Nat.mod_eq_of_lt lP]
        clear hD hd' hP hi hk fin
        go_wp2_with fail
        go_loop [9, 12] (fun vo vi => ∃ i : Nat, ∃ o' : Nat, i ≤ d ∧ vi = .int .i64 i ∧ vo = .int .i64 o' ∧ o' = (P + i * x) % N) (fun _ vi => d - (intOf vi).toNat)
        case atStart => exact ⟨0, P, by omega, rfl, rfl, P0.out⟩
        case round =>
          obtain ⟨i, o', hi, rfl, rfl, ho'⟩ := hrel
          have lo' : o' < N := by rw [ho']; exact Nat.mod_lt _ (by omega)
          by_cases hlt : i < d
          · have hn : (o' + x) % N = (P + (i + 1) * x) % N := by
              rw [ho', Nat.mod_add_mod, Nat.add_assoc, Nat.add_mul, Nat.one_mul]
            obtain ⟨z, hz⟩ : ∃ z, (o' + x) % N = z := ⟨_, rfl⟩
            have iz : ((o' : Int) + (x : Int)) % (N : Int) = (z : Int) := by rw [← hz]; simp
            have lz : z < N := by rw [← hz]; exact Nat.mod_lt _ (by omega)
            rw [hz] at hn
            have HN := Lib.hid hn
            clear hn hz ho'
            go_wp2_with fail
            go_round
            case rel => exact ⟨i + 1, z, by omega, by go_num, by rw [iz], HN.out⟩
            case measure => simp [intOf]; omega
          · obtain rfl : i = d := by omega
            have hn := FIN.out
            rw [← ho'] at hn
            have HN := Lib.hid hn
            clear hn ho'
            go_wp2_with fail
            go_round
            case rel =>
              refine ⟨o', (K : Int) - 2, rfl, rfl, lo', ?_⟩
              obtain ⟨j, hj⟩ := HI.out
              by_cases hj0 : j = 0
              · subst hj0
                subst hj
                refine Or.inl ⟨by omega, ?_⟩
                have := HD.out
                rw [HN.out, ← this]
                simp
              · refine Or.inr ⟨K - 2, by omega, ⟨j - 1, by omega⟩, by omega, ?_⟩
                rw [HN.out, show K - 2 + 2 = K by omega, HD.out]
            case measure => simp [intOf]; omega

set_option maxRecDepth 100000 in
set_option maxHeartbeats 1000000 in
theorem rpower_any (N : Nat) (a : Int) (b : Nat) (w : World) (h1 : 2 ≤ N) (h2 : N < 2305843009213693952) (ha : Wire.I64 a) (hb : b < 9223372036854775808) :
    Calls Tryz.prog 171 #[.int .i64 N, .int .i64 a, .int .i64 b] w fun e w' => e = .returned (.int .i64 ((powN N a b : Nat) : Int)) ∧ w = w' := by
  have HA := Lib.hid (rresidue_any N a w (by omega) h2 ha)
  have l1 := res_lt N a (by omega)
  unfold powN
  obtain ⟨x0, hx⟩ : ∃ x, res N a = x := ⟨_, rfl⟩
  rw [hx] at HA l1 ⊢
  obtain ⟨T, hT⟩ : ∃ T, x0 ^ b % N = T := ⟨_, rfl⟩
  rw [hT]
  have hz' : ¬ (N : Int) = 0 := by omega
  have e1 : (1 : Int) % (N : Int) = 1 := Int.emod_eq_of_lt (by omega) (by omega)
  have h0 : 1 * x0 ^ b % N = T := by rw [Nat.one_mul]; exact hT
  have H0 := Lib.hid h0
  clear h0 hT hx
  go_enter Tryz.func171, Tryz.ntmps171
  go_wp2_with (go_at_call 158; with_reducible refine HA.out.mono ?_; rintro e w' ⟨rfl, rfl⟩)

  go_loop [2, 7, 8] (fun vb vo va => ∃ x y o : Nat, va = .int .i64 x ∧ vb = .int .i64 y ∧ vo = .int .i64 o ∧ x < N ∧ y < 9223372036854775808 ∧ o < N ∧ o * x ^ y % N = T) (fun vb _ _ => (intOf vb).toNat)
  case atStart => exact ⟨x0, b, 1, rfl, rfl, rfl, l1, hb, by omega, H0.out⟩
  case round =>
    obtain ⟨x, y, o, rfl, rfl, rfl, hx, hy, ho, hr⟩ := hrel
    obtain ⟨s1, s2⟩ := pow_step N o x y
    have resx : res N (x : Int) = x := by unfold res; rw [Int.emod_eq_of_lt (by omega) (by omega)]; omega
    have reso : res N (o : Int) = o := by unfold res; rw [Int.emod_eq_of_lt (by omega) (by omega)]; omega
    have ps := rmul_any N x x w (by omega) h2 ⟨by omega, by omega⟩ ⟨by omega, by omega⟩
    have po := rmul_any N o x w (by omega) h2 ⟨by omega, by omega⟩ ⟨by omega, by omega⟩
    unfold mulN at ps po
    rw [resx] at ps
    rw [resx, reso] at po
    have PS := Lib.hid ps
    have PO := Lib.hid po
    have HR := Lib.hid hr
    have S1 := Lib.hid s1
    have S2 := Lib.hid s2
    have lo : o * x % N < N := Nat.mod_lt _ (by omega)
    have lx : x * x % N < N := Nat.mod_lt _ (by omega)
    obtain ⟨X, hX⟩ : ∃ X, x * x % N = X := ⟨_, rfl⟩
    obtain ⟨O, hO⟩ : ∃ O, o * x % N = O := ⟨_, rfl⟩
    rw [hX] at PS S1 S2 lx
    rw [hO] at PO S1 lo
    clear s1 s2 hr hX hO ps po resx reso
    by_cases hy0 : y = 0
    · subst hy0
      have hd : decide ((0 : Int) < 0) = false := by decide
      have hT : o = T := by
        have := HR.out
        rw [Nat.pow_zero, Nat.mul_one, Nat.mod_eq_of_lt ho] at this
        exact this
      go_wp2_with fail
      go_ret
      exact ⟨rfl, rfl⟩
    · have hd : decide ((0 : Int) < (y : Int)) = true := by simp; omega
      rcases Nat.mod_two_eq_zero_or_one y with h2' | h2'
      · have hand : (y : Int) % 2 = 0 := by omega
        have hn := S2.out h2'
        rw [HR.out] at hn
        have HN := Lib.hid hn
        clear hn
        go_wp2_with (go_at_call 82; ((with_reducible refine PS.out.mono ?_); rintro e w2 ⟨rfl, rfl⟩))
        go_round
        case rel => exact ⟨X, y / 2, o, rfl, rfl, rfl, lx, by omega, ho, HN.out⟩
        case measure => simp [intOf]; omega
      · have hand : (y : Int) % 2 = 1 := by omega
        have hn := S1.out h2'
        rw [HR.out] at hn
        have HN := Lib.hid hn
        clear hn
        go_wp2_with (first
          | (go_at_call 82; ((with_reducible refine PO.out.mono ?_); rintro e w1 ⟨rfl, rfl⟩))
          | (go_at_call 82; ((with_reducible refine PS.out.mono ?_); rintro e w2 ⟨rfl, rfl⟩)))
        go_round
        case rel => exact ⟨X, y / 2, O, rfl, rfl, rfl, lx, by omega, lo, HN.out⟩
        case measure => simp [intOf]; omega
end Go.Proofs.YtpcdfepndmconaaGreatDoor
