/- SHA-256 as a function of bytes, and its words as the model spells them. -/
import Derived.Test.YtcidfldeiklcjaaGreatDoorFld5
import Derived.Deep.RegionHeld3
import Derived.Laws.Entries
/- JOINED: Fld6 Set2 Rf1 Rf2 Rf3 Rf4 ShaP -/
/- Groups: ValidGroup, Element, Power, for any numbers. -/
namespace Go.Proofs.YtcidfldeiklcjaaGreatDoor
open Go.RowKit

/-- a group that may be -/
structure GrpOk (P Q G : Int) (q : Nat) : Prop where
  hQ : Q = q
  h5 : 5 ≤ q
  hq : q < 1152921504606846976
  hP : P = ((2 * q + 1 : Nat) : Int)
  hG : 2 ≤ G
  hGP : G < P
def groupN (q : Nat) (G : Int) : Bool := Prm.primeN q && (Prm.primeN (2 * q + 1) && powN (2 * q + 1) G q == 1)
def groupB (P Q G : Int) : Bool := decide (5 ≤ Q) && (decide (Q < 1152921504606846976) && (decide (P = 2 * Q + 1) && (decide (2 ≤ G) && (decide (G < P) && groupN Q.toNat G))))
theorem GrpOk.eq {P Q G : Int} {q : Nat} (h : GrpOk P Q G q) : groupB P Q G = groupN q G := by
  obtain ⟨h1, h2, h3, h4, h5, h6⟩ := h
  subst h1
  unfold groupB
  rw [decide_eq_true (show (5 : Int) ≤ (q : Int) by omega), decide_eq_true (show (q : Int) < 1152921504606846976 by omega), decide_eq_true (show P = 2 * (q : Int) + 1 by omega), decide_eq_true h5, decide_eq_true h6]
  simp
theorem groupB_ok {P Q G : Int} (h : groupB P Q G = true) : ∃ q, GrpOk P Q G q ∧ groupN q G = true := by
  unfold groupB at h
  simp only [Bool.and_eq_true, decide_eq_true_eq] at h
  obtain ⟨h1, h2, h3, h4, h5, h6⟩ := h
  exact ⟨Q.toNat, ⟨by omega, by omega, by omega, by omega, h4, h5⟩, h6⟩

abbrev grpV (P Q G : Int) : Array Value := #[.int .i64 P, .int .i64 Q, .int .i64 G]

set_option maxRecDepth 100000 in
set_option maxHeartbeats 2000000 in
theorem validGroup_any (P Q G : Int) (w : World) (hP : Wire.I64 P) (hQ : Wire.I64 Q) (hG : Wire.I64 G) (hE : Env2 w) :
    Calls Tryz.prog 94 #[.agg (grpV P Q G)] w fun e w' => e = .returned (.bool (groupB P Q G)) ∧ Kept [] w w' := by
  obtain ⟨P1, P2⟩ := hP
  obtain ⟨Q1, Q2⟩ := hQ
  obtain ⟨G1, G2⟩ := hG
  obtain ⟨W, hW⟩ : ∃ W, w.alloc (.cells (grpV P Q G) 23) = W := ⟨_, rfl⟩
  have hb : Blk W w.heap.size 23 (grpV P Q G) := hW ▸ Blk.new _ _ _
  have hkW : Kept [] w W := hW ▸ (Kept.refl _ _).alloc _
  have hEW : Env2 W := hE.kept0 hkW
  have K0 : Hid (∀ w', Kept [] W w' → w'.cell? ⟨w.heap.size, 0, none⟩ = some (.int .i64 P)) := Kept.cellOf (hb.cell 0)
  have K1 : Hid (∀ w', Kept [] W w' → w'.cell? ⟨w.heap.size, 1, none⟩ = some (.int .i64 Q)) := Kept.cellOf (hb.cell 1)
  have K2 : Hid (∀ w', Kept [] W w' → w'.cell? ⟨w.heap.size, 2, none⟩ = some (.int .i64 G)) := Kept.cellOf (hb.cell 2)
  have e0 := K0.out W (Kept.refl _ _)
  have e1 := K1.out W (Kept.refl _ _)
  have e2 := K2.out W (Kept.refl _ _)
  have HW := Lib.hid hW
  clear hW hb
  by_cases c1 : Q < 5
  · have r : groupB P Q G = false := by unfold groupB; rw [decide_eq_false (by omega)]; rfl
    rw [r]
    have d1 : decide (Q < 5) = true := decide_eq_true c1
    go_enter Tryz.func94, Tryz.ntmps94
    go_wp2_with fail
    rw [HW.out]
    go_wp2_with fail
    go_ret
    exact ⟨rfl, hkW⟩
  have d1 : decide (Q < 5) = false := decide_eq_false c1
  by_cases c2 : 1152921504606846976 ≤ Q
  · have r : groupB P Q G = false := by unfold groupB; rw [decide_eq_false (show ¬ Q < 1152921504606846976 by omega)]; simp
    rw [r]
    have d2 : decide (1152921504606846976 ≤ Q) = true := decide_eq_true c2
    go_enter Tryz.func94, Tryz.ntmps94
    go_wp2_with fail
    rw [HW.out]
    go_wp2_with fail
    go_ret
    exact ⟨rfl, hkW⟩
  have d2 : decide (1152921504606846976 ≤ Q) = false := decide_eq_false c2
  by_cases c3 : P = 2 * Q + 1
  case neg =>
    have r : groupB P Q G = false := by unfold groupB; rw [decide_eq_false c3]; simp
    rw [r]
    have d3 : (P != 2 * Q + 1) = true := by simpa using c3
    go_enter Tryz.func94, Tryz.ntmps94
    go_wp2_with fail
    rw [HW.out]
    go_wp2_with fail
    go_ret
    exact ⟨rfl, hkW⟩
  have d3 : (P != 2 * Q + 1) = false := by simpa using c3
  by_cases c4 : G < 2
  · have r : groupB P Q G = false := by unfold groupB; rw [decide_eq_false (show ¬ 2 ≤ G by omega)]; simp
    rw [r]
    have d4 : decide (G < 2) = true := decide_eq_true c4
    have D3 := Lib.hid c3
    clear c3
    go_enter Tryz.func94, Tryz.ntmps94
    go_wp2_with fail
    rw [HW.out]
    go_wp2_with fail
    go_ret
    exact ⟨rfl, hkW⟩
  have d4 : decide (G < 2) = false := decide_eq_false c4
  by_cases c5 : P ≤ G
  · have r : groupB P Q G = false := by unfold groupB; rw [decide_eq_false (show ¬ G < P by omega)]; simp
    rw [r]
    have d5 : decide (P ≤ G) = true := decide_eq_true c5
    have D3 := Lib.hid c3
    clear c3
    go_enter Tryz.func94, Tryz.ntmps94
    go_wp2_with fail
    rw [HW.out]
    go_wp2_with fail
    go_ret
    exact ⟨rfl, hkW⟩
  have d5 : decide (P ≤ G) = false := decide_eq_false c5
  obtain ⟨q, hq⟩ : ∃ q : Nat, Q = q := ⟨Q.toNat, by omega⟩
  have hok : GrpOk P Q G q := ⟨hq, by omega, by omega, by omega, by omega, by omega⟩
  rw [hok.eq]
  unfold groupN
  have PQ : Hid (∀ w', Kept [] W w' → Calls Tryz.prog 145 #[.int .i64 q] w' fun e w'' => e = .returned (.bool (Prm.primeN q)) ∧ Kept [] w' w'') := fun w' k => prime_any q w' (by omega) (by omega) (hEW.kept0 k)
  have PP : Hid (∀ w', Kept [] W w' → Calls Tryz.prog 145 #[.int .i64 P] w' fun e w'' => e = .returned (.bool (Prm.primeN (2 * q + 1))) ∧ Kept [] w' w'') := fun w' k => by
    rw [hok.hP]
    exact prime_any (2 * q + 1) w' (by omega) (by omega) (hEW.kept0 k)
  have PW : Hid (∀ w', Calls Tryz.prog 146 #[.int .i64 P, .int .i64 G, .int .i64 q] w' fun e w'' => e = .returned (.int .i64 ((powN (2 * q + 1) G q : Nat) : Int)) ∧ Kept [] w' w'') := fun w' => by
    rw [hok.hP]
    exact fpow_any (2 * q + 1) G q w' (by omega) (by omega) ⟨by omega, by omega⟩ (by omega)
  obtain ⟨a, ha⟩ : ∃ a, Prm.primeN q = a := ⟨_, rfl⟩
  obtain ⟨b, hb⟩ : ∃ b, Prm.primeN (2 * q + 1) = b := ⟨_, rfl⟩
  obtain ⟨c, hc⟩ : ∃ c, powN (2 * q + 1) G q = c := ⟨_, rfl⟩
  rw [ha] at PQ ⊢
  rw [hb] at PP ⊢
  rw [hc] at PW ⊢
  have D3 := Lib.hid c3
  have HOK := Lib.hid hok
  subst hq
  clear c3 hok ha hb hc
  have hb1 : ((c : Int) == 1) = (c == 1) := beq_cast c 1
  cases a
  · go_enter Tryz.func94, Tryz.ntmps94
    go_wp2_with fail
    rw [HW.out]
    go_wp2_with (go_at_call 145; with_reducible refine (PQ.out W (Kept.refl _ _)).mono ?_)
    rintro e w1 ⟨rfl, k1⟩
    go_wp2_with fail
    go_ret
    exact ⟨rfl, hkW.trans k1⟩
  · go_enter Tryz.func94, Tryz.ntmps94
    go_wp2_with fail
    rw [HW.out]
    go_wp2_with (go_at_call 145; with_reducible refine (PQ.out W (Kept.refl _ _)).mono ?_)
    rintro e w1 ⟨rfl, k1⟩
    clear e0 e1 e2
    have e0 := K0.out w1 k1
    have e1 := K1.out w1 k1
    have e2 := K2.out w1 k1
    go_wp2_with (go_at_call 145; with_reducible refine (PP.out w1 k1).mono ?_)
    rintro e w2 ⟨rfl, k2⟩
    replace k2 := k1.trans k2
    clear e0 e1 e2
    have e0 := K0.out w2 k2
    have e1 := K1.out w2 k2
    have e2 := K2.out w2 k2
    cases b
    · go_wp2_with fail
      go_ret
      exact ⟨rfl, hkW.trans k2⟩
    · go_wp2_with (go_at_call 146; with_reducible refine (PW.out w2).mono ?_)
      rintro e w3 ⟨rfl, k3⟩
      go_wp2_with fail
      go_ret
      exact ⟨by rw [← hb1]; simp, hkW.trans (k2.trans k3)⟩

/-- an element of a group -/
def memB (q : Nat) (x : Int) : Bool := decide (1 ≤ x) && (decide (x < ((2 * q + 1 : Nat) : Int)) && powN (2 * q + 1) x q == 1)

set_option maxRecDepth 100000 in
set_option maxHeartbeats 2000000 in
/-- in a valid group -/
theorem element_any (P Q G x : Int) (q : Nat) (w : World) (hok : GrpOk P Q G q) (hg : groupN q G = true) (hx : Wire.I64 x) (hE : Env2 w) :
    Calls Tryz.prog 96 #[.agg (grpV P Q G), .int .i64 x] w fun e w' => e = .returned (.bool (memB q x)) ∧ Kept [] w w' := by
  have hP : Wire.I64 P := by rw [hok.hP]; have := hok.hq; exact ⟨by omega, by omega⟩
  have hQ : Wire.I64 Q := by rw [hok.hQ]; have := hok.hq; exact ⟨by omega, by omega⟩
  have hG : Wire.I64 G := by have := hok.hG; have := hok.hGP; have := hok.hq; have := hok.hP; exact ⟨by omega, by omega⟩
  obtain ⟨X1, X2⟩ := hx
  have hqq := hok.hq
  have hq5 := hok.h5
  have hPp := hok.hP
  obtain ⟨W, hW⟩ : ∃ W, w.alloc (.cells (grpV P Q G) 23) = W := ⟨_, rfl⟩
  have hb : Blk W w.heap.size 23 (grpV P Q G) := hW ▸ Blk.new _ _ _
  have hkW : Kept [] w W := hW ▸ (Kept.refl _ _).alloc _
  have hEW : Env2 W := hE.kept0 hkW
  have K0 : Hid (∀ w', Kept [] W w' → w'.cell? ⟨w.heap.size, 0, none⟩ = some (.int .i64 P)) := Kept.cellOf (hb.cell 0)
  have K1 : Hid (∀ w', Kept [] W w' → w'.cell? ⟨w.heap.size, 1, none⟩ = some (.int .i64 Q)) := Kept.cellOf (hb.cell 1)
  have K2 : Hid (∀ w', Kept [] W w' → w'.cell? ⟨w.heap.size, 2, none⟩ = some (.int .i64 G)) := Kept.cellOf (hb.cell 2)
  have e0 := K0.out W (Kept.refl _ _)
  have e1 := K1.out W (Kept.refl _ _)
  have e2 := K2.out W (Kept.refl _ _)
  have HW := Lib.hid hW
  have vg := validGroup_any P Q G W hP hQ hG hEW
  rw [hok.eq, hg] at vg
  have VG := Lib.hid vg
  have PW : Hid (∀ w', Calls Tryz.prog 146 #[.int .i64 P, .int .i64 x, .int .i64 Q] w' fun e w'' => e = .returned (.int .i64 ((powN (2 * q + 1) x q : Nat) : Int)) ∧ Kept [] w' w'') := fun w' => by
    rw [hok.hP, hok.hQ]
    exact fpow_any (2 * q + 1) x q w' (by omega) (by omega) ⟨by omega, by omega⟩ (by omega)
  have HPp := Lib.hid hPp
  clear hW hb vg
  by_cases c1 : 1 ≤ x
  case neg =>
    have r : memB q x = false := by unfold memB; rw [decide_eq_false c1]; rfl
    rw [r]
    have d1 : decide (1 ≤ x) = false := decide_eq_false c1
    clear hPp
    go_enter Tryz.func96, Tryz.ntmps96
    go_wp2_with fail
    rw [HW.out]
    go_wp2_with fail
    go_ret
    exact ⟨rfl, hkW⟩
  have d1 : decide (1 ≤ x) = true := decide_eq_true c1
  by_cases c2 : x < P
  case neg =>
    have r : memB q x = false := by unfold memB; rw [decide_eq_false (show ¬ x < ((2 * q + 1 : Nat) : Int) by omega)]; simp
    rw [r]
    have d2 : decide (x < P) = false := decide_eq_false c2
    clear hPp
    go_enter Tryz.func96, Tryz.ntmps96
    go_wp2_with fail
    rw [HW.out]
    go_wp2_with fail
    go_ret
    exact ⟨rfl, hkW⟩
  have d2 : decide (x < P) = true := decide_eq_true c2
  have r : memB q x = (powN (2 * q + 1) x q == 1) := by unfold memB; rw [decide_eq_true c1, decide_eq_true (show x < ((2 * q + 1 : Nat) : Int) by omega)]; simp
  rw [r]
  obtain ⟨c, hc⟩ : ∃ c, powN (2 * q + 1) x q = c := ⟨_, rfl⟩
  rw [hc] at PW ⊢
  have hb1 : ((c : Int) == 1) = (c == 1) := beq_cast c 1
  clear hPp hc r
  go_enter Tryz.func96, Tryz.ntmps96
  go_wp2_with fail
  rw [HW.out]
  go_wp2_with (go_at_call 94; with_reducible refine VG.out.mono ?_)
  rintro e w1 ⟨rfl, k1⟩
  clear e0 e1 e2
  have e0 := K0.out w1 k1
  have e1 := K1.out w1 k1
  go_wp2_with (go_at_call 146; with_reducible refine (PW.out w1).mono ?_)
  rintro e w3 ⟨rfl, k3⟩
  go_wp2_with fail
  go_ret
  exact ⟨by rw [← hb1]; simp, hkW.trans (k1.trans k3)⟩

theorem wrap_nat6 (p : Nat) (h : p < 9223372036854775808) : IntKind.i64.wrap (p : Int) = p := by
  rw [IntKind.wrap_i64]; omega

/-- x to the power of k in a group -/
def pwrN (q : Nat) (x k : Int) : Nat := res (2 * q + 1) x ^ res q k % (2 * q + 1)

set_option maxRecDepth 100000 in
set_option maxHeartbeats 1000000 in
theorem power_grp (P Q G x k : Int) (q : Nat) (w : World) (hok : GrpOk P Q G q) (hx : Wire.I64 x) (hk : Wire.I64 k) :
    Calls Tryz.prog 88 #[.agg (grpV P Q G), .int .i64 x, .int .i64 k] w fun e w' => e = .returned (.int .i64 ((pwrN q x k : Nat) : Int)) ∧ Kept [] w w' := by
  have hqq := hok.hq
  have hq5 := hok.h5
  have hPp := hok.hP
  have hQp := hok.hQ
  obtain ⟨p, hp⟩ : ∃ p, 2 * q + 1 = p := ⟨_, rfl⟩
  unfold pwrN
  rw [hp] at hPp ⊢
  have hp2 : 2 ≤ p := by omega
  have hp3 : p < 2305843009213693952 := by omega
  subst hPp hQp
  obtain ⟨W, hW⟩ : ∃ W, w.alloc (.cells (grpV p q G) 23) = W := ⟨_, rfl⟩
  have hb : Blk W w.heap.size 23 (grpV p q G) := hW ▸ Blk.new _ _ _
  have hkW : Kept [] w W := hW ▸ (Kept.refl _ _).alloc _
  have k0 : ∀ w', Kept [] W w' → w'.cell? ⟨w.heap.size, 0, none⟩ = some (.int .i64 p) := Kept.cellOf (hb.cell 0)
  have k1 : ∀ w', Kept [] W w' → w'.cell? ⟨w.heap.size, 1, none⟩ = some (.int .i64 q) := Kept.cellOf (hb.cell 1)
  have e0 := k0 W (Kept.refl _ _)
  have e1 := k1 W (Kept.refl _ _)
  have HW := Lib.hid hW
  have V1 := Lib.hid (fvalid_any p W (by omega) (by omega))
  have V2 := Lib.hid (fvalid_any q W (by omega) (by omega))
  have l1 := res_lt p x (by omega)
  have l2 := res_lt q k (by omega)
  obtain ⟨X, hX⟩ : ∃ X, res p x = X := ⟨_, rfl⟩
  obtain ⟨K, hK⟩ : ∃ K, res q k = K := ⟨_, rfl⟩
  have R1 : Hid (∀ w, Calls Tryz.prog 141 #[.int .i64 p, .int .i64 x] w fun e w' => e = .returned (.int .u64 ((X : Nat) : Int)) ∧ w = w') := fun w => by
    have := residue_any p x w (by omega) (by omega) hx
    rwa [hX] at this
  have R2 : Hid (∀ w, Calls Tryz.prog 141 #[.int .i64 q, .int .i64 k] w fun e w' => e = .returned (.int .u64 ((K : Nat) : Int)) ∧ w = w') := fun w => by
    have := residue_any q k w (by omega) (by omega) hk
    rwa [hK] at this
  rw [hX] at l1 ⊢
  rw [hK] at l2 ⊢
  have q4 : X ^ K % p < p := Nat.mod_lt _ (by omega)
  obtain ⟨r, hr⟩ : ∃ r, X ^ K % p = r := ⟨_, rfl⟩
  have HP : Hid (∀ w, Calls Tryz.prog 140 #[.int .i64 p, .int .u64 X, .int .u64 K] w fun e w' => e = .returned (.int .u64 ((r : Nat) : Int)) ∧ Kept [] w w') := fun w => by
    have := power_any p X K w (by omega) (by omega) l1 (by omega)
    rwa [hr] at this
  rw [hr] at q4 ⊢
  clear hW hX hK hr hp hok
  go_enter Tryz.func88, Tryz.ntmps88
  go_wp2_with fail
  rw [HW.out]
  go_wp2_with (first
    | (go_at_call 91; ((with_reducible refine V1.out.mono ?_); rintro e w' ⟨rfl, rfl⟩))
    | (go_at_call 91; ((with_reducible refine V2.out.mono ?_); rintro e w' ⟨rfl, rfl⟩)))
  clear e0 e1
  go_region_held3 (fun w' => Kept [] W w') (first | assumption | exact (Kept.refl _ _).drew | exact Kept.alloc (by assumption) _)
    (first
      | (go_at_call 141; with_reducible refine (kept_from (W := W) (by assumption) ((R1.out _).mono fun _ _ h => ⟨h.1, h.2 ▸ Kept.refl _ _⟩)).mono ?_; rintro e w2 ⟨rfl, hk2⟩)
      | (go_at_call 141; with_reducible refine (kept_from (W := W) (by assumption) ((R2.out _).mono fun _ _ h => ⟨h.1, h.2 ▸ Kept.refl _ _⟩)).mono ?_; rintro e w2 ⟨rfl, hk2⟩)
      | (go_at_call 140; with_reducible refine (kept_from (W := W) (by assumption) (HP.out _)).mono ?_; rintro e w3 ⟨rfl, hk3⟩))
  go_wp2
  go_ret
  exact ⟨by show Ending.returned (Value.int .i64 (IntKind.i64.wrap (r : Int))) = _; rw [wrap_nat6 r (by omega)], hkW.trans hk3⟩
end Go.Proofs.YtcidfldeiklcjaaGreatDoor
/- Setups: ValidSetup, for any setup. -/
namespace Go.Proofs.YtcidfldeiklcjaaGreatDoor
open Go.RowKit

structure Stp where
  P : Int
  Q : Int
  G : Int
  bases : List Int
  blind : Int
abbrev stpA (s : Stp) (v : Value) : Array Value := #[.int .i64 s.P, .int .i64 s.Q, .int .i64 s.G, v, .int .i64 s.blind]
structure StpV (w : World) (v : Value) (s : Stp) : Prop where
  form : ∃ a c, v = .agg (stpA s (.slice a s.bases.length c)) ∧ Row w 1 (.slice a s.bases.length c) s.bases.length (ints s.bases)
  ip : Wire.I64 s.P
  iq : Wire.I64 s.Q
  ig : Wire.I64 s.G
  ib : ∀ x ∈ s.bases, Wire.I64 x
  il : Wire.I64 s.blind
theorem StpV.kept {w w' : World} {v : Value} {s : Stp} (h : StpV w v s) (k : Kept [] w w') : StpV w' v s := by
  obtain ⟨⟨a, c, h1, h2⟩, h3, h4, h5, h6, h7⟩ := h
  exact ⟨⟨a, c, h1, h2.kept k⟩, h3, h4, h5, h6, h7⟩

def othB (q : Nat) (x : Int) : Bool := !(x == 1) && memB q x
def setupB (s : Stp) : Bool := groupB s.P s.Q s.G && (decide (2 ≤ s.bases.length) && (decide (s.bases.length ≤ 7) && (s.bases.all (othB s.Q.toNat) && othB s.Q.toNat s.blind)))

set_option maxRecDepth 100000 in
set_option maxHeartbeats 800000 in
theorem clo_oth (x : Int) (b : Nat) (v : Value) (s : Stp) (q : Nat) (w : World) (hb : Blk w b 26 (stpA s v)) (hok : GrpOk s.P s.Q s.G q) (hg : groupN q s.G = true) (hx : Wire.I64 x) (hE : Env2 w) :
    Calls Tryz.prog 95 #[.int .i64 x, .pointer (some ⟨b, 0, none⟩)] w fun e w' => e = .returned (.bool (othB q x)) ∧ Kept [] w w' := by
  have e0 : w.cell? ⟨b, 0, none⟩ = some (.int .i64 s.P) := hb.cell 0
  have e1 : w.cell? ⟨b, 1, none⟩ = some (.int .i64 s.Q) := hb.cell 1
  have e2 : w.cell? ⟨b, 2, none⟩ = some (.int .i64 s.G) := hb.cell 2
  have HE := Lib.hid (element_any s.P s.Q s.G x q w hok hg hx hE)
  unfold othB
  clear hb hok
  by_cases h1 : x = 1
  · subst h1
    go_enter Tryz.func95, Tryz.ntmps95
    go_wp2_with fail
    go_ret
    exact ⟨rfl, Kept.refl _ _⟩
  · have hne : (x != 1) = true := by simpa using h1
    have hne' : (x == 1) = false := by simpa using h1
    rw [hne']
    obtain ⟨t, ht⟩ : ∃ t, memB q x = t := ⟨_, rfl⟩
    rw [ht] at HE ⊢
    clear ht hne'
    go_enter Tryz.func95, Tryz.ntmps95
    go_wp2_with (go_at_call 96; refine HE.out.mono ?_; rintro e w1 ⟨rfl, hk⟩)
    go_ret
    exact ⟨rfl, hk⟩

theorem all_take_false {p : Int → Bool} {l : List Int} {k : Nat} (h : k < l.length) (hp : p l[k] = false) : l.all p = false := by
  rw [List.all_eq_false]
  exact ⟨l[k], List.getElem_mem h, by simp [hp]⟩
theorem all_of {p : Int → Bool} {l : List Int} (h : ∀ j (hj : j < l.length), p l[j] = true) : l.all p = true := by
  rw [List.all_eq_true]
  intro x hx
  obtain ⟨j, hj, rfl⟩ := List.mem_iff_getElem.1 hx
  exact h j hj

set_option maxRecDepth 100000 in
set_option maxHeartbeats 1600000 in
theorem validSetup_any (v : Value) (s : Stp) (w : World) (h : StpV w v s) (hE : Env2 w) : Calls Tryz.prog 58 #[v] w fun e w' => e = .returned (.bool (setupB s)) ∧ Kept [] w w' := by
  obtain ⟨⟨a, c, rfl, hrow⟩, ip, iq, ig, ib, il⟩ := h
  obtain ⟨P, Q, G, bases, blind⟩ := s
  simp only at ip iq ig ib il hrow ⊢
  have hlen := hrow.form
  obtain ⟨_, _, _, hl1, _⟩ := hlen
  obtain ⟨W, hW⟩ : ∃ W, w.alloc (.cells #[.int .i64 P, .int .i64 Q, .int .i64 G, .slice a bases.length c, .int .i64 blind] 26) = W := ⟨_, rfl⟩
  have hb : Blk W w.heap.size 26 #[.int .i64 P, .int .i64 Q, .int .i64 G, .slice a bases.length c, .int .i64 blind] := hW ▸ Blk.new _ _ _
  have hkW : Kept [] w W := hW ▸ (Kept.refl _ _).alloc _
  have hEW : Env2 W := hE.kept0 hkW
  have HR := Lib.hid (hrow.kept hkW)
  have HB := Lib.hid hb
  have K0 : Hid (∀ w', Kept [] W w' → w'.cell? ⟨w.heap.size, 0, none⟩ = some (.int .i64 P)) := Kept.cellOf (hb.cell 0)
  have K1 : Hid (∀ w', Kept [] W w' → w'.cell? ⟨w.heap.size, 1, none⟩ = some (.int .i64 Q)) := Kept.cellOf (hb.cell 1)
  have K2 : Hid (∀ w', Kept [] W w' → w'.cell? ⟨w.heap.size, 2, none⟩ = some (.int .i64 G)) := Kept.cellOf (hb.cell 2)
  have K3 : Hid (∀ w', Kept [] W w' → w'.cell? ⟨w.heap.size, 3, none⟩ = some (.slice a bases.length c)) := Kept.cellOf (hb.cell 3)
  have K4 : Hid (∀ w', Kept [] W w' → w'.cell? ⟨w.heap.size, 4, none⟩ = some (.int .i64 blind)) := Kept.cellOf (hb.cell 4)
  have e0 := K0.out W (Kept.refl _ _)
  have e1 := K1.out W (Kept.refl _ _)
  have e2 := K2.out W (Kept.refl _ _)
  have HW := Lib.hid hW
  have hmf : ∀ (fn : Fn) (first cap : Array Value) (w : World), (Instr.makeFunc fn first cap).run Tryz.prog w = .ok (.func fn first cap) w := fun _ _ _ _ => rfl
  have VG := Lib.hid (validGroup_any P Q G W ip iq ig hEW)
  have IB := Lib.hid ib
  obtain ⟨g, hg⟩ : ∃ g, groupB P Q G = g := ⟨_, rfl⟩
  unfold setupB
  simp only
  rw [hg] at VG ⊢
  have HG := Lib.hid hg
  clear hb hW hrow ib hg
  cases g
  · rw [Bool.false_and]
    go_enter Tryz.func58, Tryz.ntmps58
    go_wp2_with fail
    rw [HW.out]
    go_wp2_with (go_at_call 94; with_reducible refine VG.out.mono ?_)
    rintro e w1 ⟨rfl, k1⟩
    go_wp2_with fail
    go_ret
    exact ⟨rfl, hkW.trans k1⟩
  rw [Bool.true_and]
  by_cases c1 : bases.length < 2
  · rw [decide_eq_false (show ¬ 2 ≤ bases.length by omega), Bool.false_and]
    have d1 : decide ((bases.length : Int) < 2) = true := by simp; omega
    go_enter Tryz.func58, Tryz.ntmps58
    go_wp2_with fail
    rw [HW.out]
    go_wp2_with (go_at_call 94; with_reducible refine VG.out.mono ?_)
    rintro e w1 ⟨rfl, k1⟩
    clear e0 e1 e2
    have e3 := K3.out w1 k1
    go_wp2_with fail
    go_ret
    exact ⟨rfl, hkW.trans k1⟩
  have d1 : decide ((bases.length : Int) < 2) = false := by simp; omega
  rw [decide_eq_true (show 2 ≤ bases.length by omega), Bool.true_and]
  by_cases c2 : 7 < bases.length
  · rw [decide_eq_false (show ¬ bases.length ≤ 7 by omega), Bool.false_and]
    have d2 : decide ((7 : Int) < (bases.length : Int)) = true := by simp; omega
    go_enter Tryz.func58, Tryz.ntmps58
    go_wp2_with fail
    rw [HW.out]
    go_wp2_with (go_at_call 94; with_reducible refine VG.out.mono ?_)
    rintro e w1 ⟨rfl, k1⟩
    clear e0 e1 e2
    have e3 := K3.out w1 k1
    go_wp2_with fail
    go_ret
    exact ⟨rfl, hkW.trans k1⟩
  have d2 : decide ((7 : Int) < (bases.length : Int)) = false := by simp; omega
  rw [decide_eq_true (show bases.length ≤ 7 by omega), Bool.true_and]
  obtain ⟨q, hok, hgn⟩ := groupB_ok HG.out
  have hqt : Q.toNat = q := by have := hok.hQ; omega
  rw [hqt]
  have CL : Hid (∀ w' x, Kept [] W w' → Wire.I64 x → Calls Tryz.prog 95 #[.int .i64 x, .pointer (some ⟨w.heap.size, 0, none⟩)] w' fun e w2 => e = .returned (.bool (othB q x)) ∧ Kept [] w' w2) :=
    fun w' x k hx => clo_oth x _ _ ⟨P, Q, G, bases, blind⟩ q w' (HB.out.kept k (by simp)) hok hgn hx (hEW.kept0 k)
  obtain ⟨R, hR⟩ : ∃ R, (bases.all (othB q) && othB q blind) = R := ⟨_, rfl⟩
  rw [hR]
  have HRR := Lib.hid hR
  clear hR hok hqt
  go_enter Tryz.func58, Tryz.ntmps58
  go_wp2_with fail
  rw [HW.out]
  go_wp2_with (go_at_call 94; with_reducible refine VG.out.mono ?_)
  rintro e w1 ⟨rfl, k1⟩
  clear e0 e1 e2
  have e3 := K3.out w1 k1
  go_wp2_with fail
  clear e3
  go_loopw [5, 26] (fun _ i wr => ∃ k : Nat, k ≤ bases.length ∧ i = .int .i64 k ∧ (∀ j (hj : j < bases.length), j < k → othB q bases[j] = true) ∧ Kept [] W wr) (fun _ i _ => bases.length - (intOf i).toNat)
  case atStart => exact ⟨0, Nat.zero_le _, rfl, fun j _ hj => by omega, k1⟩
  case round =>
    obtain ⟨k, hk, rfl, hm, hkr⟩ := hrel
    have HM := Lib.hid hm
    clear hm
    by_cases hlt : k < bases.length
    · obtain ⟨ba, oa, rfl, hca⟩ := (HR.out.kept hkr).at_ (by omega)
      have xa := hca k _ (ints_get hlt)
      have HC := Lib.hid (CL.out wr bases[k] hkr (IB.out _ (List.getElem_mem hlt)))
      obtain ⟨t, ht⟩ : ∃ t, othB q bases[k] = t := ⟨_, rfl⟩
      rw [ht] at HC
      have HT := Lib.hid ht
      clear hca ht
      cases t
      · have hR := HRR.out
        rw [all_take_false hlt HT.out, Bool.false_and] at hR
        subst hR
        go_wp2_with (go_at_call 95; refine HC.out.mono ?_; rintro e w2 ⟨rfl, hk2⟩)
        go_ret
        exact ⟨rfl, hkW.trans (hkr.trans hk2)⟩
      · go_wp2_with (go_at_call 95; refine HC.out.mono ?_; rintro e w2 ⟨rfl, hk2⟩)
        go_roundw
        case rel => exact ⟨k + 1, by omega, by go_num, fun j hj hjk => by
          rcases Nat.lt_or_ge j k with h | h
          · exact HM.out j hj h
          · obtain rfl : j = k := by omega
            exact HT.out, hkr.trans hk2⟩
        case measure => simp [intOf]; omega
    · obtain rfl : k = bases.length := by omega
      have e4 := K4.out wr hkr
      have hR := HRR.out
      rw [all_of (fun j hj => HM.out j hj hj), Bool.true_and] at hR
      have hcl := CL.out wr blind hkr il
      rw [hR] at hcl
      have HC := Lib.hid hcl
      clear hR hcl
      go_wp2_with (go_at_call 95; refine HC.out.mono ?_; rintro e w2 ⟨rfl, hk2⟩)
      go_ret
      exact ⟨rfl, hkW.trans (hkr.trans hk2)⟩
end Go.Proofs.YtcidfldeiklcjaaGreatDoor
/- The reference's arithmetic modulo a number below 2^61: Valid, Residue, Add, Mul, power. -/
namespace Go.Proofs.YtcidfldeiklcjaaGreatDoor
open Go.RowKit

end Go.Proofs.YtcidfldeiklcjaaGreatDoor
/- The reference's primality test and groups: bases, passes, Prime, ValidGroup, Member, Power. -/
namespace Go.Proofs.YtcidfldeiklcjaaGreatDoor
open Go.RowKit

theorem res_small {N b : Nat} (h : b < N) : res N (b : Int) = b := by
  unfold res
  rw [Int.emod_eq_of_lt (by omega) (by omega)]
  omega

end Go.Proofs.YtcidfldeiklcjaaGreatDoor
/- The reference's groups: ValidGroup, Member, Power. -/
namespace Go.Proofs.YtcidfldeiklcjaaGreatDoor
open Go.RowKit

end Go.Proofs.YtcidfldeiklcjaaGreatDoor
/- The reference's setups: ValidSetup. -/
namespace Go.Proofs.YtcidfldeiklcjaaGreatDoor
open Go.RowKit

end Go.Proofs.YtcidfldeiklcjaaGreatDoor
namespace Go.ShaP
abbrev W := BitVec 32
def rotr (x : W) (n : Nat) : W := (x >>> n) ||| (x <<< (32 - n))
def sig0 (x : W) : W := rotr x 7 ^^^ rotr x 18 ^^^ (x >>> 3)
def sig1 (x : W) : W := rotr x 17 ^^^ rotr x 19 ^^^ (x >>> 10)
def ch (e f g : W) : W := (e &&& f) ^^^ (~~~e &&& g)
def maj (a b c : W) : W := (a &&& b) ^^^ (a &&& c) ^^^ (b &&& c)

theorem ch_eq (e f g : W) : g ^^^ (e &&& (f ^^^ g)) = ch e f g := by
  unfold ch
  ext i hi
  simp only [BitVec.getElem_xor, BitVec.getElem_and, BitVec.getElem_not]
  cases e[i] <;> cases f[i] <;> cases g[i] <;> rfl
theorem maj_eq (a b c : W) : (a &&& b) ||| (c &&& (a ||| b)) = maj a b c := by
  unfold maj
  ext i hi
  simp only [BitVec.getElem_xor, BitVec.getElem_and, BitVec.getElem_or]
  cases a[i] <;> cases b[i] <;> cases c[i] <;> rfl

structure S8 where
  a : W
  b : W
  c : W
  d : W
  e : W
  f : W
  g : W
  h : W
def S8.list (s : S8) : List W := [s.a, s.b, s.c, s.d, s.e, s.f, s.g, s.h]

def tmp (v : S8) (k w : W) : W := v.h + (rotr v.e 6 ^^^ rotr v.e 11 ^^^ rotr v.e 25) + ch v.e v.f v.g + k + w
def step (v : S8) (k w : W) : S8 :=
  ⟨tmp v k w + (rotr v.a 2 ^^^ rotr v.a 13 ^^^ rotr v.a 22) + maj v.a v.b v.c, v.a, v.b, v.c, v.d + tmp v k w, v.e, v.f, v.g⟩

def by4 (b : List UInt8) (i : Nat) : W :=
  (((BitVec.ofNat 32 (b.getD (4 * i) 0).toNat) <<< 24 ||| (BitVec.ofNat 32 (b.getD (4 * i + 1) 0).toNat) <<< 16) ||| (BitVec.ofNat 32 (b.getD (4 * i + 2) 0).toNat) <<< 8) ||| BitVec.ofNat 32 (b.getD (4 * i + 3) 0).toNat
/-- the next word of the schedule -/
def more (w : List W) : W := w.getD (w.length - 16) 0 + sig0 (w.getD (w.length - 15) 0) + w.getD (w.length - 7) 0 + sig1 (w.getD (w.length - 2) 0)
/-- the first k words of the schedule -/
def sched (b : List UInt8) : Nat → List W
  | 0 => []
  | k + 1 => sched b k ++ [if k < 16 then by4 b k else more (sched b k)]
theorem sched_length (b : List UInt8) (k : Nat) : (sched b k).length = k := by
  induction k with
  | zero => rfl
  | succ k ih => simp [sched, ih]

def kTab : List W := [
  0x428a2f98#32, 0x71374491#32, 0xb5c0fbcf#32, 0xe9b5dba5#32, 0x3956c25b#32, 0x59f111f1#32, 0x923f82a4#32, 0xab1c5ed5#32,
  0xd807aa98#32, 0x12835b01#32, 0x243185be#32, 0x550c7dc3#32, 0x72be5d74#32, 0x80deb1fe#32, 0x9bdc06a7#32, 0xc19bf174#32,
  0xe49b69c1#32, 0xefbe4786#32, 0x0fc19dc6#32, 0x240ca1cc#32, 0x2de92c6f#32, 0x4a7484aa#32, 0x5cb0a9dc#32, 0x76f988da#32,
  0x983e5152#32, 0xa831c66d#32, 0xb00327c8#32, 0xbf597fc7#32, 0xc6e00bf3#32, 0xd5a79147#32, 0x06ca6351#32, 0x14292967#32,
  0x27b70a85#32, 0x2e1b2138#32, 0x4d2c6dfc#32, 0x53380d13#32, 0x650a7354#32, 0x766a0abb#32, 0x81c2c92e#32, 0x92722c85#32,
  0xa2bfe8a1#32, 0xa81a664b#32, 0xc24b8b70#32, 0xc76c51a3#32, 0xd192e819#32, 0xd6990624#32, 0xf40e3585#32, 0x106aa070#32,
  0x19a4c116#32, 0x1e376c08#32, 0x2748774c#32, 0x34b0bcb5#32, 0x391c0cb3#32, 0x4ed8aa4a#32, 0x5b9cca4f#32, 0x682e6ff3#32,
  0x748f82ee#32, 0x78a5636f#32, 0x84c87814#32, 0x8cc70208#32, 0x90befffa#32, 0xa4506ceb#32, 0xbef9a3f7#32, 0xc67178f2#32]
def first : S8 := ⟨0x6a09e667#32, 0xbb67ae85#32, 0x3c6ef372#32, 0xa54ff53a#32, 0x510e527f#32, 0x9b05688c#32, 0x1f83d9ab#32, 0x5be0cd19#32⟩

def rounds (h : S8) (w : List W) : Nat → S8
  | 0 => h
  | k + 1 => step (rounds h w k) (kTab.getD k 0) (w.getD k 0)
def plus (x y : S8) : S8 := ⟨x.a + y.a, x.b + y.b, x.c + y.c, x.d + y.d, x.e + y.e, x.f + y.f, x.g + y.g, x.h + y.h⟩
def mix (h : S8) (b : List UInt8) : S8 := plus (rounds h (sched b 64) 64) h

/-- the state after the first k blocks -/
def mixed (p : List UInt8) : Nat → S8
  | 0 => first
  | k + 1 => mix (mixed p k) ((p.drop (64 * k)).take 64)

/-- bytes of zero up to 56 modulo 64 -/
def gap (n : Nat) : Nat := (120 - n % 64) % 64
def lenBytes (n : Nat) : List UInt8 := (List.range 8).map fun j => UInt8.ofNat (8 * n % 18446744073709551616 / 2 ^ (56 - 8 * j))
def padded (s : List UInt8) : List UInt8 := s ++ [128] ++ List.replicate (gap (s.length + 1)) 0 ++ lenBytes s.length
def wbytes (x : W) : List UInt8 := [UInt8.ofNat (x.toNat / 16777216), UInt8.ofNat (x.toNat / 65536), UInt8.ofNat (x.toNat / 256), UInt8.ofNat x.toNat]
def sha (s : List UInt8) : List UInt8 := (mixed (padded s) ((padded s).length / 64)).list.flatMap wbytes

theorem gap_lt (n : Nat) : gap n < 64 := Nat.mod_lt _ (by omega)
theorem gap_mod (n : Nat) : (n + gap n) % 64 = 56 := by unfold gap; omega
theorem gap_least (n j : Nat) (h : j < gap n) : (n + j) % 64 ≠ 56 := by unfold gap at h; omega
theorem lenBytes_length (n : Nat) : (lenBytes n).length = 8 := by simp [lenBytes]
/-! ### the words as the model spells them -/
theorem ofInt_w (x : W) : BitVec.ofInt IntKind.u32.bits (x.toNat : Int) = x := by
  show BitVec.ofInt 32 (x.toNat : Int) = x
  rw [BitVec.ofInt_natCast]; simp
theorem wrap_w (x : W) : IntKind.u32.wrap (x.toNat : Int) = (x.toNat : Int) := by
  have := x.isLt
  simp [IntKind.wrap, IntKind.bits, IntKind.signed]
  omega
theorem and_w (x y : W) : bits .and .u32 (x.toNat : Int) (y.toNat : Int) = ((x &&& y).toNat : Int) := by
  unfold bits; simp only [ofInt_w]; exact wrap_w _
theorem or_w (x y : W) : bits .or .u32 (x.toNat : Int) (y.toNat : Int) = ((x ||| y).toNat : Int) := by
  unfold bits; simp only [ofInt_w]; exact wrap_w _
theorem xor_w (x y : W) : bits .xor .u32 (x.toNat : Int) (y.toNat : Int) = ((x ^^^ y).toNat : Int) := by
  unfold bits; simp only [ofInt_w]; exact wrap_w _
theorem add_w (x y : W) : IntKind.u32.wrap ((x.toNat : Int) + (y.toNat : Int)) = ((x + y).toNat : Int) := by
  simp [IntKind.wrap, IntKind.bits, IntKind.signed, BitVec.toNat_add]
theorem shr_w (x : W) (n : Nat) : (x.toNat : Int) / ((2 ^ n : Nat) : Int) = ((x >>> n).toNat : Int) := by
  rw [BitVec.toNat_ushiftRight, Nat.shiftRight_eq_div_pow]; simp
theorem shl_w (x : W) (n : Nat) : IntKind.u32.wrap ((x.toNat : Int) * ((2 ^ n : Nat) : Int)) = ((x <<< n).toNat : Int) := by
  rw [BitVec.toNat_shiftLeft, Nat.shiftLeft_eq]
  simp [IntKind.wrap, IntKind.bits, IntKind.signed]
theorem shr3_w (x : W) : (x.toNat : Int) / (8 : Int) = ((x >>> 3).toNat : Int) := shr_w x 3
theorem shr10_w (x : W) : (x.toNat : Int) / (1024 : Int) = ((x >>> 10).toNat : Int) := shr_w x 10
theorem shl24_w (x : W) : IntKind.u32.wrap ((x.toNat : Int) * (16777216 : Int)) = ((x <<< 24).toNat : Int) := shl_w x 24
theorem shl16_w (x : W) : IntKind.u32.wrap ((x.toNat : Int) * (65536 : Int)) = ((x <<< 16).toNat : Int) := shl_w x 16
theorem shl8_w (x : W) : IntKind.u32.wrap ((x.toNat : Int) * (256 : Int)) = ((x <<< 8).toNat : Int) := shl_w x 8
/-- a byte as a word -/
def zx (c : UInt8) : W := BitVec.ofNat 32 c.toNat
theorem zx_toNat (c : UInt8) : (zx c).toNat = c.toNat := by
  have := c.toNat_lt
  unfold zx
  rw [BitVec.toNat_ofNat]
  exact Nat.mod_eq_of_lt (by omega)
theorem by4_zx (b : List UInt8) (i : Nat) : by4 b i = (((zx (b.getD (4 * i) 0)) <<< 24 ||| (zx (b.getD (4 * i + 1) 0)) <<< 16) ||| (zx (b.getD (4 * i + 2) 0)) <<< 8) ||| zx (b.getD (4 * i + 3) 0) := rfl
theorem wrap_u32 (n : Int) : IntKind.u32.wrap n = n % 4294967296 := by simp [IntKind.wrap, IntKind.bits, IntKind.signed]
theorem mul24_w {x : W} (h : x.toNat < 256) : (x.toNat : Int) * (16777216 : Int) = ((x <<< 24).toNat : Int) := by
  have e := shl24_w x
  rw [wrap_u32, Int.emod_eq_of_lt (by omega) (by omega)] at e
  exact e
theorem mul16_w {x : W} (h : x.toNat < 256) : (x.toNat : Int) * (65536 : Int) = ((x <<< 16).toNat : Int) := by
  have e := shl16_w x
  rw [wrap_u32, Int.emod_eq_of_lt (by omega) (by omega)] at e
  exact e
theorem mul8_w {x : W} (h : x.toNat < 256) : (x.toNat : Int) * (256 : Int) = ((x <<< 8).toNat : Int) := by
  have e := shl8_w x
  rw [wrap_u32, Int.emod_eq_of_lt (by omega) (by omega)] at e
  exact e
end Go.ShaP
