/- Signatures: Signed. -/
import Derived.Test.YtcidfldeiklcjaaGreatDoorDeL
import Derived.Test.YtcidfldeiklcjaaGreatDoorIvu
import Derived.Test.YtcidfldeiklcjaaGreatDoorEbd
/- JOINED: Ovr Sgd -/
/- Quotients in a group; that a signature holds. -/
namespace Go.Proofs.YtcidfldeiklcjaaGreatDoor
open Go.RowKit ShaP

/-- the inverse of an element -/
def invN (q : Nat) (b : Int) : Nat := res (2 * q + 1) b ^ (q - 1) % (2 * q + 1)
def overN (q : Nat) (a b : Int) : Nat := mulN (2 * q + 1) a (invN q b)
theorem invN_cg {q : Nat} {b : Int} (hq : 1 ≤ q) (h : powN (2 * q + 1) b q = 1) : Itp.Cg ((2 * q + 1 : Nat) : Int) ((invN q b : Nat) * b) 1 := by
  obtain ⟨P, hP⟩ : ∃ P, 2 * q + 1 = P := ⟨_, rfl⟩
  have hP3 : 3 ≤ P := by omega
  unfold invN
  unfold powN at h
  rw [hP] at h ⊢
  obtain ⟨x, hx⟩ : ∃ x, res P b = x := ⟨_, rfl⟩
  have hc := mod_cg P b (by omega)
  rw [hx] at h hc ⊢
  have h1 : Itp.Cg (P : Int) ((x ^ (q - 1) % P : Nat) : Int) ((x ^ (q - 1) : Nat) : Int) := by rw [Int.natCast_emod]; exact Itp.Cg.mod _ _
  have h2 : Itp.Cg (P : Int) (((x ^ (q - 1) * x : Nat)) : Int) 1 := by
    rw [← Nat.pow_succ, show (q - 1).succ = q by omega]
    have : Itp.Cg (P : Int) ((x ^ q % P : Nat) : Int) ((x ^ q : Nat) : Int) := by rw [Int.natCast_emod]; exact Itp.Cg.mod _ _
    rw [h] at this
    exact this.symm
  rw [Int.natCast_mul] at h2
  exact (h1.mul hc.symm).trans h2
theorem gcd_one {P x q : Nat} (hq : 1 ≤ q) (h : x ^ q % P = 1) : Nat.gcd P x = 1 := by
  have h1 := Nat.gcd_dvd_left P x
  have h2 := Nat.gcd_dvd_right P x
  have h3 : Nat.gcd P x ∣ x ^ q := by
    obtain ⟨m, rfl⟩ : ∃ m, q = m + 1 := ⟨q - 1, by omega⟩
    rw [Nat.pow_succ]
    exact Nat.dvd_trans h2 (Nat.dvd_mul_left _ _)
  have h4 := (Nat.dvd_mod_iff h1).2 h3
  rw [h] at h4
  exact Nat.dvd_one.1 h4

set_option maxRecDepth 100000 in
set_option maxHeartbeats 1000000 in
theorem pow_minus (q : Nat) (b : Int) (w : World) (hq : 5 ≤ q) (hq2 : q < 1152921504606846976) (hb : Wire.I64 b) (h : powN (2 * q + 1) b q = 1) :
    Calls Tryz.prog 146 #[.int .i64 ((2 * q + 1 : Nat) : Int), .int .i64 b, .int .i64 (-1)] w fun e w' => e = .returned (.int .i64 ((invN q b : Nat) : Int)) ∧ Kept [] w w' := by
  have hcg := invN_cg (by omega) h
  have hlt : invN q b < 2 * q + 1 := Nat.mod_lt _ (by omega)
  have hg : Nat.gcd (2 * q + 1) (res (2 * q + 1) b) = 1 := gcd_one (by omega) (q := q) h
  obtain ⟨P, hP⟩ : ∃ P, 2 * q + 1 = P := ⟨_, rfl⟩
  rw [hP] at hcg hlt hg ⊢
  have V := Lib.hid (fvalid_any P w (by omega) (by omega))
  have IV := Lib.hid (finv_u P b (invN q b) w (by omega) (by omega) hb hg hlt hcg)
  obtain ⟨u, hu⟩ : ∃ u, invN q b = u := ⟨_, rfl⟩
  rw [hu] at hlt IV ⊢
  have PW : Hid (∀ w', Calls Tryz.prog 140 #[.int .i64 P, .int .u64 u, .int .u64 1] w' fun e w2 => e = .returned (.int .u64 (u : Int)) ∧ Kept [] w' w2) := fun w' => by
    have := power_any P u 1 w' (by omega) (by omega) hlt (by omega)
    rw [Nat.pow_one, Nat.mod_eq_of_lt hlt] at this
    exact this
  have c1 : decide ((0 : Int) ≤ -1) = false := by decide
  have c2 : IntKind.u64.wrap (u : Int) = (u : Int) := by rw [IntKind.wrap_u64]; omega
  have c3 : IntKind.i64.wrap (u : Int) = (u : Int) := by rw [IntKind.wrap_i64]; omega
  have c4 : IntKind.u64.wrap (-IntKind.u64.wrap (-1)) = 1 := by decide
  clear hcg hg hu hP h
  go_enter Tryz.func146, Tryz.ntmps146
  go_wp2_with (first
    | (go_at_call 91; ((with_reducible refine V.out.mono ?_); rintro e w1 ⟨rfl, rfl⟩))
    | (go_at_call 187; with_reducible refine IV.out.mono ?_))
  first | (rintro e w1 rfl k1) | (rintro e w1 ⟨rfl, k1⟩)
  go_wp2_with (go_at_call 140; with_reducible refine (PW.out _).mono ?_)
  first | (rintro e w2 rfl k2) | (rintro e w2 ⟨rfl, k2⟩)
  go_wp2_with fail
  go_ret
  exact ⟨rfl, k1.trans k2⟩

set_option maxRecDepth 100000 in
set_option maxHeartbeats 1000000 in
theorem times_any (P Q G a b : Int) (q : Nat) (w : World) (hok : GrpOk P Q G q) (ha : Wire.I64 a) (hb : Wire.I64 b) :
    Calls Tryz.prog 161 #[.agg (grpV P Q G), .int .i64 a, .int .i64 b] w fun e w' => e = .returned (.int .i64 ((mulN (2 * q + 1) a b : Nat) : Int)) ∧ Kept [] w w' := by
  have hqq := hok.hq
  have hq5 := hok.h5
  have hPp := hok.hP
  have hQp := hok.hQ
  obtain ⟨p, hp⟩ : ∃ p, 2 * q + 1 = p := ⟨_, rfl⟩
  rw [hp] at hPp ⊢
  subst hPp hQp
  obtain ⟨W, hW⟩ : ∃ W, w.alloc (.cells (grpV p q G) 23) = W := ⟨_, rfl⟩
  have hbk : Blk W w.heap.size 23 (grpV p q G) := hW ▸ Blk.new _ _ _
  have hkW : Kept [] w W := hW ▸ (Kept.refl _ _).alloc _
  have e0 : W.cell? ⟨w.heap.size, 0, none⟩ = some (.int .i64 p) := hbk.cell 0
  have e1 : W.cell? ⟨w.heap.size, 1, none⟩ = some (.int .i64 q) := hbk.cell 1
  have HW := Lib.hid hW
  have V2 := Lib.hid (fvalid_any q W (by omega) (by omega))
  have MU := Lib.hid (fmul_any p a b W (by omega) (by omega) ha hb)
  obtain ⟨r, hr⟩ : ∃ r, mulN p a b = r := ⟨_, rfl⟩
  rw [hr] at MU ⊢
  clear hW hbk hp hok hr
  show Calls _ _ #[.agg #[.int .i64 p, .int .i64 q, .int .i64 G], _, _] _ _
  go_enter Tryz.func161, Tryz.ntmps161
  go_upto_region 1 with (fail)
  have hW' : w.alloc (.cells #[.int .i64 p, .int .i64 q, .int .i64 G] 23) = W := HW.out
  rw [hW']
  clear hW'
  go_wp2_with (first
    | (go_at_call 91; ((with_reducible refine V2.out.mono ?_); rintro e w' ⟨rfl, rfl⟩))
    | (go_at_call 90; with_reducible refine MU.out.mono ?_; rintro e w2 ⟨rfl, k2⟩))
  go_ret
  exact ⟨rfl, hkW.trans k2⟩

set_option maxRecDepth 100000 in
set_option maxHeartbeats 1000000 in
theorem over_any (P Q G a b : Int) (q : Nat) (w : World) (hok : GrpOk P Q G q) (ha : Wire.I64 a) (hb : Wire.I64 b) (h : powN (2 * q + 1) b q = 1) :
    Calls Tryz.prog 107 #[.agg (grpV P Q G), .int .i64 a, .int .i64 b] w fun e w' => e = .returned (.int .i64 ((overN q a b : Nat) : Int)) ∧ Kept [] w w' := by
  have hqq := hok.hq
  have hq5 := hok.h5
  have hPp := hok.hP
  obtain ⟨W, hW⟩ : ∃ W, w.alloc (.cells (grpV P Q G) 23) = W := ⟨_, rfl⟩
  have hbk : Blk W w.heap.size 23 (grpV P Q G) := hW ▸ Blk.new _ _ _
  have hkW : Kept [] w W := hW ▸ (Kept.refl _ _).alloc _
  have hlt : invN q b < 2 * q + 1 := Nat.mod_lt _ (by omega)
  have PM : Hid (∀ w', Calls Tryz.prog 146 #[.int .i64 P, .int .i64 b, .int .i64 (-1)] w' fun e w2 => e = .returned (.int .i64 ((invN q b : Nat) : Int)) ∧ Kept [] w' w2) := fun w' => by
    rw [hPp]; exact pow_minus q b w' (by omega) hqq hb h
  have TM : Hid (∀ w', Calls Tryz.prog 161 #[.agg #[.int .i64 P, .int .i64 Q, .int .i64 G], .int .i64 a, .int .i64 ((invN q b : Nat) : Int)] w' fun e w2 => e = .returned (.int .i64 ((overN q a b : Nat) : Int)) ∧ Kept [] w' w2) := fun w' =>
    times_any P Q G a _ q w' hok ha ⟨by omega, by omega⟩
  obtain ⟨u, hu⟩ : ∃ u, invN q b = u := ⟨_, rfl⟩
  obtain ⟨r, hr⟩ : ∃ r, overN q a b = r := ⟨_, rfl⟩
  rw [hu] at PM TM
  rw [hr] at TM ⊢
  have e0 : ∀ w', Kept [] W w' → w'.cell? ⟨w.heap.size, 0, none⟩ = some (.int .i64 P) := Kept.cellOf (hbk.cell 0)
  have e1 : ∀ w', Kept [] W w' → w'.cell? ⟨w.heap.size, 1, none⟩ = some (.int .i64 Q) := Kept.cellOf (hbk.cell 1)
  have e2 : ∀ w', Kept [] W w' → w'.cell? ⟨w.heap.size, 2, none⟩ = some (.int .i64 G) := Kept.cellOf (hbk.cell 2)
  have HW := Lib.hid hW
  clear hW hbk hu hr h hok hPp
  show Calls _ _ #[.agg #[.int .i64 P, .int .i64 Q, .int .i64 G], _, _] _ _
  go_enter Tryz.func107, Tryz.ntmps107
  go_upto_region 1 with (fail)
  have hW' : w.alloc (.cells #[.int .i64 P, .int .i64 Q, .int .i64 G] 23) = W := HW.out
  rw [hW']
  clear hW'
  go_region_held3 (fun w' => Kept [] W w') (first | assumption | exact (Kept.refl _ _).drew)
    (first
      | (go_at_call 146; with_reducible refine (kept_from (W := W) (by assumption) (PM.out _)).mono ?_; rintro e w2 ⟨rfl, hk2⟩)
      | (go_at_call 161; with_reducible refine (kept_from (W := W) (by assumption) (TM.out _)).mono ?_; rintro e w3 ⟨rfl, hk3⟩))
  go_wp2_with fail
  go_ret
  exact ⟨rfl, hkW.trans hk3⟩
end Go.Proofs.YtcidfldeiklcjaaGreatDoor
namespace Go.Proofs.YtcidfldeiklcjaaGreatDoor
open Go.RowKit ShaP

/-- whether a signature holds -/
def sigN (q : Nat) (G pub : Int) (msg : List UInt8) (c t : Int) : Int := (numN q (chaE msg pub (overN q (pwrN q G t : Nat) (pwrN q pub c : Nat) : Nat)) : Nat)
def sigB (s : Stp) (pub : Int) (msg : List UInt8) (c t : Int) : Bool := setupB s && (memB s.Q.toNat pub && (expoB s c && (expoB s t && decide (sigN s.Q.toNat s.G pub msg c t = c))))
theorem pwrN_unit {q : Nat} {x k : Int} (hm : memB q x = true) : powN (2 * q + 1) (pwrN q x k : Nat) q = 1 := by
  unfold memB at hm
  simp only [Bool.and_eq_true, decide_eq_true_eq, beq_iff_eq] at hm
  have h := hm.2.2
  have hq : 0 < q := by
    rcases Nat.eq_zero_or_pos q with rfl | hq
    · simp [powN] at h
    · exact hq
  have hlt : pwrN q x k < 2 * q + 1 := Nat.mod_lt _ (by omega)
  unfold powN at h ⊢
  rw [res_small hlt]
  unfold pwrN
  obtain ⟨P, hP⟩ : ∃ P, 2 * q + 1 = P := ⟨_, rfl⟩
  rw [hP] at h ⊢
  have hP1 : 1 < P := by omega
  clear hlt hm hP
  rw [← Nat.pow_mod, ← Nat.pow_mul, Nat.mul_comm, Nat.pow_mul, Nat.pow_mod, h, Nat.one_pow]
  exact Nat.mod_eq_of_lt hP1

set_option maxRecDepth 100000 in
set_option maxHeartbeats 4000000 in
theorem signed_any (v : Value) (s : Stp) (pub c t : Int) (msg : List UInt8) (w : World) (h : StpV w v s) (ipb : Wire.I64 pub) (ic : Wire.I64 c) (it : Wire.I64 t) (hm : msg.length ≤ 50000000) (hE : Env2 w) :
    Calls Tryz.prog 71 #[v, .int .i64 pub, .string ⟨msg.toArray⟩, .agg #[.int .i64 c, .int .i64 t]] w fun e w' => e = .returned (.bool (sigB s pub msg c t)) ∧ Kept [] w w' := by
  have h' := h
  obtain ⟨⟨ad, cc, rfl, hrow⟩, ip, iq, ig, ib, il⟩ := h'
  obtain ⟨W, hW⟩ : ∃ W, ((w.alloc (.cells (stpA s (.slice ad s.bases.length cc)) 26)).alloc (.cells #[.int .i64 c, .int .i64 t] 50)).alloc (.cells #[.int .i64 s.P, .int .i64 s.Q, .int .i64 s.G] 23) = W := ⟨_, rfl⟩
  have hb : Blk W w.heap.size 26 (stpA s (.slice ad s.bases.length cc)) := hW ▸ ((Blk.new _ _ _).alloc _).alloc _
  have hz : Blk W (w.heap.size + 1) 50 #[.int .i64 c, .int .i64 t] := by
    have := (Blk.new (w.alloc (.cells (stpA s (.slice ad s.bases.length cc)) 26)) 50 #[.int .i64 c, .int .i64 t]).alloc (.cells #[.int .i64 s.P, .int .i64 s.Q, .int .i64 s.G] 23)
    rw [hW, World.size_alloc] at this
    exact this
  have hg : Blk W (w.heap.size + 1 + 1) 23 #[.int .i64 s.P, .int .i64 s.Q, .int .i64 s.G] := by
    have := Blk.new ((w.alloc (.cells (stpA s (.slice ad s.bases.length cc)) 26)).alloc (.cells #[.int .i64 c, .int .i64 t] 50)) 23 #[.int .i64 s.P, .int .i64 s.Q, .int .i64 s.G]
    rw [hW, World.size_alloc, World.size_alloc] at this
    exact this
  have hkW : Kept [] w W := hW ▸ (((Kept.refl _ _).alloc _).alloc _).alloc _
  have VS : Hid (Calls Tryz.prog 58 #[.agg #[.int .i64 s.P, .int .i64 s.Q, .int .i64 s.G, .slice ad s.bases.length cc, .int .i64 s.blind]] W fun e w2 => e = .returned (.bool (setupB s)) ∧ Kept [] W w2) := validSetup_any _ s W (h.kept hkW) (hE.kept0 hkW)
  have EL : Hid (setupB s = true → ∀ w', Kept [] W w' → Calls Tryz.prog 96 #[.agg #[.int .i64 s.P, .int .i64 s.Q, .int .i64 s.G], .int .i64 pub] w' fun e w2 => e = .returned (.bool (memB s.Q.toNat pub)) ∧ Kept [] w' w2) := fun h1 w' k => by
    obtain ⟨q, hok, hgn⟩ := setupB_ok h1
    have hqt : s.Q.toNat = q := by have := hok.hQ; omega
    rw [hqt]
    exact element_any s.P s.Q s.G pub q w' hok hgn ipb (hE.kept0 (hkW.trans k))
  have X1 : Hid (∀ w', Kept [] W w' → Calls Tryz.prog 86 #[.agg #[.int .i64 s.P, .int .i64 s.Q, .int .i64 s.G, .slice ad s.bases.length cc, .int .i64 s.blind], .int .i64 c] w' fun e w2 => e = .returned (.bool (expoB s c)) ∧ Kept [] w' w2) := fun w' kk => exponent_any _ s c w' (h.kept (hkW.trans kk))
  have X2 : Hid (∀ w', Kept [] W w' → Calls Tryz.prog 86 #[.agg #[.int .i64 s.P, .int .i64 s.Q, .int .i64 s.G, .slice ad s.bases.length cc, .int .i64 s.blind], .int .i64 t] w' fun e w2 => e = .returned (.bool (expoB s t)) ∧ Kept [] w' w2) := fun w' kk => exponent_any _ s t w' (h.kept (hkW.trans kk))
  have HALL : Hid (setupB s = true → memB s.Q.toNat pub = true → ∃ q : Nat, s.Q.toNat = q ∧ (sigN s.Q.toNat s.G pub msg c t = (numN q (chaE msg pub (overN q (pwrN q s.G t : Nat) (pwrN q pub c : Nat) : Nat)) : Nat)) ∧
      (∀ w', Calls Tryz.prog 88 #[.agg #[.int .i64 s.P, .int .i64 s.Q, .int .i64 s.G], .int .i64 s.G, .int .i64 t] w' fun e w2 => e = .returned (.int .i64 ((pwrN q s.G t : Nat) : Int)) ∧ Kept [] w' w2) ∧
      (∀ w', Calls Tryz.prog 88 #[.agg #[.int .i64 s.P, .int .i64 s.Q, .int .i64 s.G], .int .i64 pub, .int .i64 c] w' fun e w2 => e = .returned (.int .i64 ((pwrN q pub c : Nat) : Int)) ∧ Kept [] w' w2) ∧
      (∀ w', Calls Tryz.prog 107 #[.agg #[.int .i64 s.P, .int .i64 s.Q, .int .i64 s.G], .int .i64 (pwrN q s.G t : Nat), .int .i64 (pwrN q pub c : Nat)] w' fun e w2 => e = .returned (.int .i64 ((overN q (pwrN q s.G t : Nat) (pwrN q pub c : Nat) : Nat) : Int)) ∧ Kept [] w' w2) ∧
      (∀ w', Kept [] W w' → Calls Tryz.prog 87 #[.agg #[.int .i64 s.P, .int .i64 s.Q, .int .i64 s.G, .slice ad s.bases.length cc, .int .i64 s.blind], .int .i64 pub, .int .i64 (overN q (pwrN q s.G t : Nat) (pwrN q pub c : Nat) : Nat), .string ⟨msg.toArray⟩] w' fun e w2 => e = .returned (.int .i64 (numN q (chaE msg pub (overN q (pwrN q s.G t : Nat) (pwrN q pub c : Nat) : Nat)) : Nat)) ∧ Kept [] w' w2)) := fun h1 h2 => by
    obtain ⟨q, hok, hgn⟩ := setupB_ok h1
    have hqt : s.Q.toNat = q := by have := hok.hQ; omega
    have hqq := hok.hq
    have hq5 := hok.h5
    rw [hqt] at h2
    refine ⟨q, hqt, by rw [hqt]; rfl, fun w' => power_grp s.P s.Q s.G s.G t q w' hok ig it, fun w' => power_grp s.P s.Q s.G pub c q w' hok ipb ic, fun w' => ?_, fun w' kk => ?_⟩
    · exact over_any s.P s.Q s.G _ _ q w' hok (pw_i64 _ _ _ (by omega)) (pw_i64 _ _ _ (by omega)) (pwrN_unit h2)
    · have hol : overN q (pwrN q s.G t : Nat) (pwrN q pub c : Nat) < 2 * q + 1 := Nat.mod_lt _ (by omega)
      exact challenge_any _ s q pub _ msg w' (h.kept (hkW.trans kk)) hok.hQ (by omega) (by omega) ipb ⟨by omega, by omega⟩ hm (hE.kept0 (hkW.trans kk)).toEnv
  have S0 : Hid (∀ w', Kept [] W w' → w'.cell? ⟨w.heap.size, 0, none⟩ = some (.int .i64 s.P)) := Kept.cellOf (hb.cell 0)
  have S1 : Hid (∀ w', Kept [] W w' → w'.cell? ⟨w.heap.size, 1, none⟩ = some (.int .i64 s.Q)) := Kept.cellOf (hb.cell 1)
  have S2 : Hid (∀ w', Kept [] W w' → w'.cell? ⟨w.heap.size, 2, none⟩ = some (.int .i64 s.G)) := Kept.cellOf (hb.cell 2)
  have S3 : Hid (∀ w', Kept [] W w' → w'.cell? ⟨w.heap.size, 3, none⟩ = some (.slice ad s.bases.length cc)) := Kept.cellOf (hb.cell 3)
  have S4 : Hid (∀ w', Kept [] W w' → w'.cell? ⟨w.heap.size, 4, none⟩ = some (.int .i64 s.blind)) := Kept.cellOf (hb.cell 4)
  have Z0 : Hid (∀ w', Kept [] W w' → w'.cell? ⟨w.heap.size + 1, 0, none⟩ = some (.int .i64 c)) := Kept.cellOf (hz.cell 0)
  have Z1 : Hid (∀ w', Kept [] W w' → w'.cell? ⟨w.heap.size + 1, 1, none⟩ = some (.int .i64 t)) := Kept.cellOf (hz.cell 1)
  have G0 : Hid (∀ w', Kept [] W w' → w'.cell? ⟨w.heap.size + 1 + 1, 0, none⟩ = some (.int .i64 s.P)) := Kept.cellOf (hg.cell 0)
  have G1 : Hid (∀ w', Kept [] W w' → w'.cell? ⟨w.heap.size + 1 + 1, 1, none⟩ = some (.int .i64 s.Q)) := Kept.cellOf (hg.cell 1)
  have G2 : Hid (∀ w', Kept [] W w' → w'.cell? ⟨w.heap.size + 1 + 1, 2, none⟩ = some (.int .i64 s.G)) := Kept.cellOf (hg.cell 2)
  have HW := Lib.hid hW
  have HKW := Lib.hid hkW
  have HSB : Hid (sigB s pub msg c t = (setupB s && (memB s.Q.toNat pub && (expoB s c && (expoB s t && decide (sigN s.Q.toNat s.G pub msg c t = c)))))) := rfl
  obtain ⟨R, hR⟩ : ∃ R, sigB s pub msg c t = R := ⟨_, rfl⟩
  rw [hR] at HSB ⊢
  obtain ⟨sg, hsg⟩ : ∃ b, sigN s.Q.toNat s.G pub msg c t = b := ⟨_, rfl⟩
  rw [hsg] at HSB HALL
  obtain ⟨b1, hb1⟩ : ∃ b, setupB s = b := ⟨_, rfl⟩
  obtain ⟨b2, hb2⟩ : ∃ b, memB s.Q.toNat pub = b := ⟨_, rfl⟩
  obtain ⟨b3, hb3⟩ : ∃ b, expoB s c = b := ⟨_, rfl⟩
  obtain ⟨b4, hb4⟩ : ∃ b, expoB s t = b := ⟨_, rfl⟩
  rw [hb1] at VS EL HSB HALL
  rw [hb2] at EL HSB HALL
  rw [hb3] at X1 HSB
  rw [hb4] at X2 HSB
  clear hW hb hz hg hrow hR hsg hb1 hb2 hb3 hb4 hkW h hE ib
  show Calls _ _ #[.agg #[.int .i64 s.P, .int .i64 s.Q, .int .i64 s.G, .slice ad s.bases.length cc, .int .i64 s.blind], _, _, _] _ _
  cases b1
  · have hR := HSB.out
    simp only [Bool.false_and] at hR
    subst hR
    go_enter Tryz.func71, Tryz.ntmps71
    go_upto_region 2 with (fail)
    have hW' : ((w.alloc (.cells #[.int .i64 s.P, .int .i64 s.Q, .int .i64 s.G, .slice ad s.bases.length cc, .int .i64 s.blind] 26)).alloc (.cells #[.int .i64 c, .int .i64 t] 50)).alloc (.cells #[.int .i64 s.P, .int .i64 s.Q, .int .i64 s.G] 23) = W := HW.out
    rw [hW']
    clear hW' HW
    have s0 := S0.out W (Kept.refl _ _)
    have s1 := S1.out W (Kept.refl _ _)
    have s2 := S2.out W (Kept.refl _ _)
    have s3 := S3.out W (Kept.refl _ _)
    have s4 := S4.out W (Kept.refl _ _)
    have z0 := Z0.out W (Kept.refl _ _)
    have z1 := Z1.out W (Kept.refl _ _)
    have g0 := G0.out W (Kept.refl _ _)
    have g1 := G1.out W (Kept.refl _ _)
    have g2 := G2.out W (Kept.refl _ _)
    go_wp2_with (go_at_call 58; with_reducible refine VS.out.mono ?_)
    first | (rintro e1 w1 rfl k1) | (rintro e1 w1 ⟨rfl, k1⟩)
    clear s0 s1 s2 s3 s4 z0 z1 g0 g1 g2
    have s0 := S0.out w1 k1
    have s1 := S1.out w1 k1
    have s2 := S2.out w1 k1
    have s3 := S3.out w1 k1
    have s4 := S4.out w1 k1
    have z0 := Z0.out w1 k1
    have z1 := Z1.out w1 k1
    have g0 := G0.out w1 k1
    have g1 := G1.out w1 k1
    have g2 := G2.out w1 k1
    go_wp2_with fail
    go_ret
    exact ⟨rfl, HKW.out.trans k1⟩
  cases b2
  · have hR := HSB.out
    simp only [Bool.false_and, Bool.true_and] at hR
    subst hR
    go_enter Tryz.func71, Tryz.ntmps71
    go_upto_region 2 with (fail)
    have hW' : ((w.alloc (.cells #[.int .i64 s.P, .int .i64 s.Q, .int .i64 s.G, .slice ad s.bases.length cc, .int .i64 s.blind] 26)).alloc (.cells #[.int .i64 c, .int .i64 t] 50)).alloc (.cells #[.int .i64 s.P, .int .i64 s.Q, .int .i64 s.G] 23) = W := HW.out
    rw [hW']
    clear hW' HW
    have s0 := S0.out W (Kept.refl _ _)
    have s1 := S1.out W (Kept.refl _ _)
    have s2 := S2.out W (Kept.refl _ _)
    have s3 := S3.out W (Kept.refl _ _)
    have s4 := S4.out W (Kept.refl _ _)
    have z0 := Z0.out W (Kept.refl _ _)
    have z1 := Z1.out W (Kept.refl _ _)
    have g0 := G0.out W (Kept.refl _ _)
    have g1 := G1.out W (Kept.refl _ _)
    have g2 := G2.out W (Kept.refl _ _)
    go_wp2_with (go_at_call 58; with_reducible refine VS.out.mono ?_)
    first | (rintro e1 w1 rfl k1) | (rintro e1 w1 ⟨rfl, k1⟩)
    clear s0 s1 s2 s3 s4 z0 z1 g0 g1 g2
    have s0 := S0.out w1 k1
    have s1 := S1.out w1 k1
    have s2 := S2.out w1 k1
    have s3 := S3.out w1 k1
    have s4 := S4.out w1 k1
    have z0 := Z0.out w1 k1
    have z1 := Z1.out w1 k1
    have g0 := G0.out w1 k1
    have g1 := G1.out w1 k1
    have g2 := G2.out w1 k1
    go_wp2_with (go_at_call 96; with_reducible refine (EL.out (by trivial) w1 k1).mono ?_)
    first | (rintro e2 w2 rfl k2') | (rintro e2 w2 ⟨rfl, k2'⟩)
    have k2 := k1.trans k2'
    clear k2' s0 s1 s2 s3 s4 z0 z1 g0 g1 g2
    have s0 := S0.out w2 k2
    have s1 := S1.out w2 k2
    have s2 := S2.out w2 k2
    have s3 := S3.out w2 k2
    have s4 := S4.out w2 k2
    have z0 := Z0.out w2 k2
    have z1 := Z1.out w2 k2
    have g0 := G0.out w2 k2
    have g1 := G1.out w2 k2
    have g2 := G2.out w2 k2
    go_wp2_with fail
    go_ret
    exact ⟨rfl, HKW.out.trans k2⟩
  cases b3
  · have hR := HSB.out
    simp only [Bool.false_and, Bool.true_and] at hR
    subst hR
    go_enter Tryz.func71, Tryz.ntmps71
    go_upto_region 2 with (fail)
    have hW' : ((w.alloc (.cells #[.int .i64 s.P, .int .i64 s.Q, .int .i64 s.G, .slice ad s.bases.length cc, .int .i64 s.blind] 26)).alloc (.cells #[.int .i64 c, .int .i64 t] 50)).alloc (.cells #[.int .i64 s.P, .int .i64 s.Q, .int .i64 s.G] 23) = W := HW.out
    rw [hW']
    clear hW' HW
    have s0 := S0.out W (Kept.refl _ _)
    have s1 := S1.out W (Kept.refl _ _)
    have s2 := S2.out W (Kept.refl _ _)
    have s3 := S3.out W (Kept.refl _ _)
    have s4 := S4.out W (Kept.refl _ _)
    have z0 := Z0.out W (Kept.refl _ _)
    have z1 := Z1.out W (Kept.refl _ _)
    have g0 := G0.out W (Kept.refl _ _)
    have g1 := G1.out W (Kept.refl _ _)
    have g2 := G2.out W (Kept.refl _ _)
    go_wp2_with (go_at_call 58; with_reducible refine VS.out.mono ?_)
    first | (rintro e1 w1 rfl k1) | (rintro e1 w1 ⟨rfl, k1⟩)
    clear s0 s1 s2 s3 s4 z0 z1 g0 g1 g2
    have s0 := S0.out w1 k1
    have s1 := S1.out w1 k1
    have s2 := S2.out w1 k1
    have s3 := S3.out w1 k1
    have s4 := S4.out w1 k1
    have z0 := Z0.out w1 k1
    have z1 := Z1.out w1 k1
    have g0 := G0.out w1 k1
    have g1 := G1.out w1 k1
    have g2 := G2.out w1 k1
    go_wp2_with (go_at_call 96; with_reducible refine (EL.out (by trivial) w1 k1).mono ?_)
    first | (rintro e2 w2 rfl k2') | (rintro e2 w2 ⟨rfl, k2'⟩)
    have k2 := k1.trans k2'
    clear k2' s0 s1 s2 s3 s4 z0 z1 g0 g1 g2
    have s0 := S0.out w2 k2
    have s1 := S1.out w2 k2
    have s2 := S2.out w2 k2
    have s3 := S3.out w2 k2
    have s4 := S4.out w2 k2
    have z0 := Z0.out w2 k2
    have z1 := Z1.out w2 k2
    have g0 := G0.out w2 k2
    have g1 := G1.out w2 k2
    have g2 := G2.out w2 k2
    go_wp2_with (go_at_call 86; with_reducible refine (X1.out w2 k2).mono ?_)
    first | (rintro e3 w3 rfl k3') | (rintro e3 w3 ⟨rfl, k3'⟩)
    have k3 := k2.trans k3'
    clear k3' s0 s1 s2 s3 s4 z0 z1 g0 g1 g2
    have s0 := S0.out w3 k3
    have s1 := S1.out w3 k3
    have s2 := S2.out w3 k3
    have s3 := S3.out w3 k3
    have s4 := S4.out w3 k3
    have z0 := Z0.out w3 k3
    have z1 := Z1.out w3 k3
    have g0 := G0.out w3 k3
    have g1 := G1.out w3 k3
    have g2 := G2.out w3 k3
    go_wp2_with fail
    go_ret
    exact ⟨rfl, HKW.out.trans k3⟩
  cases b4
  · have hR := HSB.out
    simp only [Bool.false_and, Bool.true_and] at hR
    subst hR
    go_enter Tryz.func71, Tryz.ntmps71
    go_upto_region 2 with (fail)
    have hW' : ((w.alloc (.cells #[.int .i64 s.P, .int .i64 s.Q, .int .i64 s.G, .slice ad s.bases.length cc, .int .i64 s.blind] 26)).alloc (.cells #[.int .i64 c, .int .i64 t] 50)).alloc (.cells #[.int .i64 s.P, .int .i64 s.Q, .int .i64 s.G] 23) = W := HW.out
    rw [hW']
    clear hW' HW
    have s0 := S0.out W (Kept.refl _ _)
    have s1 := S1.out W (Kept.refl _ _)
    have s2 := S2.out W (Kept.refl _ _)
    have s3 := S3.out W (Kept.refl _ _)
    have s4 := S4.out W (Kept.refl _ _)
    have z0 := Z0.out W (Kept.refl _ _)
    have z1 := Z1.out W (Kept.refl _ _)
    have g0 := G0.out W (Kept.refl _ _)
    have g1 := G1.out W (Kept.refl _ _)
    have g2 := G2.out W (Kept.refl _ _)
    go_wp2_with (go_at_call 58; with_reducible refine VS.out.mono ?_)
    first | (rintro e1 w1 rfl k1) | (rintro e1 w1 ⟨rfl, k1⟩)
    clear s0 s1 s2 s3 s4 z0 z1 g0 g1 g2
    have s0 := S0.out w1 k1
    have s1 := S1.out w1 k1
    have s2 := S2.out w1 k1
    have s3 := S3.out w1 k1
    have s4 := S4.out w1 k1
    have z0 := Z0.out w1 k1
    have z1 := Z1.out w1 k1
    have g0 := G0.out w1 k1
    have g1 := G1.out w1 k1
    have g2 := G2.out w1 k1
    go_wp2_with (go_at_call 96; with_reducible refine (EL.out (by trivial) w1 k1).mono ?_)
    first | (rintro e2 w2 rfl k2') | (rintro e2 w2 ⟨rfl, k2'⟩)
    have k2 := k1.trans k2'
    clear k2' s0 s1 s2 s3 s4 z0 z1 g0 g1 g2
    have s0 := S0.out w2 k2
    have s1 := S1.out w2 k2
    have s2 := S2.out w2 k2
    have s3 := S3.out w2 k2
    have s4 := S4.out w2 k2
    have z0 := Z0.out w2 k2
    have z1 := Z1.out w2 k2
    have g0 := G0.out w2 k2
    have g1 := G1.out w2 k2
    have g2 := G2.out w2 k2
    go_wp2_with (go_at_call 86; with_reducible refine (X1.out w2 k2).mono ?_)
    first | (rintro e3 w3 rfl k3') | (rintro e3 w3 ⟨rfl, k3'⟩)
    have k3 := k2.trans k3'
    clear k3' s0 s1 s2 s3 s4 z0 z1 g0 g1 g2
    have s0 := S0.out w3 k3
    have s1 := S1.out w3 k3
    have s2 := S2.out w3 k3
    have s3 := S3.out w3 k3
    have s4 := S4.out w3 k3
    have z0 := Z0.out w3 k3
    have z1 := Z1.out w3 k3
    have g0 := G0.out w3 k3
    have g1 := G1.out w3 k3
    have g2 := G2.out w3 k3
    go_wp2_with (go_at_call 86; with_reducible refine (X2.out w3 k3).mono ?_)
    first | (rintro e4 w4 rfl k4') | (rintro e4 w4 ⟨rfl, k4'⟩)
    have k4 := k3.trans k4'
    clear k4' s0 s1 s2 s3 s4 z0 z1 g0 g1 g2
    go_wp2_with fail
    go_ret
    exact ⟨rfl, HKW.out.trans k4⟩
  have hR := HSB.out
  simp only [Bool.true_and] at hR
  subst hR
  obtain ⟨q, hqt, hsg, P1, P2, O1, C1⟩ := HALL.out (by trivial) (by trivial)
  obtain ⟨x1, hx1⟩ : ∃ x, pwrN q s.G t = x := ⟨_, rfl⟩
  obtain ⟨x2, hx2⟩ : ∃ x, pwrN q pub c = x := ⟨_, rfl⟩
  rw [hx1] at P1 O1 C1 hsg
  rw [hx2] at P2 O1 C1 hsg
  obtain ⟨x3, hx3⟩ : ∃ x, overN q (x1 : Int) (x2 : Int) = x := ⟨_, rfl⟩
  rw [hx3] at O1 C1 hsg
  rw [← hsg] at C1
  have HP1 := Lib.hid P1
  have HP2 := Lib.hid P2
  have HO1 := Lib.hid O1
  have HC1 := Lib.hid C1
  clear P1 P2 O1 C1 hsg hqt hx1 hx2 hx3 HSB HALL
  go_enter Tryz.func71, Tryz.ntmps71
  go_upto_region 2 with (fail)
  have hW' : ((w.alloc (.cells #[.int .i64 s.P, .int .i64 s.Q, .int .i64 s.G, .slice ad s.bases.length cc, .int .i64 s.blind] 26)).alloc (.cells #[.int .i64 c, .int .i64 t] 50)).alloc (.cells #[.int .i64 s.P, .int .i64 s.Q, .int .i64 s.G] 23) = W := HW.out
  rw [hW']
  clear hW' HW
  have s0 := S0.out W (Kept.refl _ _)
  have s1 := S1.out W (Kept.refl _ _)
  have s2 := S2.out W (Kept.refl _ _)
  have s3 := S3.out W (Kept.refl _ _)
  have s4 := S4.out W (Kept.refl _ _)
  have z0 := Z0.out W (Kept.refl _ _)
  have z1 := Z1.out W (Kept.refl _ _)
  have g0 := G0.out W (Kept.refl _ _)
  have g1 := G1.out W (Kept.refl _ _)
  have g2 := G2.out W (Kept.refl _ _)
  go_wp2_with (go_at_call 58; with_reducible refine VS.out.mono ?_)
  first | (rintro e1 w1 rfl k1) | (rintro e1 w1 ⟨rfl, k1⟩)
  clear s0 s1 s2 s3 s4 z0 z1 g0 g1 g2
  have s0 := S0.out w1 k1
  have s1 := S1.out w1 k1
  have s2 := S2.out w1 k1
  have s3 := S3.out w1 k1
  have s4 := S4.out w1 k1
  have z0 := Z0.out w1 k1
  have z1 := Z1.out w1 k1
  have g0 := G0.out w1 k1
  have g1 := G1.out w1 k1
  have g2 := G2.out w1 k1
  go_wp2_with (go_at_call 96; with_reducible refine (EL.out (by trivial) w1 k1).mono ?_)
  first | (rintro e2 w2 rfl k2') | (rintro e2 w2 ⟨rfl, k2'⟩)
  have k2 := k1.trans k2'
  clear k2' s0 s1 s2 s3 s4 z0 z1 g0 g1 g2
  have s0 := S0.out w2 k2
  have s1 := S1.out w2 k2
  have s2 := S2.out w2 k2
  have s3 := S3.out w2 k2
  have s4 := S4.out w2 k2
  have z0 := Z0.out w2 k2
  have z1 := Z1.out w2 k2
  have g0 := G0.out w2 k2
  have g1 := G1.out w2 k2
  have g2 := G2.out w2 k2
  go_wp2_with (go_at_call 86; with_reducible refine (X1.out w2 k2).mono ?_)
  first | (rintro e3 w3 rfl k3') | (rintro e3 w3 ⟨rfl, k3'⟩)
  have k3 := k2.trans k3'
  clear k3' s0 s1 s2 s3 s4 z0 z1 g0 g1 g2
  have s0 := S0.out w3 k3
  have s1 := S1.out w3 k3
  have s2 := S2.out w3 k3
  have s3 := S3.out w3 k3
  have s4 := S4.out w3 k3
  have z0 := Z0.out w3 k3
  have z1 := Z1.out w3 k3
  have g0 := G0.out w3 k3
  have g1 := G1.out w3 k3
  have g2 := G2.out w3 k3
  go_wp2_with (go_at_call 86; with_reducible refine (X2.out w3 k3).mono ?_)
  first | (rintro e4 w4 rfl k4') | (rintro e4 w4 ⟨rfl, k4'⟩)
  have k4 := k3.trans k4'
  clear k4' s0 s1 s2 s3 s4 z0 z1 g0 g1 g2
  go_upto_region 4 with (fail)
  have s0 : ∀ w', Kept [] w4 w' → w'.cell? ⟨w.heap.size, 0, none⟩ = some (.int .i64 s.P) := fun w' k => S0.out w' (k4.trans k)
  have z0 : ∀ w', Kept [] w4 w' → w'.cell? ⟨w.heap.size + 1, 0, none⟩ = some (.int .i64 c) := fun w' k => Z0.out w' (k4.trans k)
  have z1 : ∀ w', Kept [] w4 w' → w'.cell? ⟨w.heap.size + 1, 1, none⟩ = some (.int .i64 t) := fun w' k => Z1.out w' (k4.trans k)
  have g0 : ∀ w', Kept [] w4 w' → w'.cell? ⟨w.heap.size + 1 + 1, 0, none⟩ = some (.int .i64 s.P) := fun w' k => G0.out w' (k4.trans k)
  have g1 : ∀ w', Kept [] w4 w' → w'.cell? ⟨w.heap.size + 1 + 1, 1, none⟩ = some (.int .i64 s.Q) := fun w' k => G1.out w' (k4.trans k)
  have g2 : ∀ w', Kept [] w4 w' → w'.cell? ⟨w.heap.size + 1 + 1, 2, none⟩ = some (.int .i64 s.G) := fun w' k => G2.out w' (k4.trans k)
  go_region_held3 (fun w' => Kept [] w4 w') (first | assumption | exact (Kept.refl _ _).drew)
    (first
      | (go_at_call 88; with_reducible refine (kept_from (W := w4) (by assumption) (HP1.out _)).mono ?_; rintro e5 w5 ⟨rfl, hk5⟩)
      | (go_at_call 88; with_reducible refine (kept_from (W := w4) (by assumption) (HP2.out _)).mono ?_; rintro e5 w5 ⟨rfl, hk5⟩)
      | (go_at_call 107; with_reducible refine (kept_from (W := w4) (by assumption) (HO1.out _)).mono ?_; rintro e6 w6 ⟨rfl, hk6⟩))
  clear s0 z0 z1 g0 g1 g2
  have k6 := k4.trans hk6
  go_upto_region 5 with (fail)
  have s0 : ∀ w', Kept [] w6 w' → w'.cell? ⟨w.heap.size, 0, none⟩ = some (.int .i64 s.P) := fun w' k => S0.out w' (k6.trans k)
  have s1 : ∀ w', Kept [] w6 w' → w'.cell? ⟨w.heap.size, 1, none⟩ = some (.int .i64 s.Q) := fun w' k => S1.out w' (k6.trans k)
  have s2 : ∀ w', Kept [] w6 w' → w'.cell? ⟨w.heap.size, 2, none⟩ = some (.int .i64 s.G) := fun w' k => S2.out w' (k6.trans k)
  have s3 : ∀ w', Kept [] w6 w' → w'.cell? ⟨w.heap.size, 3, none⟩ = some (.slice ad s.bases.length cc) := fun w' k => S3.out w' (k6.trans k)
  have s4 : ∀ w', Kept [] w6 w' → w'.cell? ⟨w.heap.size, 4, none⟩ = some (.int .i64 s.blind) := fun w' k => S4.out w' (k6.trans k)
  have z0 : ∀ w', Kept [] w6 w' → w'.cell? ⟨w.heap.size + 1, 0, none⟩ = some (.int .i64 c) := fun w' k => Z0.out w' (k6.trans k)
  go_region_held3 (fun w' => Kept [] w6 w') (first | assumption | exact (Kept.refl _ _).drew)
    (first
      | (go_at_call 87; with_reducible refine (kept_from (W := w6) (by assumption) (HC1.out _ (k6.trans (by assumption)))).mono ?_; rintro e7 w7 ⟨rfl, hk7⟩)
      | fail)
  all_goals go_wp2_with fail
  all_goals (
    go_ret
    exact ⟨rfl, HKW.out.trans (k6.trans (by assumption))⟩)
end Go.Proofs.YtcidfldeiklcjaaGreatDoor
