/- The links of a record that is read: what the rounds keep. -/
import Derived.Test.YtcidfldeiklcjaaGreatDoorSg2
import Derived.Test.YtcidfldeiklcjaaGreatDoorDeS
/- JOINED: SgP DeL -/
/- Signatures: Sign. -/
namespace Go.Proofs.YtcidfldeiklcjaaGreatDoor
open Go.RowKit ShaP

/-- a signature, and whether there is one -/
def signN (s : Stp) (x k : Int) (msg : List UInt8) : Int × Int × Bool :=
  if (setupB s && (expoB s x && expoB s k)) = true then
    (((numN s.Q.toNat (chaE msg (pwrN s.Q.toNat s.G x : Nat) (pwrN s.Q.toNat s.G k : Nat)) : Nat) : Int),
      ((addN s.Q.toNat k (mulN s.Q.toNat (numN s.Q.toNat (chaE msg (pwrN s.Q.toNat s.G x : Nat) (pwrN s.Q.toNat s.G k : Nat)) : Nat) x : Nat) : Nat) : Int), true)
  else (0, 0, false)
theorem signN_eq (s : Stp) (x k : Int) (msg : List UInt8) : signN s x k msg = if (setupB s && (expoB s x && expoB s k)) = true then
    (((numN s.Q.toNat (chaE msg (pwrN s.Q.toNat s.G x : Nat) (pwrN s.Q.toNat s.G k : Nat)) : Nat) : Int),
      ((addN s.Q.toNat k (mulN s.Q.toNat (numN s.Q.toNat (chaE msg (pwrN s.Q.toNat s.G x : Nat) (pwrN s.Q.toNat s.G k : Nat)) : Nat) x : Nat) : Nat) : Int), true)
  else (0, 0, false) := rfl
def sigV (t : Int × Int × Bool) : Value := .tuple #[.agg #[.int .i64 t.1, .int .i64 t.2.1], .bool t.2.2]
theorem pw_i64 (q : Nat) (x k : Int) (h : q < 1152921504606846976) : Wire.I64 ((pwrN q x k : Nat) : Int) := by
  have : pwrN q x k < 2 * q + 1 := Nat.mod_lt _ (by omega)
  constructor <;> omega
theorem setupB_ok {s : Stp} (h : setupB s = true) : ∃ q, GrpOk s.P s.Q s.G q ∧ groupN q s.G = true := by
  unfold setupB at h
  rw [Bool.and_eq_true] at h
  exact groupB_ok h.1
def zerosG : Array Value := #[.int .i64 0, .int .i64 0]

set_option maxRecDepth 100000 in
set_option maxHeartbeats 2000000 in
theorem sign_any (v : Value) (s : Stp) (x k : Int) (msg : List UInt8) (w : World) (h : StpV w v s) (ix : Wire.I64 x) (ik : Wire.I64 k) (hm : msg.length ≤ 50000000) (hE : Env2 w) :
    Calls Tryz.prog 55 #[v, .int .i64 x, .int .i64 k, .string ⟨msg.toArray⟩] w fun e w' => e = .returned (sigV (signN s x k msg)) ∧ Kept [] w w' := by
  have h' := h
  obtain ⟨⟨ad, c, rfl, hrow⟩, ip, iq, ig, ib, il⟩ := h'
  obtain ⟨W, hW⟩ : ∃ W, (w.alloc (.cells (stpA s (.slice ad s.bases.length c)) 26)).alloc (.cells zerosG 50) = W := ⟨_, rfl⟩
  have hb : Blk W w.heap.size 26 (stpA s (.slice ad s.bases.length c)) := hW ▸ (Blk.new _ _ _).alloc _
  have hz : Blk W (w.heap.size + 1) 50 zerosG := by
    have := Blk.new (w.alloc (.cells (stpA s (.slice ad s.bases.length c)) 26)) 50 zerosG
    rw [hW, World.size_alloc] at this
    exact this
  have hkW : Kept [] w W := hW ▸ ((Kept.refl _ _).alloc _).alloc _
  have HB := Lib.hid hb
  have HZ := Lib.hid hz
  have HV : Hid (∀ w', Kept [] W w' → Calls Tryz.prog 58 #[.agg #[.int .i64 s.P, .int .i64 s.Q, .int .i64 s.G, .slice ad s.bases.length c, .int .i64 s.blind]] w' fun e w2 => e = .returned (.bool (setupB s)) ∧ Kept [] w' w2) := fun w' kk => validSetup_any _ s w' (h.kept (hkW.trans kk)) (hE.kept0 (hkW.trans kk))
  have HX : Hid (∀ w', Kept [] W w' → Calls Tryz.prog 86 #[.agg #[.int .i64 s.P, .int .i64 s.Q, .int .i64 s.G, .slice ad s.bases.length c, .int .i64 s.blind], .int .i64 x] w' fun e w2 => e = .returned (.bool (expoB s x)) ∧ Kept [] w' w2) := fun w' kk => exponent_any _ s x w' (h.kept (hkW.trans kk))
  have HK : Hid (∀ w', Kept [] W w' → Calls Tryz.prog 86 #[.agg #[.int .i64 s.P, .int .i64 s.Q, .int .i64 s.G, .slice ad s.bases.length c, .int .i64 s.blind], .int .i64 k] w' fun e w2 => e = .returned (.bool (expoB s k)) ∧ Kept [] w' w2) := fun w' kk => exponent_any _ s k w' (h.kept (hkW.trans kk))
  have K0 : Hid (∀ w', Kept [] W w' → w'.cell? ⟨w.heap.size, 0, none⟩ = some (.int .i64 s.P)) := Kept.cellOf (hb.cell 0)
  have K1 : Hid (∀ w', Kept [] W w' → w'.cell? ⟨w.heap.size, 1, none⟩ = some (.int .i64 s.Q)) := Kept.cellOf (hb.cell 1)
  have K2 : Hid (∀ w', Kept [] W w' → w'.cell? ⟨w.heap.size, 2, none⟩ = some (.int .i64 s.G)) := Kept.cellOf (hb.cell 2)
  have K3 : Hid (∀ w', Kept [] W w' → w'.cell? ⟨w.heap.size, 3, none⟩ = some (.slice ad s.bases.length c)) := Kept.cellOf (hb.cell 3)
  have K4 : Hid (∀ w', Kept [] W w' → w'.cell? ⟨w.heap.size, 4, none⟩ = some (.int .i64 s.blind)) := Kept.cellOf (hb.cell 4)
  have HW := Lib.hid hW
  have HSN := Lib.hid (signN_eq s x k msg)
  obtain ⟨R, hR⟩ : ∃ R, signN s x k msg = R := ⟨_, rfl⟩
  rw [hR] at HSN ⊢
  obtain ⟨b1, hb1⟩ : ∃ b, setupB s = b := ⟨_, rfl⟩
  obtain ⟨b2, hb2⟩ : ∃ b, expoB s x = b := ⟨_, rfl⟩
  obtain ⟨b3, hb3⟩ : ∃ b, expoB s k = b := ⟨_, rfl⟩
  rw [hb1] at HV HSN
  rw [hb2] at HX HSN
  rw [hb3] at HK HSN
  have HB1 := Lib.hid hb1
  by_cases hall : (b1 && (b2 && b3)) = true
  · obtain ⟨rfl, rfl, rfl⟩ : b1 = true ∧ b2 = true ∧ b3 = true := by simpa using hall
    have HR := HSN.out
    rw [if_pos hall] at HR
    have HRH := Lib.hid HR
    obtain ⟨q, hok, hgn⟩ := setupB_ok hb1
    have hq5 := hok.h5
    have hqq := hok.hq
    have hQq : s.Q = q := hok.hQ
    have hqt : s.Q.toNat = q := by omega
    rw [hqt] at HRH
    have PX : Hid (∀ w', Calls Tryz.prog 88 #[.agg #[.int .i64 s.P, .int .i64 s.Q, .int .i64 s.G], .int .i64 s.G, .int .i64 x] w' fun e w2 => e = .returned (.int .i64 ((pwrN q s.G x : Nat) : Int)) ∧ Kept [] w' w2) := fun w' => power_grp s.P s.Q s.G s.G x q w' hok ig ix
    have PK : Hid (∀ w', Calls Tryz.prog 88 #[.agg #[.int .i64 s.P, .int .i64 s.Q, .int .i64 s.G], .int .i64 s.G, .int .i64 k] w' fun e w2 => e = .returned (.int .i64 ((pwrN q s.G k : Nat) : Int)) ∧ Kept [] w' w2) := fun w' => power_grp s.P s.Q s.G s.G k q w' hok ig ik
    have CH : Hid (∀ w', Kept [] W w' → Calls Tryz.prog 87 #[.agg #[.int .i64 s.P, .int .i64 s.Q, .int .i64 s.G, .slice ad s.bases.length c, .int .i64 s.blind], .int .i64 ((pwrN q s.G x : Nat) : Int), .int .i64 ((pwrN q s.G k : Nat) : Int), .string ⟨msg.toArray⟩] w' fun e w2 => e = .returned (.int .i64 (numN q (chaE msg (pwrN q s.G x : Nat) (pwrN q s.G k : Nat)) : Nat)) ∧ Kept [] w' w2) :=
      fun w' kk => challenge_any _ s q _ _ msg w' (h.kept (hkW.trans kk)) hQq (by omega) (by omega) (pw_i64 _ _ _ (by omega)) (pw_i64 _ _ _ (by omega)) hm (hE.kept0 (hkW.trans kk)).toEnv
    have hcl : numN q (chaE msg (pwrN q s.G x : Nat) (pwrN q s.G k : Nat)) < q := numK_lt _ _ _ (by omega)
    obtain ⟨C, hC⟩ : ∃ C, numN q (chaE msg (pwrN q s.G x : Nat) (pwrN q s.G k : Nat)) = C := ⟨_, rfl⟩
    rw [hC] at CH HRH hcl
    obtain ⟨X, hX⟩ : ∃ X, pwrN q s.G x = X := ⟨_, rfl⟩
    obtain ⟨Y, hY⟩ : ∃ Y, pwrN q s.G k = Y := ⟨_, rfl⟩
    rw [hX] at PX CH
    rw [hY] at PK CH
    have hml := numMul_lt q (C : Int) x (by omega)
    have MU : Hid (∀ w', Calls Tryz.prog 90 #[.int .i64 s.Q, .int .i64 (C : Int), .int .i64 x] w' fun e w2 => e = .returned (.int .i64 ((mulN q C x : Nat) : Int)) ∧ Kept [] w' w2) := by
      rw [hQq]
      exact fun w' => fmul_any q (C : Int) x w' (by omega) (by omega) ⟨by omega, by omega⟩ ix
    obtain ⟨M, hM⟩ : ∃ M, mulN q (C : Int) x = M := ⟨_, rfl⟩
    rw [hM] at MU HRH hml
    have AD : Hid (∀ w', Calls Tryz.prog 89 #[.int .i64 s.Q, .int .i64 k, .int .i64 (M : Int)] w' fun e w2 => e = .returned (.int .i64 ((addN q k M : Nat) : Int)) ∧ Kept [] w' w2) := by
      rw [hQq]
      exact fun w' => fadd_any q k (M : Int) w' (by omega) (by omega) ik ⟨by omega, by omega⟩
    obtain ⟨S, hS⟩ : ∃ S, addN q k (M : Int) = S := ⟨_, rfl⟩
    rw [hS] at AD HRH
    have HQQ := Lib.hid hQq
    clear ib HR hR hb1 hb2 hb3 hok hgn hqt hC hX hY hM hS hall hb hz hW hrow h hQq
    show Calls _ _ #[.agg #[.int .i64 s.P, .int .i64 s.Q, .int .i64 s.G, .slice ad s.bases.length c, .int .i64 s.blind], .int .i64 x, .int .i64 k, .string ⟨msg.toArray⟩] _ _
    go_enter Tryz.func55, Tryz.ntmps55
    go_wp2_with fail
    have hW' : (w.alloc (.cells #[.int .i64 s.P, .int .i64 s.Q, .int .i64 s.G, .slice ad s.bases.length c, .int .i64 s.blind] 26)).alloc (.cells #[.int .i64 0, .int .i64 0] 50) = W := HW.out
    rw [hW']
    clear hW'
    have e0 := K0.out W (Kept.refl _ _)
    have e1 := K1.out W (Kept.refl _ _)
    have e2 := K2.out W (Kept.refl _ _)
    have e3 := K3.out W (Kept.refl _ _)
    have e4 := K4.out W (Kept.refl _ _)
    go_wp2_with (go_at_call 58; with_reducible refine (HV.out W (Kept.refl _ _)).mono ?_)
    rintro e w1 ⟨rfl, k1⟩
    clear e0 e1 e2 e3 e4
    have e0 := K0.out w1 k1
    have e1 := K1.out w1 k1
    have e2 := K2.out w1 k1
    have e3 := K3.out w1 k1
    have e4 := K4.out w1 k1
    go_wp2_with (go_at_call 86; with_reducible refine (HX.out w1 k1).mono ?_)
    rintro e w2 ⟨rfl, kx⟩
    have k2 := k1.trans kx
    clear e0 e1 e2 e3 e4
    have e0 := K0.out w2 k2
    have e1 := K1.out w2 k2
    have e2 := K2.out w2 k2
    have e3 := K3.out w2 k2
    have e4 := K4.out w2 k2
    go_wp2_with (go_at_call 86; with_reducible refine (HK.out w2 k2).mono ?_)
    rintro e w3 ⟨rfl, ky⟩
    have k3 := k2.trans ky
    clear kx ky
    clear e0 e1 e2 e3 e4
    have e0 := K0.out w3 k3
    have e1 := K1.out w3 k3
    have e2 := K2.out w3 k3
    have e3 := K3.out w3 k3
    have e4 := K4.out w3 k3
    go_upto_region 4 with (fail)
    obtain ⟨V, hV⟩ : ∃ V, w3.alloc (.cells #[.int .i64 s.P, .int .i64 s.Q, .int .i64 s.G] 23) = V := ⟨_, rfl⟩
    have hkV : Kept [] w3 V := hV ▸ (Kept.refl [] w3).alloc _
    have hbV : Blk V w3.heap.size 23 #[.int .i64 s.P, .int .i64 s.Q, .int .i64 s.G] := hV ▸ Blk.new w3 _ _
    rw [hV]
    have kV := k3.trans hkV
    have HBV := Lib.hid hbV
    clear hV hbV e0 e1 e2 e3 e4
    have d0 : ∀ w', Kept [] V w' → w'.cell? ⟨w.heap.size, 0, none⟩ = some (.int .i64 s.P) := fun w' kk => K0.out w' (kV.trans kk)
    have d1 : ∀ w', Kept [] V w' → w'.cell? ⟨w.heap.size, 1, none⟩ = some (.int .i64 s.Q) := fun w' kk => K1.out w' (kV.trans kk)
    have d2 : ∀ w', Kept [] V w' → w'.cell? ⟨w.heap.size, 2, none⟩ = some (.int .i64 s.G) := fun w' kk => K2.out w' (kV.trans kk)
    have d3 : ∀ w', Kept [] V w' → w'.cell? ⟨w.heap.size, 3, none⟩ = some (.slice ad s.bases.length c) := fun w' kk => K3.out w' (kV.trans kk)
    have d4 : ∀ w', Kept [] V w' → w'.cell? ⟨w.heap.size, 4, none⟩ = some (.int .i64 s.blind) := fun w' kk => K4.out w' (kV.trans kk)
    have g0 : ∀ w', Kept [] V w' → w'.cell? ⟨w3.heap.size, 0, none⟩ = some (.int .i64 s.P) := Kept.cellOf (HBV.out.cell 0)
    have g1 : ∀ w', Kept [] V w' → w'.cell? ⟨w3.heap.size, 1, none⟩ = some (.int .i64 s.Q) := Kept.cellOf (HBV.out.cell 1)
    have g2 : ∀ w', Kept [] V w' → w'.cell? ⟨w3.heap.size, 2, none⟩ = some (.int .i64 s.G) := Kept.cellOf (HBV.out.cell 2)
    go_region_held3 (fun w' => Kept [] V w') (first | assumption | exact (Kept.refl _ _).drew)
      (first
        | (go_at_call 88; with_reducible refine (kept_from (W := V) (by assumption) (PX.out _)).mono ?_; rintro e w4 ⟨rfl, hk4⟩)
        | (go_at_call 88; with_reducible refine (kept_from (W := V) (by assumption) (PK.out _)).mono ?_; rintro e w4 ⟨rfl, hk4⟩)
        | (go_at_call 87; with_reducible refine (kept_from (W := V) (by assumption) (CH.out _ (kV.trans (by assumption)))).mono ?_; rintro e w5 ⟨rfl, hk5⟩))
    rename_i hHeld
    clear d0 d1 d2 d3 d4 g0 g1 g2
    have k5 := kV.trans hk5
    have hne : w3.heap.size ≠ w.heap.size + 1 := by have := k3.size; have := HZ.out.lt; omega
    have g1 : ∀ w', Kept [w.heap.size + 1] w5 w' → w'.cell? ⟨w3.heap.size, 1, none⟩ = some (.int .i64 s.Q) := fun w' kk => by
      have hc : w5.cell? ⟨w3.heap.size, 1, none⟩ = some (.int .i64 s.Q) := (HBV.out.kept hk5 (by simp)).cell 1
      exact (kk.cell (p := ⟨w3.heap.size, 1, none⟩) (World.block_lt_of_cell? w5 _ hc) (by simpa using hne)).trans hc
    have z0 : ∀ w', Kept [] w5 w' → w'.cell? ⟨w.heap.size + 1, 0, none⟩ = some (.int .i64 0) := fun w' kk => (HZ.out.kept (k5.trans kk) (by simp)).cell 0
    have z1 : ∀ w', Kept [] w5 w' → w'.cell? ⟨w.heap.size + 1, 1, none⟩ = some (.int .i64 0) := fun w' kk => (HZ.out.kept (k5.trans kk) (by simp)).cell 1
    have y0 : ∀ w', Kept [] w5 w' → w'.frozen? ⟨w.heap.size + 1, 0, none⟩ = false := fun w' kk => (HZ.out.kept (k5.trans kk) (by simp)).frozen 0
    have y1 : ∀ w', Kept [] w5 w' → w'.frozen? ⟨w.heap.size + 1, 1, none⟩ = false := fun w' kk => (HZ.out.kept (k5.trans kk) (by simp)).frozen 1
    clear hk4 hHeld
    go_upto_region 5 with (fail)
    go_region_held3 (fun w' => Kept [w.heap.size + 1] w5 w') (repeat (first | (with_reducible assumption) | (with_reducible exact Kept.refl _ _) | (with_reducible refine Kept.drew ?_) | (with_reducible refine Kept.setCell ?_ (Or.inl (by simp)) _)))
      (first
        | (go_at_call 90; with_reducible refine (MU.out _).mono ?_; rintro e w6 ⟨rfl, hk6'⟩; have hk6 : Kept [] w5 w6 := (Kept.refl [] w5).drew.trans hk6'; have hk6r : Kept [w.heap.size + 1] w5 w6 := hk6.mono (by simp))
        | (go_at_call 89; with_reducible refine (AD.out _).mono ?_; rintro e w7 ⟨rfl, hk7'⟩; have hk7 : Kept [] w5 w7 := hk6.trans hk7'; have hk7r : Kept [w.heap.size + 1] w5 w7 := hk7.mono (by simp))
        | fail)
    rename_i hHeld
    have c0 := z0 w7 hk7
    have c1 := z1 w7 hk7
    clear z0 z1 y0 y1 g1
    go_wp2
    refine bodyPost_ret (v := .tuple #[.agg #[.int .i64 C, .int .i64 S], .bool true]) (by simp [results, Tryz.results55, go_sem, c0, c1]) rfl ⟨by rw [HRH.out]; rfl, ?_⟩
    exact (hkW.trans k5).fresh hHeld (by simp)
  · have HR := HSN.out
    rw [if_neg hall] at HR
    have HRH := Lib.hid HR
    have hcase : b1 = false ∨ (b1 = true ∧ b2 = false) ∨ (b1 = true ∧ b2 = true ∧ b3 = false) := by
      cases b1 <;> cases b2 <;> cases b3 <;> simp at hall ⊢
    have FIN : Hid (∀ w', Kept [] W w' → Kept [] w ((w'.setCell ⟨w.heap.size + 1, 0, none⟩ (.int .i64 0)).setCell ⟨w.heap.size + 1, 1, none⟩ (.int .i64 0))) := fun w' kk =>
      (((hkW.trans kk).setCell (Or.inr (by simp)) _).setCell (Or.inr (by simp)) _)
    clear ib HR hR hb1 hb2 hb3 hall hb hz hW hrow h
    show Calls _ _ #[.agg #[.int .i64 s.P, .int .i64 s.Q, .int .i64 s.G, .slice ad s.bases.length c, .int .i64 s.blind], .int .i64 x, .int .i64 k, .string ⟨msg.toArray⟩] _ _
    rcases hcase with rfl | ⟨rfl, rfl⟩ | ⟨rfl, rfl, rfl⟩
    all_goals
      go_enter Tryz.func55, Tryz.ntmps55
      go_wp2_with fail
      have hW' : (w.alloc (.cells #[.int .i64 s.P, .int .i64 s.Q, .int .i64 s.G, .slice ad s.bases.length c, .int .i64 s.blind] 26)).alloc (.cells #[.int .i64 0, .int .i64 0] 50) = W := HW.out
      rw [hW']
      clear hW'
      have e0 := K0.out W (Kept.refl _ _)
      have e1 := K1.out W (Kept.refl _ _)
      have e2 := K2.out W (Kept.refl _ _)
      have e3 := K3.out W (Kept.refl _ _)
      have e4 := K4.out W (Kept.refl _ _)
      go_wp2_with (go_at_call 58; with_reducible refine (HV.out W (Kept.refl _ _)).mono ?_)
      rintro e wa ⟨rfl, ka⟩
      clear e0 e1 e2 e3 e4
      have e0 := K0.out wa ka
      have e1 := K1.out wa ka
      have e2 := K2.out wa ka
      have e3 := K3.out wa ka
      have e4 := K4.out wa ka
    · skip
      have hz := HZ.out.kept ka (by simp)
      have c0 : wa.cell? ⟨w.heap.size + 1, 0, none⟩ = some (.int .i64 0) := hz.cell 0
      have c1 : wa.cell? ⟨w.heap.size + 1, 1, none⟩ = some (.int .i64 0) := hz.cell 1
      have y0 := hz.frozen 0
      have y1 := hz.frozen 1
      go_wp2_with fail
      exact bodyPost_ret (v := .tuple #[.agg #[.int .i64 0, .int .i64 0], .bool false]) (by simp [results, Tryz.results55, go_sem, c0, c1]) rfl ⟨by rw [HRH.out]; rfl, FIN.out wa ka⟩
    · go_wp2_with (go_at_call 86; with_reducible refine (HX.out wa ka).mono ?_)
      rintro e wb ⟨rfl, kx⟩
      have kb := ka.trans kx
      clear e0 e1 e2 e3 e4 kx
      have e0 := K0.out wb kb
      have e1 := K1.out wb kb
      have e2 := K2.out wb kb
      have e3 := K3.out wb kb
      have e4 := K4.out wb kb
      have hz := HZ.out.kept kb (by simp)
      have c0 : wb.cell? ⟨w.heap.size + 1, 0, none⟩ = some (.int .i64 0) := hz.cell 0
      have c1 : wb.cell? ⟨w.heap.size + 1, 1, none⟩ = some (.int .i64 0) := hz.cell 1
      have y0 := hz.frozen 0
      have y1 := hz.frozen 1
      go_wp2_with fail
      exact bodyPost_ret (v := .tuple #[.agg #[.int .i64 0, .int .i64 0], .bool false]) (by simp [results, Tryz.results55, go_sem, c0, c1]) rfl ⟨by rw [HRH.out]; rfl, FIN.out wb kb⟩
    · go_wp2_with (go_at_call 86; with_reducible refine (HX.out wa ka).mono ?_)
      rintro e wb ⟨rfl, kx⟩
      have kb := ka.trans kx
      clear e0 e1 e2 e3 e4 kx
      have e0 := K0.out wb kb
      have e1 := K1.out wb kb
      have e2 := K2.out wb kb
      have e3 := K3.out wb kb
      have e4 := K4.out wb kb
      go_wp2_with (go_at_call 86; with_reducible refine (HK.out wb kb).mono ?_)
      rintro e wc ⟨rfl, kx⟩
      have kc := kb.trans kx
      clear e0 e1 e2 e3 e4 kx
      have hz := HZ.out.kept kc (by simp)
      have c0 : wc.cell? ⟨w.heap.size + 1, 0, none⟩ = some (.int .i64 0) := hz.cell 0
      have c1 : wc.cell? ⟨w.heap.size + 1, 1, none⟩ = some (.int .i64 0) := hz.cell 1
      have y0 := hz.frozen 0
      have y1 := hz.frozen 1
      go_wp2_with fail
      exact bodyPost_ret (v := .tuple #[.agg #[.int .i64 0, .int .i64 0], .bool false]) (by simp [results, Tryz.results55, go_sem, c0, c1]) rfl ⟨by rw [HRH.out]; rfl, FIN.out wc kc⟩
end Go.Proofs.YtcidfldeiklcjaaGreatDoor
namespace Go.Proofs.YtcidfldeiklcjaaGreatDoor
open Go.RowKit Tape

/-- the row behind the first string -/
theorem Row.tail {w : World} {a : Option Addr} {n c : Nat} {t : List UInt8} {tl : List (List UInt8)} (h : Row w 1 (.slice a n c) (t :: tl).length (strs (t :: tl))) {b off : Nat} (ha : a = some ⟨b, off, none⟩) : Row w 1 (.slice (some ⟨b, off + 1, none⟩) tl.length (c - 1)) tl.length (strs tl) := by
  obtain ⟨h1, h2, a', c', hv, hcc, hc⟩ := h
  injection hv with e1 e2 e3
  subst e1 e3 ha
  simp only [List.length_cons] at h2 hcc hc
  refine ⟨by simp [strs], by omega, _, _, rfl, by omega, fun hp => ?_⟩
  obtain ⟨b1, o1, hb, hcell⟩ := hc (by omega)
  injection hb with hb
  injection hb with hb ho
  subst hb ho
  refine ⟨b, off + 1, rfl, fun k u hu => ?_⟩
  rw [show off + 1 + k = off + (k + 1) from by omega]
  exact hcell (k + 1) u (by simpa [strs] using hu)
theorem Row.none1 (w : World) (a : Option Addr) : Row w 1 (.slice a 0 0) ([] : List (List UInt8)).length (strs []) := ⟨rfl, by simp, a, 0, rfl, by simp, fun h => absurd h (by simp)⟩

structure Li (w wo wr : World) (b g po B : Nat) (X : List Nat) (Fin : World → Prop) (cs : Array Value) (a : Option Addr) (n c : Nat) (accL : List (List (Lnk × List UInt8))) (ro r : Tp) (a10 : Option Addr) (n10 c10 : Nat) (acc2 : List (Lnk × List UInt8)) (ta : Option Addr) (nt tc : Nat) (tsl : List (List UInt8)) : Prop where
  do_ : Dg LnksR 1 183 2 w wo b g po B X Fin cs a n c accL ro
  kb : Kept [b] wo wr
  tp : TpAt 174 wr b g r
  e10 : n10 = acc2.length
  et : nt = tsl.length
  gr : ∃ X2, (∀ z ∈ X, z ∈ X2) ∧ (∀ z ∈ X2, z < wr.heap.size) ∧ (∀ z ∈ obl (.slice a10 n10 c10), z ∈ X2) ∧ Grow LnkR 9 185 wo.heap.size X2 wr (.slice a10 n10 c10) acc2 ∧ Stable X2 (fun w => Row w 1 (.slice ta nt tc) tsl.length (strs tsl)) wr
section
variable {w wo wr w1 u y : World} {b g po B : Nat} {X X2 : List Nat} {Fin : World → Prop} {cs : Array Value} {a a10 p ta ta' : Option Addr} {n c n10 c10 nt tc nt' tc' q : Nat} {accL : List (List (Lnk × List UInt8))} {ro r r' : Tp} {acc2 : List (Lnk × List UInt8)} {tsl tsl' : List (List UInt8)} {d : Lnk × List UInt8}
theorem Li.dg (h : Li w wo wr b g po B X Fin cs a n c accL ro r a10 n10 c10 acc2 ta nt tc tsl) : Dg LnksR 1 183 2 w wr b g po B X Fin cs a n c accL r := h.do_.read h.kb h.tp
theorem Li.ge (h : Li w wo wr b g po B X Fin cs a n c accL ro r a10 n10 c10 acc2 ta nt tc tsl) : ∀ z ∈ obl (.slice a10 n10 c10), wo.heap.size ≤ z ∧ z < wr.heap.size := by
  obtain ⟨X2, _, _, _, G, _⟩ := h.gr
  exact G.ge
theorem Li.read (h : Li w wo wr b g po B X Fin cs a n c accL ro r a10 n10 c10 acc2 ta nt tc tsl) (k : Kept [b] wr w1) (tp : TpAt 174 w1 b g r') : Li w wo w1 b g po B X Fin cs a n c accL ro r' a10 n10 c10 acc2 ta nt tc tsl := by
  obtain ⟨X2, x1, x2, x3, G, T⟩ := h.gr
  have hb := h.do_.de.bl
  have hge := h.ge
  have hS : ∀ z ∈ [b], z < wr.heap.size → z ∈ X2 := fun z hz _ => by rw [List.mem_singleton] at hz; subst hz; exact x1 _ h.do_.de.bX
  exact ⟨h.do_, h.kb.trans k, tp, h.e10, h.et, ⟨X2, x1, fun z hz => Nat.lt_of_lt_of_le (x2 z hz) k.size, x3, G.step k (fun z hz hm => by have := hge z hz; rw [List.mem_singleton] at hm; omega) hS (fun z hz => Or.inl hz), T.step k hS (fun z hz => Or.inl hz)⟩⟩
theorem Li.keep (h : Li w wo wr b g po B X Fin cs a n c accL ro r a10 n10 c10 acc2 ta nt tc tsl) (k : Kept [] wr w1) : Li w wo w1 b g po B X Fin cs a n c accL ro r a10 n10 c10 acc2 ta nt tc tsl := by
  obtain ⟨X2, x1, x2, x3, G, T⟩ := h.gr
  exact ⟨h.do_, h.kb.trans (k.mono (by simp)), h.tp.keep k (by simp) (by simp), h.e10, h.et, ⟨X2, x1, fun z hz => Nat.lt_of_lt_of_le (x2 z hz) k.size, x3, G.step k (by simp) (by simp) (fun z hz => Or.inl hz), T.step k (by simp) (fun z hz => Or.inl hz)⟩⟩
theorem Li.row (h : Li w wo wr b g po B X Fin cs a n c accL ro r a10 n10 c10 acc2 ta nt tc tsl) : Row wr 1 (.slice ta nt tc) tsl.length (strs tsl) := by
  obtain ⟨X2, x1, x2, x3, G, T⟩ := h.gr
  exact T.get
theorem Li.terms (h : Li w wo wr b g po B X Fin cs a n c accL ro r a10 n10 c10 acc2 ta nt tc tsl) (hn : nt' = tsl'.length) (hi : ∀ w, Row w 1 (.slice ta nt tc) tsl.length (strs tsl) → Row w 1 (.slice ta' nt' tc') tsl'.length (strs tsl')) : Li w wo wr b g po B X Fin cs a n c accL ro r a10 n10 c10 acc2 ta' nt' tc' tsl' := by
  obtain ⟨X2, x1, x2, x3, G, T⟩ := h.gr
  exact ⟨h.do_, h.kb, h.tp, h.e10, hn, ⟨X2, x1, x2, x3, G, T.imp hi⟩⟩
theorem Li.push (h : Li w wo wr b g po B X Fin cs a n c accL ro r a10 n10 c10 acc2 ta nt tc tsl) (x1 : ∀ z ∈ X, z ∈ X2) (x2 : ∀ z ∈ X2, z < wr.heap.size) (T : Stable X2 (fun w => Row w 1 (.slice ta nt tc) tsl.length (strs tsl)) wr) (x3 : ∀ z ∈ obl (.slice a10 n10 c10), z ∈ X2) (k : Kept (obl (.slice a10 n10 c10)) wr y) (hn : nt' = n10 + 1)
    (G : Grow LnkR 9 185 wo.heap.size (X2 ++ obl (.slice p nt' q)) y (.slice p nt' q) (acc2 ++ [d])) (t : ∀ z ∈ obl (.slice p nt' q), z ∈ obl (.slice a10 n10 c10) ∨ z = wr.heap.size) : Li w wo y b g po B X Fin cs a n c accL ro r p nt' q (acc2 ++ [d]) ta nt tc tsl := by
  have hge := h.ge
  have hsy := k.size
  have hb := h.do_.de.bl
  have hg := h.do_.de.gl
  have hXX : ∀ z ∈ X2 ++ obl (.slice p nt' q), z ∈ X2 ∨ wr.heap.size ≤ z := fun z hz => by
    rcases List.mem_append.1 hz with e | e
    · exact Or.inl e
    · rcases t z e with e | e
      · exact Or.inl (x3 z e)
      · exact Or.inr (by omega)
  refine ⟨h.do_, h.kb.then_ k (fun z hz hm => by have := hge z hm; omega), h.tp.keep k (fun hm => by have := hge _ hm; omega) (fun hm => by have := hge _ hm; omega), by rw [hn, h.e10]; simp, h.et,
    ⟨X2 ++ obl (.slice p nt' q), fun z hz => List.mem_append_left _ (x1 z hz), fun z hz => ?_, fun z hz => List.mem_append_right _ hz, G, T.step k (fun z hz _ => x3 z hz) hXX⟩⟩
  rcases List.mem_append.1 hz with e | e
  · have := x2 z e; omega
  · exact (G.ge z e).2
/-- the list of links is finished -/
theorem Li.done (h : Li w wo wr b g po B X Fin cs a n c accL ro r a10 n10 c10 acc2 ta nt tc tsl) (hl : acc2.length ≤ 9223372036854775807) : Stable X (fun w => LnksR w [.slice a10 n10 c10] acc2) wr := by
  obtain ⟨X2, x1, x2, x3, G, T⟩ := h.gr
  have hge := h.ge
  have hX := h.do_.de.hX
  exact (G.done (X' := X) (fun z hz => Or.inl (x1 z hz)) (fun z hz hm => by have := hge z hz; have := hX z hm; omega) hl).imp fun _ h => ⟨_, rfl, h⟩
end

/-- the rounds over the lists of links -/
def LRel (w : World) (b g po B : Nat) (Fin : World → Prop) (cs : Array Value) (fin : List (List Lnk) × Tp) (N : Nat) (ts : List (List UInt8)) (vt vi : Value) (wr : World) : Prop :=
  ∃ (k : Nat) (r : Tp) (acc : List (List (Lnk × List UInt8))) (X : List Nat) (a : Option Addr) (n c : Nat) (tsl : List (List UInt8)) (ta : Option Addr) (nt tc : Nat), vt = .slice ta nt tc ∧ vi = .int .i64 acc.length ∧ acc.length + k = N ∧ times (many lnk) k r (strip acc) = fin ∧ terms acc ++ tsl = ts ∧ r.left.length ≤ 100000001 ∧ nt = tsl.length ∧
    Dg LnksR 1 183 2 w wr b g po B X Fin cs a n c acc r ∧ Stable X (fun w => Row w 1 (.slice ta nt tc) tsl.length (strs tsl)) wr
/-- the rounds over the links of one list -/
def InL (w wo : World) (b g po B : Nat) (X : List Nat) (Fin : World → Prop) (cs : Array Value) (a : Option Addr) (n c : Nat) (accL : List (List (Lnk × List UInt8))) (ro : Tp) (fin : List Lnk × Tp) (N : Nat) (ts : List (List UInt8)) (vt v10 vi : Value) (wr : World) : Prop :=
  ∃ (k : Nat) (r : Tp) (acc2 : List (Lnk × List UInt8)) (a10 : Option Addr) (n10 c10 : Nat) (tsl : List (List UInt8)) (ta : Option Addr) (nt tc : Nat), vt = .slice ta nt tc ∧ v10 = .slice a10 n10 c10 ∧ vi = .int .i64 acc2.length ∧ acc2.length + k = N ∧ times lnk k r (acc2.map Prod.fst) = fin ∧ terms accL ++ (acc2.map Prod.snd ++ tsl) = ts ∧ r.left.length ≤ 100000001 ∧
    Li w wo wr b g po B X Fin cs a n c accL ro r a10 n10 c10 acc2 ta nt tc tsl
theorem LRel.next {w wf : World} {b g po B : Nat} {Fin : World → Prop} {cs : Array Value} {fin : List (List Lnk) × Tp} {N k : Nat} {ts tsl : List (List UInt8)} {acc : List (List (Lnk × List UInt8))} {d : List (Lnk × List UInt8)} {p ta : Option Addr} {q nt tc : Nat} {r : Tp}
    (h : ∃ X', Dg LnksR 1 183 2 w wf b g po B X' Fin cs p (acc.length + 1) q (acc ++ [d]) r ∧ Stable X' (fun w => Row w 1 (.slice ta nt tc) tsl.length (strs tsl)) wf) (hN : acc.length + (k + 1) = N) (hf : times (many lnk) k r (strip (acc ++ [d])) = fin) (ht : terms acc ++ (d.map Prod.snd ++ tsl) = ts)
    (hr : r.left.length ≤ 100000001) (hnt : nt = tsl.length) : LRel w b g po B Fin cs fin N ts (.slice ta nt tc) (.int .i64 ((acc.length : Int) + 1)) wf := by
  obtain ⟨X', D, T⟩ := h
  exact ⟨k, r, acc ++ [d], X', p, acc.length + 1, q, tsl, ta, nt, tc, rfl, by simp, by simp; omega, hf, by rw [terms_snoc, List.append_assoc]; exact ht, hr, hnt, D, T⟩
end Go.Proofs.YtcidfldeiklcjaaGreatDoor
