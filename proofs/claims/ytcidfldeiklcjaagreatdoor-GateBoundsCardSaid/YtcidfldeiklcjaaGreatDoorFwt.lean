/- Few entries: FewSetup, FewDoors (none), FewEntry, FewEntries, fewTimes. -/
import Derived.Test.YtcidfldeiklcjaaGreatDoorStu
import Derived.Test.YtcidfldeiklcjaaGreatDoorPub
import Derived.Test.YtcidfldeiklcjaaGreatDoorCfl
import Derived.Test.YtcidfldeiklcjaaGreatDoorEbd
import Derived.Test.YtcidfldeiklcjaaGreatDoorShaP
/- JOINED: Snt Fwt -/
/- The small example is the documented one: saneTimes. -/
namespace Go.Proofs.YtcidfldeiklcjaaGreatDoor
open Go.RowKit Tm Bf

theorem inB8 : (setupB st8 && inB 100 0 1000) = true := by rw [setb8]; decide
/-- Bounds at the example that can be satisfied -/
def B8a (w : World) (e : Ending) (w' : World) : Prop := ∃ a c, e = .returned (.tuple #[.slice a 3 c, .int .i64 0]) ∧ RowOf BndR 2 w' (.slice a 3 c) [(1000, 1010), (1180, 1230), (1180, 2147483648)] ∧ Kept [] w w'
theorem bds_a {w w' : World} {e : Ending} (h : BdsE st8 keys8 (l8 2147483648) 100 w e w') : B8a w e w' := by
  obtain ⟨k, ⟨h1, _⟩ | ⟨_, o, hj, _, _, _, _, h2⟩⟩ := h
  · rw [inB8] at h1; cases h1
  · have ho : o = o8 2147483648 := join_one hj (join8 _ (Or.inr rfl))
    subst ho
    rw [show (o8 2147483648).length = 3 from rfl, gl8] at h2
    rcases h2 with ⟨v, up, lo, rfl, hu, hl, hr⟩ | ⟨_, hno⟩
    · obtain ⟨u0, u1, u2⟩ := up8 hu
      obtain ⟨l0, l1, l2⟩ := lo8 hl
      have hb : bndL lo up 3 = [(1000, 1010), (1180, 1230), (1180, 2147483648)] := by
        show [(-lo 0, up 0), (-lo 1, up 1), (-lo 2, up 2)] = _
        rw [u0, u1, u2, l0, l1, l2]
      rw [hb] at hr
      obtain ⟨a, c, rfl, _, _⟩ := RowOf.form hr
      exact ⟨a, c, rfl, hr, k⟩
    · exact absurd feas_up (hno _)
/-- Bounds at the example that cannot -/
theorem bds_b {w w' : World} {e : Ending} (h : BdsE st8 keys8 (l8 1100) 100 w e w') : e = .returned (.tuple #[.slice none 0 0, .int .i64 13]) ∧ Kept [] w w' := by
  obtain ⟨k, ⟨h1, _⟩ | ⟨_, o, hj, _, _, _, _, h2⟩⟩ := h
  · rw [inB8] at h1; cases h1
  · have ho : o = o8 1100 := join_one hj (join8 _ (Or.inl rfl))
    subst ho
    rw [show (o8 1100).length = 3 from rfl, gl8] at h2
    rcases h2 with ⟨v, up, lo, rfl, hu, hl, hr⟩ | ⟨h3, _⟩
    · obtain ⟨a, t, _, hn⟩ := negCyc_neg neg8
      exact absurd hu.feas (neg_no_feas hn _)
    · exact ⟨h3, k⟩
/-- its conflict -/
def C8 (w : World) (e : Ending) (w' : World) : Prop := ∃ a c, e = .returned (.slice a 3 c) ∧ Row w' 1 (.slice a 3 c) 3 (ints [0, 3, 1]) ∧ Kept [] w w'
theorem con_b {w w' : World} {e : Ending} (h : ConE st8 keys8 (l8 1100) 100 w e w') : C8 w e w' := by
  obtain ⟨k, ⟨h1, _⟩ | ⟨_, o, hj, _, _, _, _, c, a, cp, rfl, hr, hc⟩⟩ := h
  · rw [inB8] at h1; cases h1
  · have ho : o = o8 1100 := join_one hj (join8 _ (Or.inl rfl))
    subst ho
    rw [show (o8 1100).length = 3 from rfl, gl8] at hc
    obtain rfl := conf8 hc
    exact ⟨a, cp, rfl, hr, k⟩
theorem imp_b : ImpP st8 keys8 (l8 1100) 100 [0, 3, 1] := (imp_iff _ inB8 (join8 _ (Or.inl rfl))).2 (by
  rw [show (o8 1100).length = 3 from rfl, gl8]
  unfold ImpR
  rw [← acc_iff]
  exact ⟨[0, 3, 1], rfl, neg8, by decide⟩)
theorem imp_a : ¬ ImpP st8 keys8 (l8 2147483648) 100 [0, 3, 1] := fun h => by
  have h1 := (imp_iff _ inB8 (join8 _ (Or.inr rfl))).1 h
  rw [show (o8 2147483648).length = 3 from rfl, gl8] at h1
  unfold ImpR at h1
  rw [← acc_iff] at h1
  obtain ⟨c, hc, ⟨a, t, rfl, _, hneg⟩, _⟩ := h1
  have hc' : a :: t = [0, 3, 1] := by
    have : natI [0, 3, 1] = natI (a :: t) := hc
    unfold natI at this
    exact (List.map_inj_right (fun x y h => Int.ofNat.inj h)).1 this.symm
  rw [hc'] at hneg
  have ha : a = 0 := by injection hc'
  subst ha
  exact no8 hneg
theorem i64_lt {n q : Nat} (h : n < q) (hq : q < 2305843009213693952) : Wire.I64 (n : Int) := ⟨by omega, by omega⟩
theorem sign_i64 (s : Stp) (x k : Int) (m : List UInt8) (hQ : s.Q < 2305843009213693952) : Wire.I64 (signN s x k m).1 ∧ Wire.I64 (signN s x k m).2.1 := by
  unfold signN
  obtain ⟨q, hq⟩ : ∃ q, s.Q.toNat = q := ⟨_, rfl⟩
  obtain ⟨M, hM⟩ : ∃ M, chaE m (pwrN s.Q.toNat s.G x : Nat) (pwrN s.Q.toNat s.G k : Nat) = M := ⟨_, rfl⟩
  rw [hM, hq]
  by_cases h : (setupB s && (expoB s x && expoB s k)) = true
  · rw [if_pos h]
    have hq1 : 1 ≤ q := by
      simp only [Bool.and_eq_true] at h
      have h2 := h.2.1
      unfold expoB at h2
      simp at h2
      omega
    exact ⟨i64_lt (numK_lt q _ 32 hq1) (by omega), i64_lt (Nat.mod_lt _ (by omega)) (by omega)⟩
  · rw [if_neg h]
    exact ⟨⟨by decide, by decide⟩, ⟨by decide, by decide⟩⟩
theorem entI_seal {s : Stp} {x : Int} {e : Ent} (h : EntI e) (hQ : s.Q < 2305843009213693952) : EntI (sealS s x e) :=
  ⟨h.h0, h.h1, h.h2, h.h3, h.h4, (sign_i64 s x _ _ hQ).1, (sign_i64 s x _ _ hQ).2, h.l4, h.l5⟩
theorem entI8 (most : Int) (hm : most = 1100 ∨ most = 2147483648) : ∀ e ∈ l8 most, EntI e := by
  have two : ∀ (p q : Int), Wire.I64 p → Wire.I64 q → ∀ x ∈ [p, q], Wire.I64 x := fun p q hp hq x hx => by
    simp only [List.mem_cons, List.not_mem_nil, or_false] at hx
    rcases hx with rfl | rfl
    · exact hp
    · exact hq
  have ISA : EntI ea8 := ⟨⟨by decide, by decide⟩, ⟨by decide, by decide⟩, ⟨by decide, by decide⟩, ⟨by decide, by decide⟩, two 1000 1010 ⟨by decide, by decide⟩ ⟨by decide, by decide⟩, ⟨by decide, by decide⟩, ⟨by decide, by decide⟩, by decide, by decide⟩
  have ISB : EntI (eb8 most) := by
    rcases hm with rfl | rfl <;> exact ⟨⟨by decide, by decide⟩, ⟨by decide, by decide⟩, ⟨by decide, by decide⟩, ⟨by decide, by decide⟩, two 0 _ ⟨by decide, by decide⟩ ⟨by decide, by decide⟩, ⟨by decide, by decide⟩, ⟨by decide, by decide⟩, by decide, by decide⟩
  have ISC : EntI ec8 := ⟨⟨by decide, by decide⟩, ⟨by decide, by decide⟩, ⟨by decide, by decide⟩, ⟨by decide, by decide⟩, two 0 1 ⟨by decide, by decide⟩ ⟨by decide, by decide⟩, ⟨by decide, by decide⟩, ⟨by decide, by decide⟩, by decide, by decide⟩
  intro e he
  unfold l8 at he
  simp only [List.mem_cons, List.not_mem_nil, or_false] at he
  rcases he with rfl | rfl | rfl
  · exact entI_seal ISC (by decide)
  · exact entI_seal ISB (by decide)
  · exact entI_seal ISA (by decide)

set_option maxRecDepth 100000 in
set_option maxHeartbeats 4000000 in
theorem saneTimes_any (w : World) (hE : Env2 w) : Calls Tryz.prog 6 #[] w fun e w' => e = .returned (.bool true) ∧ Kept [] w w' := by
  have SU := Lib.hid (setup8_any w)
  have hki : ∀ x ∈ keys8, Wire.I64 x := fun x hx => by
    have hx' : x ∈ [(18 : Int), 12] := hx
    simp only [List.mem_cons, List.not_mem_nil, or_false] at hx'
    rcases hx' with rfl | rfl <;> exact ⟨by decide, by decide⟩
  have HE := Lib.hid hE
  have HKI := Lib.hid hki
  clear hE hki
  go_enter Tryz.func6, Tryz.ntmps6
  go_wp2_with (go_at_call 19; with_reducible refine SU.out.mono ?_)
  rintro e w1 ⟨ad, cc, rfl, hrow, hk1⟩
  go_upto_region 2 with (fail)
  obtain ⟨W1, hW1⟩ : ∃ W1, w1.alloc (.cells #[.int .i64 23, .int .i64 11, .int .i64 4, .slice ad 3 cc, .int .i64 3] 26) = W1 := ⟨_, rfl⟩
  have hbs : Blk W1 w1.heap.size 26 #[.int .i64 23, .int .i64 11, .int .i64 4, .slice ad 3 cc, .int .i64 3] := hW1 ▸ Blk.new _ _ _
  have k1 : Kept [] w1 W1 := hW1 ▸ (Kept.refl _ _).alloc _
  rw [hW1]
  have HBS := Lib.hid hbs
  have KW := Lib.hid (hk1.trans k1)
  have HSV : Hid (∀ w', Kept [] W1 w' → StpV w' (.agg #[.int .i64 23, .int .i64 11, .int .i64 4, .slice ad 3 cc, .int .i64 3]) st8) := fun w' kk => stp8 (hrow.kept (k1.trans kk))
  have EV : Hid (∀ w', Kept [] W1 w' → Env2 w') := fun w' kk => HE.out.kept0 (KW.out.trans kk)
  have C1 := Lib.hid (clocks_any 2147483648 (Or.inr rfl) W1 (EV.out _ (Kept.refl _ _)))
  clear SU hW1 hbs k1 hk1 hrow HE
  go_wp2_with (go_at_call 20; with_reducible refine C1.out.mono ?_)
  rintro e w2 ⟨vk, vl, rfl, hkr, hlr, k2⟩
  obtain ⟨ka, kc, rfl, _, _⟩ := hkr.form
  obtain ⟨la, lc, hvl, _, _⟩ := RowOf.form hlr
  replace hvl : vl = .slice la 3 lc := hvl
  subst hvl
  have HKR := Lib.hid hkr
  have HLR := Lib.hid hlr
  have K2 := Lib.hid k2
  have C2 := Lib.hid (clocks_any 1100 (Or.inl rfl) w2 (EV.out _ k2))
  clear C1 hkr hlr k2
  go_wp2_with (go_at_call 20; with_reducible refine C2.out.mono ?_)
  rintro e w3 ⟨vq, vm, rfl, _, hmr, k3⟩
  obtain ⟨ma, mc, hvm, _, _⟩ := RowOf.form hmr
  replace hvm : vm = .slice ma 3 mc := hvm
  subst hvm
  have HMR := Lib.hid hmr
  have K3 := Lib.hid k3
  have K13 := Lib.hid (K2.out.trans k3)
  have B1 : Hid (Calls Tryz.prog 10 #[.agg #[.int .i64 23, .int .i64 11, .int .i64 4, .slice ad 3 cc, .int .i64 3], .slice ka 2 kc, .slice la 3 lc, .int .i64 100] w3 (B8a w3)) :=
    (bounds_any _ _ _ st8 keys8 (l8 2147483648) 100 w3 (HSV.out _ K13.out) (HKR.out.kept k3) (HLR.out.kept k3) (by decide) (entI8 _ (Or.inr rfl)) HKI.out (EV.out _ K13.out)).mono fun _ _ h => bds_a h
  clear C2 hmr k3
  have s0 : w3.cell? ⟨w1.heap.size, 0, none⟩ = some (.int .i64 23) := Kept.cellOf (HBS.out.cell 0) _ K13.out
  have s1 : w3.cell? ⟨w1.heap.size, 1, none⟩ = some (.int .i64 11) := Kept.cellOf (HBS.out.cell 1) _ K13.out
  have s2 : w3.cell? ⟨w1.heap.size, 2, none⟩ = some (.int .i64 4) := Kept.cellOf (HBS.out.cell 2) _ K13.out
  have s3 : w3.cell? ⟨w1.heap.size, 3, none⟩ = some (.slice ad 3 cc) := Kept.cellOf (HBS.out.cell 3) _ K13.out
  have s4 : w3.cell? ⟨w1.heap.size, 4, none⟩ = some (.int .i64 3) := Kept.cellOf (HBS.out.cell 4) _ K13.out
  go_wp2_with (go_at_call 10; with_reducible refine B1.out.mono ?_)
  rintro e w4 ⟨ba, bc, rfl, hbr, k4⟩
  have HBR := Lib.hid hbr
  have K4 := Lib.hid (K13.out.trans k4)
  have K34 := Lib.hid k4
  have B2 : Hid (Calls Tryz.prog 10 #[.agg #[.int .i64 23, .int .i64 11, .int .i64 4, .slice ad 3 cc, .int .i64 3], .slice ka 2 kc, .slice ma 3 mc, .int .i64 100] w4 fun e w' => e = .returned (.tuple #[.slice none 0 0, .int .i64 13]) ∧ Kept [] w4 w') :=
    (bounds_any _ _ _ st8 keys8 (l8 1100) 100 w4 (HSV.out _ K4.out) (HKR.out.kept (K3.out.trans k4)) (HMR.out.kept k4) (by decide) (entI8 _ (Or.inl rfl)) HKI.out (EV.out _ K4.out)).mono fun _ _ h => bds_b h
  clear B1 hbr k4
  clear s0 s1 s2 s3 s4
  have s0 : w4.cell? ⟨w1.heap.size, 0, none⟩ = some (.int .i64 23) := Kept.cellOf (HBS.out.cell 0) _ K4.out
  have s1 : w4.cell? ⟨w1.heap.size, 1, none⟩ = some (.int .i64 11) := Kept.cellOf (HBS.out.cell 1) _ K4.out
  have s2 : w4.cell? ⟨w1.heap.size, 2, none⟩ = some (.int .i64 4) := Kept.cellOf (HBS.out.cell 2) _ K4.out
  have s3 : w4.cell? ⟨w1.heap.size, 3, none⟩ = some (.slice ad 3 cc) := Kept.cellOf (HBS.out.cell 3) _ K4.out
  have s4 : w4.cell? ⟨w1.heap.size, 4, none⟩ = some (.int .i64 3) := Kept.cellOf (HBS.out.cell 4) _ K4.out
  go_wp2_with (go_at_call 10; with_reducible refine B2.out.mono ?_)
  first | (rintro e w5 rfl k5) | (rintro e w5 ⟨rfl, k5⟩)
  have K5 := Lib.hid (K4.out.trans k5)
  have K35 := Lib.hid (K34.out.trans k5)
  have K45 := Lib.hid k5
  have CN : Hid (Calls Tryz.prog 12 #[.agg #[.int .i64 23, .int .i64 11, .int .i64 4, .slice ad 3 cc, .int .i64 3], .slice ka 2 kc, .slice ma 3 mc, .int .i64 100] w5 (C8 w5)) :=
    (conflict_any _ _ _ st8 keys8 (l8 1100) 100 w5 (HSV.out _ K5.out) (HKR.out.kept (K3.out.trans K35.out)) (HMR.out.kept K35.out) (by decide) (entI8 _ (Or.inl rfl)) HKI.out (EV.out _ K5.out)).mono fun _ _ h => con_b h
  clear B2 k5
  clear s0 s1 s2 s3 s4
  have s0 : w5.cell? ⟨w1.heap.size, 0, none⟩ = some (.int .i64 23) := Kept.cellOf (HBS.out.cell 0) _ K5.out
  have s1 : w5.cell? ⟨w1.heap.size, 1, none⟩ = some (.int .i64 11) := Kept.cellOf (HBS.out.cell 1) _ K5.out
  have s2 : w5.cell? ⟨w1.heap.size, 2, none⟩ = some (.int .i64 4) := Kept.cellOf (HBS.out.cell 2) _ K5.out
  have s3 : w5.cell? ⟨w1.heap.size, 3, none⟩ = some (.slice ad 3 cc) := Kept.cellOf (HBS.out.cell 3) _ K5.out
  have s4 : w5.cell? ⟨w1.heap.size, 4, none⟩ = some (.int .i64 3) := Kept.cellOf (HBS.out.cell 4) _ K5.out
  go_wp2_with (go_at_call 12; with_reducible refine CN.out.mono ?_)
  rintro e w6 ⟨ca, cp, rfl, hcr, k6⟩
  have HCR := Lib.hid hcr
  have K6 := Lib.hid (K5.out.trans k6)
  have K36 := Lib.hid (K35.out.trans k6)
  have K46 := Lib.hid (K45.out.trans k6)
  clear CN hcr k6
  clear s0 s1 s2 s3 s4
  go_upto_region 8 with (fail)
  obtain ⟨W7, hW7⟩ : ∃ W7, w6.alloc (.cells #[.int .i64 1000, .int .i64 1010, .int .i64 1180, .int .i64 1230, .int .i64 1180, .int .i64 2147483648] 42) = W7 := ⟨_, rfl⟩
  have hbw : Blk W7 w6.heap.size 42 #[.int .i64 1000, .int .i64 1010, .int .i64 1180, .int .i64 1230, .int .i64 1180, .int .i64 2147483648] := hW7 ▸ Blk.new _ _ _
  have k67 : Kept [] w6 W7 := hW7 ▸ (Kept.refl _ _).alloc _
  rw [hW7]
  have HWR : Hid (RowOf BndR 2 W7 (.slice (some ⟨w6.heap.size, 0, none⟩) 3 3) [(1000, 1010), (1180, 1230), (1180, 2147483648)]) := by
    refine ⟨[[.int .i64 1000, .int .i64 1010], [.int .i64 1180, .int .i64 1230], [.int .i64 1180, .int .i64 2147483648]], rfl, fun c hc => ?_, fun k x hx => ?_, row_of_blk (cs := [.int .i64 1000, .int .i64 1010, .int .i64 1180, .int .i64 1230, .int .i64 1180, .int .i64 2147483648]) hbw rfl (by decide)⟩
    · simp only [List.mem_cons, List.not_mem_nil, or_false] at hc
      rcases hc with rfl | rfl | rfl <;> rfl
    · match k, hx with
      | 0, hx => injection hx with hx; subst hx; exact ⟨_, rfl, rfl⟩
      | 1, hx => injection hx with hx; subst hx; exact ⟨_, rfl, rfl⟩
      | 2, hx => injection hx with hx; subst hx; exact ⟨_, rfl, rfl⟩
      | k + 3, hx => simp at hx
  have SM := Lib.hid (sameBounds_eq (.slice ba 3 bc) (.slice (some ⟨w6.heap.size, 0, none⟩) 3 3) [(1000, 1010), (1180, 1230), (1180, 2147483648)] W7 (RowOf.kept HBR.out (fun _ _ h => h) (K46.out.trans k67)) HWR.out)
  have K7 := Lib.hid (K6.out.trans k67)
  have K37 := Lib.hid (K36.out.trans k67)
  have K67 := Lib.hid k67
  clear hW7 hbw k67 HWR
  go_wp2_with (go_at_call 14; with_reducible refine SM.out.mono ?_)
  first | (rintro e w8 rfl k8) | (rintro e w8 ⟨rfl, k8⟩)
  obtain ⟨cb, co, rfl, hcc⟩ := HCR.out.at_ (by omega)
  have k68 := K67.out.trans k8
  have c0 : w8.cell? ⟨cb, co, none⟩ = some (.int .i64 0) := by have := Kept.cellOf (hcc 0 (.int .i64 0) rfl) _ k68; simpa using this
  have c1 := Kept.cellOf (hcc 1 (.int .i64 3) rfl) _ k68
  have c2 := Kept.cellOf (hcc 2 (.int .i64 1) rfl) _ k68
  have K8 := Lib.hid (K7.out.trans k8)
  have K38 := Lib.hid (K37.out.trans k8)
  have K68 := Lib.hid k68
  have hci : ∀ x ∈ [(0 : Int), 3, 1], Wire.I64 x := fun x hx => by
    simp only [List.mem_cons, List.not_mem_nil, or_false] at hx
    rcases hx with rfl | rfl | rfl <;> exact ⟨by decide, by decide⟩
  have HCI := Lib.hid hci
  have I1 : Hid (Calls Tryz.prog 15 #[.agg #[.int .i64 23, .int .i64 11, .int .i64 4, .slice ad 3 cc, .int .i64 3], .slice ka 2 kc, .slice ma 3 mc, .int .i64 100, .slice (some ⟨cb, co, none⟩) 3 cp] w8 fun e w' => e = .returned (.bool true) ∧ Kept [] w8 w') :=
    (impossible_any _ _ _ _ st8 keys8 (l8 1100) 100 [0, 3, 1] w8 (HSV.out _ K8.out) (HKR.out.kept (K3.out.trans K38.out)) (HMR.out.kept K38.out) (by decide) (entI8 _ (Or.inl rfl)) HKI.out (HCR.out.kept k68) (by decide) HCI.out (EV.out _ K8.out)).mono fun _ _ ⟨h1, b, h2, h3⟩ => ⟨by rw [h2, h3.2 imp_b], h1⟩
  clear hcc k8 k68 SM hci
  have s0 : w8.cell? ⟨w1.heap.size, 0, none⟩ = some (.int .i64 23) := Kept.cellOf (HBS.out.cell 0) _ K8.out
  have s1 : w8.cell? ⟨w1.heap.size, 1, none⟩ = some (.int .i64 11) := Kept.cellOf (HBS.out.cell 1) _ K8.out
  have s2 : w8.cell? ⟨w1.heap.size, 2, none⟩ = some (.int .i64 4) := Kept.cellOf (HBS.out.cell 2) _ K8.out
  have s3 : w8.cell? ⟨w1.heap.size, 3, none⟩ = some (.slice ad 3 cc) := Kept.cellOf (HBS.out.cell 3) _ K8.out
  have s4 : w8.cell? ⟨w1.heap.size, 4, none⟩ = some (.int .i64 3) := Kept.cellOf (HBS.out.cell 4) _ K8.out
  go_wp2_with (go_at_call 15; with_reducible refine I1.out.mono ?_)
  first | (rintro e w9 rfl k9) | (rintro e w9 ⟨rfl, k9⟩)
  have K9 := Lib.hid (K8.out.trans k9)
  have I2 : Hid (Calls Tryz.prog 15 #[.agg #[.int .i64 23, .int .i64 11, .int .i64 4, .slice ad 3 cc, .int .i64 3], .slice ka 2 kc, .slice la 3 lc, .int .i64 100, .slice (some ⟨cb, co, none⟩) 3 cp] w9 fun e w' => e = .returned (.bool false) ∧ Kept [] w9 w') :=
    (impossible_any _ _ _ _ st8 keys8 (l8 2147483648) 100 [0, 3, 1] w9 (HSV.out _ K9.out) (HKR.out.kept (K3.out.trans (K38.out.trans k9))) (HLR.out.kept (K3.out.trans (K38.out.trans k9))) (by decide) (entI8 _ (Or.inr rfl)) HKI.out (HCR.out.kept (K68.out.trans k9)) (by decide) HCI.out (EV.out _ K9.out)).mono fun _ _ ⟨h1, b, h2, h3⟩ => ⟨by
      cases b with
      | true => exact absurd (h3.1 rfl) imp_a
      | false => exact h2, h1⟩
  clear I1 k9 c0 c1 c2
  clear s0 s1 s2 s3 s4
  have s0 : w9.cell? ⟨w1.heap.size, 0, none⟩ = some (.int .i64 23) := Kept.cellOf (HBS.out.cell 0) _ K9.out
  have s1 : w9.cell? ⟨w1.heap.size, 1, none⟩ = some (.int .i64 11) := Kept.cellOf (HBS.out.cell 1) _ K9.out
  have s2 : w9.cell? ⟨w1.heap.size, 2, none⟩ = some (.int .i64 4) := Kept.cellOf (HBS.out.cell 2) _ K9.out
  have s3 : w9.cell? ⟨w1.heap.size, 3, none⟩ = some (.slice ad 3 cc) := Kept.cellOf (HBS.out.cell 3) _ K9.out
  have s4 : w9.cell? ⟨w1.heap.size, 4, none⟩ = some (.int .i64 3) := Kept.cellOf (HBS.out.cell 4) _ K9.out
  go_wp2_with (go_at_call 15; with_reducible refine I2.out.mono ?_)
  first | (rintro e w10 rfl k10) | (rintro e w10 ⟨rfl, k10⟩)
  have KE := Lib.hid (KW.out.trans (K9.out.trans k10))
  clear k10
  clear s0 s1 s2 s3 s4
  go_wp2_with fail
  go_ret
  exact ⟨rfl, KE.out⟩
end Go.Proofs.YtcidfldeiklcjaaGreatDoor
namespace Go.Proofs.YtcidfldeiklcjaaGreatDoor
open Go.RowKit Tm

def fewB (e : Ent) : Bool := decide (e.nums.length ≤ 34) && decide (e.text.length ≤ 12000)

set_option maxHeartbeats 400000 in
theorem fewSet_any (v : Value) (s : Stp) (w : World) (h : StpV w v s) : Calls Tryz.prog 47 #[v] w fun e w' => e = .returned (.bool (decide (s.bases.length ≤ 9))) ∧ Kept [] w w' := by
  obtain ⟨⟨ad, sc, rfl, hsr⟩, _, _, _, _, _⟩ := h
  obtain ⟨_, hl, _, _, _, _, _⟩ := hsr
  obtain ⟨n, hn⟩ : ∃ n, s.bases.length = n := ⟨_, rfl⟩
  have HN := Lib.hid hn
  unfold stpA
  rw [hn] at hl ⊢
  clear hn
  by_cases h9 : n ≤ 9
  · have hd : decide (n ≤ 9) = true := by simp [h9]
    rw [hd]
    go_enter Tryz.func47, Tryz.ntmps47
    go_wp2
    go_ret
    exact ⟨by simp; omega, (Kept.refl _ _).alloc _⟩
  · have hd : decide (n ≤ 9) = false := by simp [h9]
    rw [hd]
    go_enter Tryz.func47, Tryz.ntmps47
    go_wp2
    go_ret
    exact ⟨by simp; omega, (Kept.refl _ _).alloc _⟩

set_option maxRecDepth 100000 in
set_option maxHeartbeats 1000000 in
theorem fewEntry_any (e : Ent) (a : Option Addr) (c : Nat) (w : World) (h4 : e.nums.length ≤ 9223372036854775807) (h5 : e.text.length ≤ 9223372036854775807) :
    Calls Tryz.prog 48 #[.agg #[.int .i64 e.gate, .int .i64 e.no, .int .i64 e.time, .int .i64 e.kind, .slice a e.nums.length c, .string ⟨e.text.toArray⟩, .int .i64 e.c, .int .i64 e.s]] w fun en w' => en = .returned (.bool (fewB e)) ∧ Kept [] w w' := by
  unfold fewB
  by_cases h1 : e.nums.length ≤ 34
  · have d1 : decide (e.nums.length ≤ 34) = true := decide_eq_true h1
    by_cases h2 : e.text.length ≤ 12000
    · have d2 : decide (e.text.length ≤ 12000) = true := decide_eq_true h2
      rw [d1, d2]
      go_enter Tryz.func48, Tryz.ntmps48
      go_wp2
      go_ret
      exact ⟨by simp; omega, (Kept.refl _ _).alloc _⟩
    · have d2 : decide (e.text.length ≤ 12000) = false := decide_eq_false h2
      rw [d1, d2]
      go_enter Tryz.func48, Tryz.ntmps48
      go_wp2
      go_ret
      exact ⟨by simp; omega, (Kept.refl _ _).alloc _⟩
  · have d1 : decide (e.nums.length ≤ 34) = false := decide_eq_false h1
    rw [d1, Bool.false_and]
    go_enter Tryz.func48, Tryz.ntmps48
    go_wp2
    go_ret
    exact ⟨by simp, (Kept.refl _ _).alloc _⟩
def fewL (l : List Ent) (m : Nat) : Bool := decide (l.length ≤ m) && l.all fewB

set_option maxRecDepth 100000 in
set_option maxHeartbeats 2000000 in
theorem fewEntries_any (v : Value) (l : List Ent) (m : Nat) (w : World) (h : EntsV w v l) (hI : ∀ e ∈ l, e.nums.length ≤ 9223372036854775807 ∧ e.text.length ≤ 9223372036854775807) (hm : m ≤ 1000) :
    Calls Tryz.prog 22 #[v, .int .i64 m] w fun en w' => en = .returned (.bool (fewL l m)) ∧ Kept [] w w' := by
  obtain ⟨aa, ca, rfl, hl9, _⟩ := RowOf.form h
  have HV := Lib.hid h
  have HI := Lib.hid hI
  have FL : Hid (fewL l m = (decide (l.length ≤ m) && l.all fewB)) := rfl
  obtain ⟨R, hR⟩ : ∃ R, fewL l m = R := ⟨_, rfl⟩
  rw [hR] at FL ⊢
  clear hR h hI
  go_enter Tryz.func22, Tryz.ntmps22
  go_wp2_with fail
  go_loopw [5] (fun vi wr => ∃ k : Nat, k ≤ l.length ∧ k ≤ m + 1 ∧ vi = .int .i64 k ∧ Hid (∀ e ∈ l.take k, fewB e = true) ∧ Hid (Kept [] w wr)) (fun vi _ => l.length - (intOf vi).toNat)
  case atStart => exact ⟨0, by omega, by omega, rfl, Lib.hid (by simp), Lib.hid (Kept.refl _ _)⟩
  case round =>
    obtain ⟨k, hkl, hkm, rfl, HF, HK⟩ := hrel
    by_cases hkn : k < l.length
    · by_cases hk2 : k ≤ m
      · obtain ⟨xb, xo, xc, hx1, _, hx2⟩ := HV.out.at_ (by omega)
        injection hx1 with hx1 _ hx3
        subst hx1 hx3
        obtain ⟨u, hu, hc8⟩ := hx2 k hkn
        have hc8 := hc8.kept HK.out
        obtain ⟨ga, gc, rfl, _, _⟩ := hu.form
        have hIe := HI.out _ (List.getElem_mem hkn)
        have FE := Lib.hid (fewEntry_any l[k] ga gc wr hIe.1 hIe.2)
        have HT : Hid (fewB l[k] = true → ∀ e ∈ l.take (k + 1), fewB e = true) := fun h e he => by
          rw [List.take_succ_eq_append_getElem hkn, List.mem_append, List.mem_singleton] at he
          rcases he with he | rfl
          · exact HF.out e he
          · exact h
        have HU : Hid (fewB l[k] = false → l.all fewB = false) := fun h => by
          rw [List.all_eq_false]
          exact ⟨_, List.getElem_mem hkn, by simp [h]⟩
        obtain ⟨x, hx⟩ : ∃ x, l[k] = x := ⟨_, rfl⟩
        rw [hx] at FE HT HU hc8
        obtain ⟨c0, c1, c2, c3, c4, c5, c6, c7⟩ := hc8
        obtain ⟨b, hb⟩ : ∃ b, fewB x = b := ⟨_, rfl⟩
        rw [hb] at FE HT HU
        have hk3 : (k : Int) ≤ (m : Int) := by omega
        clear hx hb hx2 hu hIe
        go_wp2_with (go_at_call 48; with_reducible refine FE.out.mono ?_)
        first | (rintro e w3 rfl k3) | (rintro e w3 ⟨rfl, k3⟩)
        have HK3 := Lib.hid (HK.out.trans k3)
        clear c0 c1 c2 c3 c4 c5 c6 c7 k3
        cases b
        · have hR := FL.out
          rw [HU.out (by trivial), Bool.and_false] at hR
          subst hR
          go_wp2_with fail
          go_ret
          exact ⟨rfl, HK3.out⟩
        · go_wp2_with fail
          go_roundw
          case rel => exact ⟨k + 1, by omega, by omega, by go_num, Lib.hid (HT.out (by trivial)), HK3⟩
          case measure => simp [intOf]; omega
      · have hR := FL.out
        have h9 : ¬ l.length ≤ m := by omega
        have d9 : decide (l.length ≤ m) = false := decide_eq_false h9
        rw [d9, Bool.false_and] at hR
        subst hR
        have hk3 : ¬ (k : Int) ≤ (m : Int) := by omega
        have hk4 : ¬ (l.length : Int) ≤ (m : Int) := by omega
        go_wp2_with fail
        go_ret
        exact ⟨by simp, HK.out⟩
    · obtain rfl : k = l.length := by omega
      have hR := FL.out
      have ha : l.all fewB = true := by
        have := HF.out
        rw [List.take_length] at this
        exact List.all_eq_true.2 this
      rw [ha, Bool.and_true] at hR
      subst hR
      clear ha HF
      go_wp2_with fail
      go_ret
      exact ⟨by simp, HK.out⟩

set_option maxRecDepth 100000 in
set_option maxHeartbeats 1000000 in
theorem fewDoors_nil (v : Value) (s : Stp) (w : World) (h : StpV w v s) : Calls Tryz.prog 21 #[v, .slice none 0 0] w fun e w' => e = .returned (.bool (decide (s.bases.length ≤ 9))) ∧ Kept [] w w' := by
  have h' := h
  obtain ⟨⟨ad, cc, rfl, hrow⟩, _, _, _, _, _⟩ := h'
  obtain ⟨W, hW⟩ : ∃ W, w.alloc (.cells (stpA s (.slice ad s.bases.length cc)) 26) = W := ⟨_, rfl⟩
  have hb : Blk W w.heap.size 26 (stpA s (.slice ad s.bases.length cc)) := hW ▸ Blk.new _ _ _
  have hkW : Kept [] w W := hW ▸ (Kept.refl _ _).alloc _
  have FS : Hid (Calls Tryz.prog 47 #[.agg #[.int .i64 s.P, .int .i64 s.Q, .int .i64 s.G, .slice ad s.bases.length cc, .int .i64 s.blind]] W fun e w2 => e = .returned (.bool (decide (s.bases.length ≤ 9))) ∧ Kept [] W w2) := fewSet_any _ s W (h.kept hkW)
  have s0 : W.cell? ⟨w.heap.size, 0, none⟩ = some (.int .i64 s.P) := hb.cell 0
  have s1 : W.cell? ⟨w.heap.size, 1, none⟩ = some (.int .i64 s.Q) := hb.cell 1
  have s2 : W.cell? ⟨w.heap.size, 2, none⟩ = some (.int .i64 s.G) := hb.cell 2
  have s3 : W.cell? ⟨w.heap.size, 3, none⟩ = some (.slice ad s.bases.length cc) := hb.cell 3
  have s4 : W.cell? ⟨w.heap.size, 4, none⟩ = some (.int .i64 s.blind) := hb.cell 4
  have HW := Lib.hid hW
  have HKW := Lib.hid hkW
  obtain ⟨R, hR⟩ : ∃ R, decide (s.bases.length ≤ 9) = R := ⟨_, rfl⟩
  rw [hR] at FS ⊢
  clear hW hb hrow hkW h hR
  show Calls _ _ #[.agg #[.int .i64 s.P, .int .i64 s.Q, .int .i64 s.G, .slice ad s.bases.length cc, .int .i64 s.blind], _] _ _
  go_enter Tryz.func21, Tryz.ntmps21
  go_upto_region 1 with (fail)
  have hW' : w.alloc (.cells #[.int .i64 s.P, .int .i64 s.Q, .int .i64 s.G, .slice ad s.bases.length cc, .int .i64 s.blind] 26) = W := HW.out
  rw [hW']
  clear hW'
  go_wp2_with fail
  refine wp_loop_rounds 1 ?_
  rw [rounds_succ]
  go_wp2_with (go_at_call 47; with_reducible refine FS.out.mono ?_)
  first | (rintro e w3 rfl k3) | (rintro e w3 ⟨rfl, k3⟩)
  clear s0 s1 s2 s3 s4
  go_wp2_with fail
  go_ret
  exact ⟨rfl, HKW.out.trans k3⟩

/-- whether the law's input is few -/
def fewT (s : Stp) (keys : List Int) (l : List Ent) (ats : List Int) : Bool := decide (s.bases.length ≤ 9) && (fewL l 9 && (decide (keys.length ≤ 24) && decide (ats.length ≤ 12)))
set_option maxRecDepth 100000 in
set_option maxHeartbeats 2000000 in
theorem fewTimes_any (vs : Value) (s : Stp) (keys : List Int) (l : List Ent) (ats : List Int) (ka aa ta : Option Addr) (kc ca tc : Nat) (w : World) (hs : StpV w vs s) (hk : keys.length ≤ 9223372036854775807) (ht : ats.length ≤ 9223372036854775807) (ha : EntsV w (.slice aa l.length ca) l) (hI : ∀ e ∈ l, e.nums.length ≤ 9223372036854775807 ∧ e.text.length ≤ 9223372036854775807) :
    Calls Tryz.prog 7 #[vs, .slice ka keys.length kc, .slice aa l.length ca, .slice ta ats.length tc] w fun e w' => e = .returned (.bool (fewT s keys l ats)) ∧ Kept [] w w' := by
  have hs' := hs
  obtain ⟨⟨ad, cc, rfl, hrow⟩, _, _, _, _, _⟩ := hs'
  obtain ⟨W, hW⟩ : ∃ W, w.alloc (.cells (stpA s (.slice ad s.bases.length cc)) 26) = W := ⟨_, rfl⟩
  have hb : Blk W w.heap.size 26 (stpA s (.slice ad s.bases.length cc)) := hW ▸ Blk.new _ _ _
  have hkW : Kept [] w W := hW ▸ (Kept.refl _ _).alloc _
  have FD : Hid (Calls Tryz.prog 21 #[.agg #[.int .i64 s.P, .int .i64 s.Q, .int .i64 s.G, .slice ad s.bases.length cc, .int .i64 s.blind], .slice none 0 0] W fun e w2 => e = .returned (.bool (decide (s.bases.length ≤ 9))) ∧ Kept [] W w2) := fewDoors_nil _ s W (hs.kept hkW)
  have FE : Hid (∀ w', Kept [] W w' → Calls Tryz.prog 22 #[.slice aa l.length ca, .int .i64 9] w' fun e w2 => e = .returned (.bool (fewL l 9)) ∧ Kept [] w' w2) := fun w' k => fewEntries_any _ l 9 w' (ha.kept (hkW.trans k)) hI (by omega)
  have s0 : W.cell? ⟨w.heap.size, 0, none⟩ = some (.int .i64 s.P) := hb.cell 0
  have s1 : W.cell? ⟨w.heap.size, 1, none⟩ = some (.int .i64 s.Q) := hb.cell 1
  have s2 : W.cell? ⟨w.heap.size, 2, none⟩ = some (.int .i64 s.G) := hb.cell 2
  have s3 : W.cell? ⟨w.heap.size, 3, none⟩ = some (.slice ad s.bases.length cc) := hb.cell 3
  have s4 : W.cell? ⟨w.heap.size, 4, none⟩ = some (.int .i64 s.blind) := hb.cell 4
  have HW := Lib.hid hW
  have HKW := Lib.hid hkW
  have FT : Hid (fewT s keys l ats = (decide (s.bases.length ≤ 9) && (fewL l 9 && (decide (keys.length ≤ 24) && decide (ats.length ≤ 12))))) := rfl
  obtain ⟨R, hR⟩ : ∃ R, fewT s keys l ats = R := ⟨_, rfl⟩
  obtain ⟨b1, hb1⟩ : ∃ b, decide (s.bases.length ≤ 9) = b := ⟨_, rfl⟩
  obtain ⟨b2, hb2⟩ : ∃ b, fewL l 9 = b := ⟨_, rfl⟩
  rw [hR, hb1, hb2] at FT
  rw [hR]
  rw [hb1] at FD
  rw [hb2] at FE
  clear hW hb hrow hkW hs ha hI hR hb1 hb2
  obtain ⟨kn, hkn⟩ : ∃ n, keys.length = n := ⟨_, rfl⟩
  obtain ⟨tn, htn⟩ : ∃ n, ats.length = n := ⟨_, rfl⟩
  rw [hkn, htn] at FT ⊢
  rw [hkn] at hk
  rw [htn] at ht
  clear hkn htn
  show Calls _ _ #[.agg #[.int .i64 s.P, .int .i64 s.Q, .int .i64 s.G, .slice ad s.bases.length cc, .int .i64 s.blind], _, _, _] _ _
  go_enter Tryz.func7, Tryz.ntmps7
  go_upto_region 1 with (fail)
  have hW' : w.alloc (.cells #[.int .i64 s.P, .int .i64 s.Q, .int .i64 s.G, .slice ad s.bases.length cc, .int .i64 s.blind] 26) = W := HW.out
  rw [hW']
  clear hW'
  go_wp2_with (go_at_call 21; with_reducible refine FD.out.mono ?_)
  first | (rintro e w3 rfl k3) | (rintro e w3 ⟨rfl, k3⟩)
  clear s0 s1 s2 s3 s4
  cases b1
  · have hR := FT.out
    rw [Bool.false_and] at hR
    subst hR
    go_wp2_with fail
    go_ret
    exact ⟨rfl, HKW.out.trans k3⟩
  have FE3 := Lib.hid (FE.out w3 k3)
  have K3 := Lib.hid (HKW.out.trans k3)
  clear k3
  go_wp2_with (go_at_call 22; with_reducible refine FE3.out.mono ?_)
  first | (rintro e w4 rfl k4) | (rintro e w4 ⟨rfl, k4⟩)
  cases b2
  · have hR := FT.out
    rw [Bool.true_and, Bool.false_and] at hR
    subst hR
    go_wp2_with fail
    go_ret
    exact ⟨rfl, K3.out.trans k4⟩
  have hR := FT.out
  rw [Bool.true_and, Bool.true_and] at hR
  by_cases h1 : kn ≤ 24
  · have d1 : decide (kn ≤ 24) = true := decide_eq_true h1
    by_cases h2 : tn ≤ 12
    · have d2 : decide (tn ≤ 12) = true := decide_eq_true h2
      rw [d1, d2] at hR
      subst hR
      go_wp2_with fail
      go_ret
      exact ⟨by simp; omega, K3.out.trans k4⟩
    · have d2 : decide (tn ≤ 12) = false := decide_eq_false h2
      rw [d1, d2] at hR
      subst hR
      go_wp2_with fail
      go_ret
      exact ⟨by simp; omega, K3.out.trans k4⟩
  · have d1 : decide (kn ≤ 24) = false := decide_eq_false h1
    rw [d1, Bool.false_and] at hR
    subst hR
    go_wp2_with fail
    go_ret
    exact ⟨by simp, K3.out.trans k4⟩
end Go.Proofs.YtcidfldeiklcjaaGreatDoor
