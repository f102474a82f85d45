/- The law on cycles: GateCycles. -/
import Derived.Test.YtcidfldeiklcjaaGreatDoorLgp
namespace Go.Proofs.YtcidfldeiklcjaaGreatDoor
open Go.RowKit Tm Bf

set_option maxRecDepth 100000 in
set_option maxHeartbeats 8000000 in
theorem law08c_any (vs vk va vc : Value) (s : Stp) (xs : List Int) (l : List Ent) (dr : Int) (cyc : List Int) (w : World) (hs : StpV w vs s) (hk : Row w 1 vk xs.length (ints xs)) (ha : EntsV w va l) (hc : Row w 1 vc cyc.length (ints cyc)) (hJ : ∀ e ∈ l, EntJ e) (hxi : ∀ x ∈ xs, Wire.I64 x) (hci : ∀ x ∈ cyc, Wire.I64 x) (hE : Env2 w) :
    Calls Tryz.prog 5 #[vs, vk, va, .int .i64 dr, vc] w fun e w' => e = .returned (.bool true) ∧ Kept [] w w' := by
  have hs' := hs
  obtain ⟨⟨ad, cc, rfl, hrow⟩, _, _, _, _, _⟩ := hs'
  obtain ⟨aa, ca, rfl, _, _⟩ := RowOf.form ha
  obtain ⟨ka, kc, rfl, hkl, _⟩ := hk.form
  obtain ⟨ya, yc, rfl, hcl, _⟩ := hc.form
  obtain ⟨W, hW⟩ : ∃ W, w.alloc (.cells #[.int .i64 s.P, .int .i64 s.Q, .int .i64 s.G, .slice ad s.bases.length cc, .int .i64 s.blind] 26) = W := ⟨_, rfl⟩
  have hb : Blk W w.heap.size 26 #[.int .i64 s.P, .int .i64 s.Q, .int .i64 s.G, .slice ad s.bases.length cc, .int .i64 s.blind] := hW ▸ Blk.new _ _ _
  have hkW : Kept [] w W := hW ▸ (Kept.refl _ _).alloc _
  have SN := Lib.hid (saneTimes_any W (hE.kept0 hkW))
  have HBS := Lib.hid hb
  have HSV : Hid (∀ w', Kept [] W w' → StpV w' (.agg #[.int .i64 s.P, .int .i64 s.Q, .int .i64 s.G, .slice ad s.bases.length cc, .int .i64 s.blind]) s) := fun w' kk => hs.kept (hkW.trans kk)
  have HKV : Hid (∀ w', Kept [] W w' → Row w' 1 (.slice ka xs.length kc) xs.length (ints xs)) := fun w' kk => hk.kept (hkW.trans kk)
  have HAV : Hid (∀ w', Kept [] W w' → EntsV w' (.slice aa l.length ca) l) := fun w' kk => ha.kept (hkW.trans kk)
  have HCV : Hid (∀ w', Kept [] W w' → Row w' 1 (.slice ya cyc.length yc) cyc.length (ints cyc)) := fun w' kk => hc.kept (hkW.trans kk)
  have HEV : Hid (∀ w', Kept [] W w' → Env2 w') := fun w' kk => hE.kept0 (hkW.trans kk)
  have HJ := Lib.hid hJ
  have HXI := Lib.hid hxi
  have HCI := Lib.hid hci
  have HW := Lib.hid hW
  have HKW := Lib.hid hkW
  have FT : Hid (∀ w', Kept [] W w' → Calls Tryz.prog 7 #[.agg #[.int .i64 s.P, .int .i64 s.Q, .int .i64 s.G, .slice ad s.bases.length cc, .int .i64 s.blind], .slice ka xs.length kc, .slice aa l.length ca, .slice ya cyc.length yc] w' fun e w2 => e = .returned (.bool (fewT s xs l cyc)) ∧ Kept [] w' w2) := fun w' kk =>
    fewTimes_any _ s xs l cyc ka aa ya kc ca yc w' (hs.kept (hkW.trans kk)) hkl hcl (ha.kept (hkW.trans kk)) (fun e he => ⟨(hJ e he).l4, (hJ e he).l5⟩)
  clear hb hkW hW hs hk ha hc hJ hxi hci hE hrow
  show Calls _ _ #[.agg #[.int .i64 s.P, .int .i64 s.Q, .int .i64 s.G, .slice ad s.bases.length cc, .int .i64 s.blind], _, _, _, _] _ _
  go_enter Tryz.func5, Tryz.ntmps5
  go_upto_region 1 with (fail)
  have hW' : w.alloc (.cells #[.int .i64 s.P, .int .i64 s.Q, .int .i64 s.G, .slice ad s.bases.length cc, .int .i64 s.blind] 26) = W := HW.out
  rw [hW']
  clear hW'
  go_wp2_with (go_at_call 6; with_reducible refine SN.out.mono ?_)
  first | (rintro e w1 rfl k1) | (rintro e w1 ⟨rfl, k1⟩)
  have K1 : Hid (Kept [] W w1) := k1
  clear SN k1
  have s0 : w1.cell? ⟨w.heap.size, 0, none⟩ = some (.int .i64 s.P) := Kept.cellOf (HBS.out.cell 0) _ K1.out
  have s1 : w1.cell? ⟨w.heap.size, 1, none⟩ = some (.int .i64 s.Q) := Kept.cellOf (HBS.out.cell 1) _ K1.out
  have s2 : w1.cell? ⟨w.heap.size, 2, none⟩ = some (.int .i64 s.G) := Kept.cellOf (HBS.out.cell 2) _ K1.out
  have s3 : w1.cell? ⟨w.heap.size, 3, none⟩ = some (.slice ad s.bases.length cc) := Kept.cellOf (HBS.out.cell 3) _ K1.out
  have s4 : w1.cell? ⟨w.heap.size, 4, none⟩ = some (.int .i64 s.blind) := Kept.cellOf (HBS.out.cell 4) _ K1.out
  have FT1 := Lib.hid (FT.out w1 K1.out)
  obtain ⟨fb, hfb⟩ : ∃ b, fewT s xs l cyc = b := ⟨_, rfl⟩
  rw [hfb] at FT1
  clear FT
  go_wp2_with (go_at_call 7; with_reducible refine FT1.out.mono ?_)
  first | (rintro e w2 rfl k2) | (rintro e w2 ⟨rfl, k2⟩)
  have K2 := Lib.hid (K1.out.trans k2)
  clear s0 s1 s2 s3 s4
  clear FT1 k2
  cases fb
  · have KE := Lib.hid (HKW.out.trans K2.out)
    go_wp2_with fail
    go_ret
    exact ⟨rfl, KE.out⟩
  unfold fewT at hfb
  simp only [Bool.and_eq_true, decide_eq_true_eq] at hfb
  obtain ⟨_, hfl, hx24, hc12⟩ := hfb
  obtain ⟨hl9, hI⟩ := fewL_all HJ.out hfl
  have HI := Lib.hid hI
  have PB := Lib.hid (publics_any _ _ s xs w2 (HSV.out _ K2.out) (HKV.out _ K2.out) HXI.out (by omega) (HEV.out _ K2.out))
  clear hfl hI
  have s0 : w2.cell? ⟨w.heap.size, 0, none⟩ = some (.int .i64 s.P) := Kept.cellOf (HBS.out.cell 0) _ K2.out
  have s1 : w2.cell? ⟨w.heap.size, 1, none⟩ = some (.int .i64 s.Q) := Kept.cellOf (HBS.out.cell 1) _ K2.out
  have s2 : w2.cell? ⟨w.heap.size, 2, none⟩ = some (.int .i64 s.G) := Kept.cellOf (HBS.out.cell 2) _ K2.out
  have s3 : w2.cell? ⟨w.heap.size, 3, none⟩ = some (.slice ad s.bases.length cc) := Kept.cellOf (HBS.out.cell 3) _ K2.out
  have s4 : w2.cell? ⟨w.heap.size, 4, none⟩ = some (.int .i64 s.blind) := Kept.cellOf (HBS.out.cell 4) _ K2.out
  go_wp2_with (go_at_call 8; with_reducible refine PB.out.mono ?_)
  rintro e w3 ⟨pa, pc, rfl, hpr, k3⟩
  have HPR := Lib.hid hpr
  have K3 := Lib.hid (K2.out.trans k3)
  have SL := Lib.hid (sealed_any8 _ _ _ s xs l w3 (HSV.out _ K3.out) (HKV.out _ K3.out) (HAV.out _ K3.out) (by omega) HI.out HXI.out (HEV.out _ K3.out))
  clear s0 s1 s2 s3 s4
  clear PB hpr k3
  have s0 : w3.cell? ⟨w.heap.size, 0, none⟩ = some (.int .i64 s.P) := Kept.cellOf (HBS.out.cell 0) _ K3.out
  have s1 : w3.cell? ⟨w.heap.size, 1, none⟩ = some (.int .i64 s.Q) := Kept.cellOf (HBS.out.cell 1) _ K3.out
  have s2 : w3.cell? ⟨w.heap.size, 2, none⟩ = some (.int .i64 s.G) := Kept.cellOf (HBS.out.cell 2) _ K3.out
  have s3 : w3.cell? ⟨w.heap.size, 3, none⟩ = some (.slice ad s.bases.length cc) := Kept.cellOf (HBS.out.cell 3) _ K3.out
  have s4 : w3.cell? ⟨w.heap.size, 4, none⟩ = some (.int .i64 s.blind) := Kept.cellOf (HBS.out.cell 4) _ K3.out
  go_wp2_with (go_at_call 9; with_reducible refine SL.out.mono ?_)
  rintro e w4 ⟨vx, rfl, hxr, k4⟩
  have hLl : (sealL s xs l).length = l.length := by simp [sealL]
  obtain ⟨L, hL⟩ : ∃ L, sealL s xs l = L := ⟨_, rfl⟩
  have hLI : ∀ e ∈ L, EntI e := by rw [← hL]; exact sealL_i HI.out
  obtain ⟨P, hP⟩ : ∃ P, pubL s xs = P := ⟨_, rfl⟩
  have hPI : ∀ x ∈ P, Wire.I64 x := by rw [← hP]; exact pubL_i
  rw [hL] at hxr hLl
  rw [hP] at HPR ⊢
  obtain ⟨xa, xc, rfl, _, _⟩ := RowOf.form hxr
  have hL12 : L.length ≤ 12 := by omega
  have HXR := Lib.hid hxr
  have HLI := Lib.hid hLI
  have HPI := Lib.hid hPI
  have K4 := Lib.hid (K3.out.trans k4)
  have K34 := Lib.hid k4
  have BD := Lib.hid (bounds_any _ _ _ s P L dr w4 (HSV.out _ K4.out) (HPR.out.kept k4) hxr hL12 hLI hPI (HEV.out _ K4.out))
  clear s0 s1 s2 s3 s4
  clear SL hxr k4 hL hP hLI hPI hLl
  have s0 : w4.cell? ⟨w.heap.size, 0, none⟩ = some (.int .i64 s.P) := Kept.cellOf (HBS.out.cell 0) _ K4.out
  have s1 : w4.cell? ⟨w.heap.size, 1, none⟩ = some (.int .i64 s.Q) := Kept.cellOf (HBS.out.cell 1) _ K4.out
  have s2 : w4.cell? ⟨w.heap.size, 2, none⟩ = some (.int .i64 s.G) := Kept.cellOf (HBS.out.cell 2) _ K4.out
  have s3 : w4.cell? ⟨w.heap.size, 3, none⟩ = some (.slice ad s.bases.length cc) := Kept.cellOf (HBS.out.cell 3) _ K4.out
  have s4 : w4.cell? ⟨w.heap.size, 4, none⟩ = some (.int .i64 s.blind) := Kept.cellOf (HBS.out.cell 4) _ K4.out
  go_wp2_with (go_at_call 10; with_reducible refine BD.out.mono ?_)
  intro e w5 hbd
  have k5 : Kept [] w4 w5 := hbd.1
  have K5 := Lib.hid (K4.out.trans k5)
  have K45 := Lib.hid k5
  have CN := Lib.hid (conflict_any _ _ _ s P L dr w5 (HSV.out _ K5.out) (HPR.out.kept (K34.out.trans k5)) (HXR.out.kept k5) hL12 HLI.out HPI.out (HEV.out _ K5.out))
  have hform : ∃ (ba : Option Addr) (bn bc : Nat) (er : Int), e = .returned (.tuple #[.slice ba bn bc, .int .i64 er]) := by
    obtain ⟨_, ⟨_, rfl⟩ | ⟨_, o, _, _, _, _, _, ⟨v, up, lo, rfl, _, _, hr⟩ | ⟨rfl, _⟩⟩⟩ := hbd
    · exact ⟨_, _, _, _, rfl⟩
    · obtain ⟨ba, bc, rfl, _, _⟩ := RowOf.form hr
      exact ⟨_, _, _, _, rfl⟩
    · exact ⟨_, _, _, _, rfl⟩
  obtain ⟨ba, bn, bc, er, rfl⟩ := hform
  have HBD := Lib.hid hbd
  clear s0 s1 s2 s3 s4
  clear BD hbd k5
  have s0 : w5.cell? ⟨w.heap.size, 0, none⟩ = some (.int .i64 s.P) := Kept.cellOf (HBS.out.cell 0) _ K5.out
  have s1 : w5.cell? ⟨w.heap.size, 1, none⟩ = some (.int .i64 s.Q) := Kept.cellOf (HBS.out.cell 1) _ K5.out
  have s2 : w5.cell? ⟨w.heap.size, 2, none⟩ = some (.int .i64 s.G) := Kept.cellOf (HBS.out.cell 2) _ K5.out
  have s3 : w5.cell? ⟨w.heap.size, 3, none⟩ = some (.slice ad s.bases.length cc) := Kept.cellOf (HBS.out.cell 3) _ K5.out
  have s4 : w5.cell? ⟨w.heap.size, 4, none⟩ = some (.int .i64 s.blind) := Kept.cellOf (HBS.out.cell 4) _ K5.out
  go_wp2_with (go_at_call 12; with_reducible refine CN.out.mono ?_)
  intro e w6 hcn
  have k6 : Kept [] w5 w6 := hcn.1
  obtain ⟨ba', bn', bc', er', c, oa, oc, he1, rfl, hcr, hlaw⟩ := cyc_law HBD.out hcn
  injection he1 with he1
  injection he1 with he1
  have her : er' = er := by
    have h := congrArg (fun x : Array Value => x[1]?) he1
    simpa using h.symm
  subst her
  have K6 := Lib.hid (K5.out.trans k6)
  have K46 := Lib.hid (K45.out.trans k6)
  have K36 := Lib.hid (K34.out.trans (K45.out.trans k6))
  have HLW := Lib.hid hlaw
  have HCR := Lib.hid hcr
  clear s0 s1 s2 s3 s4
  clear CN hcn k6 he1 hlaw hcr HBD
  obtain ⟨n, hn⟩ : ∃ n, c.length = n := ⟨_, rfl⟩
  have HN := Lib.hid hn
  rw [hn] at HCR ⊢
  have hnl : (natI c).length = n := by rw [natI_len]; exact hn
  have hn13 : n ≤ 13 := by have := HLW.out.len; omega
  have I1 := Lib.hid (impossible_any _ _ _ _ s P L dr (natI c) w6 (HSV.out _ K6.out) (HPR.out.kept K36.out) (HXR.out.kept K46.out) hL12 HLI.out HPI.out (by rw [hnl]; exact HCR.out) (by rw [hnl]; omega) (natI_i64 HLW.out.sm) (HEV.out _ K6.out))
  have I2 : Hid (∀ w', Kept [] w6 w' → Calls Tryz.prog 15 #[.agg #[.int .i64 s.P, .int .i64 s.Q, .int .i64 s.G, .slice ad s.bases.length cc, .int .i64 s.blind], .slice pa P.length pc, .slice xa L.length xc, .int .i64 dr, .slice ya cyc.length yc] w' (AnsB (ImpP s P L dr cyc) w')) := fun w' kk =>
    impossible_any _ _ _ _ s P L dr cyc w' (HSV.out _ (K6.out.trans kk)) (HPR.out.kept (K36.out.trans kk)) (HXR.out.kept (K46.out.trans kk)) hL12 HLI.out HPI.out (HCV.out _ (K6.out.trans kk)) (by omega) HCI.out (HEV.out _ (K6.out.trans kk))
  clear hn hnl
  have s0 : w6.cell? ⟨w.heap.size, 0, none⟩ = some (.int .i64 s.P) := Kept.cellOf (HBS.out.cell 0) _ K6.out
  have s1 : w6.cell? ⟨w.heap.size, 1, none⟩ = some (.int .i64 s.Q) := Kept.cellOf (HBS.out.cell 1) _ K6.out
  have s2 : w6.cell? ⟨w.heap.size, 2, none⟩ = some (.int .i64 s.G) := Kept.cellOf (HBS.out.cell 2) _ K6.out
  have s3 : w6.cell? ⟨w.heap.size, 3, none⟩ = some (.slice ad s.bases.length cc) := Kept.cellOf (HBS.out.cell 3) _ K6.out
  have s4 : w6.cell? ⟨w.heap.size, 4, none⟩ = some (.int .i64 s.blind) := Kept.cellOf (HBS.out.cell 4) _ K6.out
  by_cases hc0 : c = []
  · obtain rfl : n = 0 := by rw [← HN.out, hc0]; rfl
    have e13 : (er' == 13) = false := by
      have := HLW.out.er
      simp only [beq_eq_false_iff_ne]
      exact fun h => this.1 h hc0
    have I1f : Hid (Calls Tryz.prog 15 #[.agg #[.int .i64 s.P, .int .i64 s.Q, .int .i64 s.G, .slice ad s.bases.length cc, .int .i64 s.blind], .slice pa P.length pc, .slice xa L.length xc, .int .i64 dr, .slice oa 0 oc] w6 fun e w' => e = .returned (.bool false) ∧ Kept [] w6 w') := I1.out.mono fun _ _ ⟨h1, b, h2, h3⟩ => ⟨by
      cases b with
      | true => exact absurd hc0 (HLW.out.imp.1 (h3.1 rfl))
      | false => exact h2, h1⟩
    have I2f : Hid (∀ w', Kept [] w6 w' → Calls Tryz.prog 15 #[.agg #[.int .i64 s.P, .int .i64 s.Q, .int .i64 s.G, .slice ad s.bases.length cc, .int .i64 s.blind], .slice pa P.length pc, .slice xa L.length xc, .int .i64 dr, .slice ya cyc.length yc] w' fun e w2 => e = .returned (.bool false) ∧ Kept [] w' w2) := fun w' kk => (I2.out w' kk).mono fun _ _ ⟨h1, b, h2, h3⟩ => ⟨by
      cases b with
      | true => exact absurd hc0 (HLW.out.rest cyc (h3.1 rfl)).1
      | false => exact h2, h1⟩
    clear I1 I2 hc0
    go_wp2_with (go_at_call 15; with_reducible refine I1f.out.mono ?_)
    first | (rintro e w7 rfl k7) | (rintro e w7 ⟨rfl, k7⟩)
    have K7 := Lib.hid (K6.out.trans k7)
    have I3 := Lib.hid (I2f.out w7 k7)
    clear s0 s1 s2 s3 s4
    clear k7 I1f
    have s0 : w7.cell? ⟨w.heap.size, 0, none⟩ = some (.int .i64 s.P) := Kept.cellOf (HBS.out.cell 0) _ K7.out
    have s1 : w7.cell? ⟨w.heap.size, 1, none⟩ = some (.int .i64 s.Q) := Kept.cellOf (HBS.out.cell 1) _ K7.out
    have s2 : w7.cell? ⟨w.heap.size, 2, none⟩ = some (.int .i64 s.G) := Kept.cellOf (HBS.out.cell 2) _ K7.out
    have s3 : w7.cell? ⟨w.heap.size, 3, none⟩ = some (.slice ad s.bases.length cc) := Kept.cellOf (HBS.out.cell 3) _ K7.out
    have s4 : w7.cell? ⟨w.heap.size, 4, none⟩ = some (.int .i64 s.blind) := Kept.cellOf (HBS.out.cell 4) _ K7.out
    go_wp2_with (go_at_call 15; with_reducible refine I3.out.mono ?_)
    first | (rintro e w8 rfl k8) | (rintro e w8 ⟨rfl, k8⟩)
    have KE := Lib.hid (HKW.out.trans (K7.out.trans k8))
    clear s0 s1 s2 s3 s4
    clear k8
    go_wp2_with fail
    go_ret
    exact ⟨rfl, KE.out⟩
  · have hnp : 0 < n := by
      rw [← HN.out]
      exact List.length_pos_iff.2 hc0
    have e13 : (er' == 13) = true := by simpa using HLW.out.er.2 hc0
    have hnd : decide ((0 : Int) < (n : Int)) = true := decide_eq_true (by omega)
    have I1f : Hid (Calls Tryz.prog 15 #[.agg #[.int .i64 s.P, .int .i64 s.Q, .int .i64 s.G, .slice ad s.bases.length cc, .int .i64 s.blind], .slice pa P.length pc, .slice xa L.length xc, .int .i64 dr, .slice oa n oc] w6 fun e w' => e = .returned (.bool true) ∧ Kept [] w6 w') := I1.out.mono fun _ _ ⟨h1, b, h2, h3⟩ => ⟨by rw [h2, h3.2 (HLW.out.imp.2 hc0)], h1⟩
    clear I1 hc0
    go_wp2_with (go_at_call 15; with_reducible refine I1f.out.mono ?_)
    first | (rintro e w7 rfl k7) | (rintro e w7 ⟨rfl, k7⟩)
    have K7 := Lib.hid (K6.out.trans k7)
    have K67 := Lib.hid k7
    have I3 := Lib.hid (I2.out w7 k7)
    clear s0 s1 s2 s3 s4
    clear k7 I1f I2
    have s0 : w7.cell? ⟨w.heap.size, 0, none⟩ = some (.int .i64 s.P) := Kept.cellOf (HBS.out.cell 0) _ K7.out
    have s1 : w7.cell? ⟨w.heap.size, 1, none⟩ = some (.int .i64 s.Q) := Kept.cellOf (HBS.out.cell 1) _ K7.out
    have s2 : w7.cell? ⟨w.heap.size, 2, none⟩ = some (.int .i64 s.G) := Kept.cellOf (HBS.out.cell 2) _ K7.out
    have s3 : w7.cell? ⟨w.heap.size, 3, none⟩ = some (.slice ad s.bases.length cc) := Kept.cellOf (HBS.out.cell 3) _ K7.out
    have s4 : w7.cell? ⟨w.heap.size, 4, none⟩ = some (.int .i64 s.blind) := Kept.cellOf (HBS.out.cell 4) _ K7.out
    go_wp2_with (go_at_call 15; with_reducible refine I3.out.mono ?_)
    rintro e w8 ⟨k8, b, rfl, hb⟩
    have K8 := Lib.hid (K7.out.trans k8)
    have K68 := Lib.hid (K67.out.trans k8)
    clear s0 s1 s2 s3 s4
    clear k8 I3
    cases b
    · have KE := Lib.hid (HKW.out.trans K8.out)
      go_wp2_with fail
      go_ret
      exact ⟨rfl, KE.out⟩
    obtain ⟨_, hlen, hrest⟩ := HLW.out.rest cyc (hb.1 rfl)
    rw [HN.out] at hlen hrest
    have HR := Lib.hid hrest
    clear hb hrest
    obtain ⟨cl, hcl2⟩ : ∃ m, cyc.length = m := ⟨_, rfl⟩
    have HCL := Lib.hid hcl2
    have hcv := HCV.out w8 K8.out
    rw [hcl2] at hlen hcv ⊢
    have HCV8 := Lib.hid hcv
    have HCR8 := Lib.hid (HCR.out.kept K68.out)
    have d2 : decide ((cl : Int) < (n : Int)) = false := decide_eq_false (by omega)
    have e0 : ((n : Int) == 0) = false := by simp; omega
    have KE8 := Lib.hid (HKW.out.trans K8.out)
    clear hcl2 hcv HCV HCR
    go_wp2_with fail
    go_loopw [17] (fun vi wr => ∃ i : Nat, i ≤ n ∧ vi = .int .i64 i ∧ Hid (∀ j, j < i → cyc.getD j 0 = (natI c).getD j 0) ∧ Hid (Kept [] w8 wr)) (fun vi _ => n - (intOf vi).toNat)
    case atStart => exact ⟨0, by omega, rfl, fun j hj => by omega, Kept.refl _ _⟩
    case round =>
      obtain ⟨i, hin, rfl, HQ, HK⟩ := hrel
      have KE := Lib.hid (KE8.out.trans HK.out)
      by_cases hlt : i < n
      · have dl : decide ((i : Int) < (n : Int)) = true := decide_eq_true (by omega)
        by_cases heq : cl = n
        · have de : ((cl : Int) == (n : Int)) = true := by simp; omega
          have hic : i < cyc.length := by have := HCL.out; omega
          have hio : i < (natI c).length := by rw [natI_len, HN.out]; exact hlt
          obtain ⟨yb, yo, rfl, hy⟩ := (HCV8.out.kept HK.out).at_ (by omega)
          obtain ⟨ob, oo, rfl, ho⟩ := (HCR8.out.kept HK.out).at_ (by omega)
          have y0 := hy i _ (ints_get hic)
          have o0 := ho i _ (ints_get hio)
          have gy : cyc.getD i 0 = cyc[i] := by rw [List.getD_eq_getElem?_getD, List.getElem?_eq_getElem hic]; rfl
          have go : (natI c).getD i 0 = (natI c)[i] := by rw [List.getD_eq_getElem?_getD, List.getElem?_eq_getElem hio]; rfl
          obtain ⟨x, hx⟩ : ∃ x, cyc[i] = x := ⟨_, rfl⟩
          obtain ⟨z, hz⟩ : ∃ z, (natI c)[i] = z := ⟨_, rfl⟩
          rw [hx] at y0 gy
          rw [hz] at o0 go
          have HLX : Hid (x ≠ z → z < x) := fun h => by
            have := HR.out (by rw [HCL.out]; exact heq) i hlt HQ.out (by rw [gy, go]; exact h)
            rw [gy, go] at this
            exact this
          have HQN : Hid (x = z → ∀ j, j < i + 1 → cyc.getD j 0 = (natI c).getD j 0) := fun h j hj => by
            rcases Nat.lt_or_ge j i with h1 | h1
            · exact HQ.out j h1
            · obtain rfl : j = i := by omega
              rw [gy, go, h]
          clear hy ho gy go hx hz
          by_cases hxz : x = z
          · have dn : (x != z) = false := by simpa using hxz
            have HQ2 := Lib.hid (HQN.out hxz)
            clear hxz
            go_wp2_with fail
            go_quiet (fail)
            go_wp2_with fail
            go_roundw
            case rel => exact ⟨i + 1, by omega, by go_num, HQ2, HK.out.drewN _⟩
            case measure => simp [intOf]; omega
          · have dn : (x != z) = true := by simpa using hxz
            have hzx := HLX.out hxz
            have dg : decide (z < x) = true := decide_eq_true hzx
            clear hxz
            go_wp2_with fail
            go_quiet (fail)
            go_wp2_with fail
            go_quiet (fail)
            go_wp2_with fail
            go_ret
            exact ⟨rfl, (KE.out.drewN _).drewN _⟩
        · have de : ((cl : Int) == (n : Int)) = false := by simp; omega
          go_wp2_with fail
          go_ret
          exact ⟨rfl, KE.out⟩
      · have dl : decide ((i : Int) < (n : Int)) = false := decide_eq_false (by omega)
        go_wp2_with fail
        go_ret
        exact ⟨rfl, KE.out⟩
end Go.Proofs.YtcidfldeiklcjaaGreatDoor
