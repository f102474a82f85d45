/- Signatures: an exponent of a setup; the challenge. -/
import Derived.Test.YtpcdfepndmconaaGreatDoorSame
import Derived.Test.YtpcdfepndmconaaGreatDoorSeats
import Derived.Test.YtpcdfepndmconaaGreatDoorRf1
import Derived.Test.YtpcdfepndmconaaGreatDoorSh1
import Derived.Test.YtpcdfepndmconaaGreatDoorNum
import Derived.Deep.RegionHeld3
/- JOINED: Sane Sg1 -/
/- The example of the law: sane. -/
namespace Go.Proofs.YtpcdfepndmconaaGreatDoor
open Go.RowKit

def exO : Opening := ⟨0, 4, 7, [116, 104, 101, 102, 116], [0, 2], 9⟩
def exM : List UInt8 := [51, 91, 48, 59, 52, 59, 55, 59, 93, 53, 58, 116, 104, 101, 102, 116, 44, 50, 91, 48, 59, 50, 59, 93, 57, 59]
theorem ex_valid : validS exS = true := by decide
theorem ex_s0 : seats exS 0 = [1] := by decide
theorem ex_s1 : seats exS 1 = [] := by decide
theorem ex_s2 : seats exS 2 = [2, 3] := by decide
theorem ex_s3 : seats exS 3 = [] := by decide
theorem ex_g1 : (governing [exS] 0 2 3).2 = true := by decide
theorem ex_g2 : (governing [exS] 0 2 2).2 = false := by decide
theorem ex_g3 : (governing [exS] 1 2 3).2 = false := by decide
theorem ex_m : minutesE exO = exM := by kernel_rfl
theorem ex_r : readMinutes exM = (exO, true) := by kernel_rfl
theorem ex_same : sameO exO exO = true := by decide
theorem ex_short : Short [exS] := by unfold Short exS; decide
theorem ex_short1 : ∀ r ∈ exS.reasons, r.length ≤ 100000000 := by unfold exS; decide

/-- ReadMinutes at the example's text -/
def ExRead (w : World) (e : Ending) (w' : World) : Prop :=
  ∃ ja jc, e = .returned (.tuple #[.agg #[.int .i64 0, .int .i64 4, .int .i64 7, .string ⟨#[116, 104, 101, 102, 116]⟩, .slice ja 2 jc, .int .i64 9], .bool true]) ∧ OpenV w' (.agg #[.int .i64 0, .int .i64 4, .int .i64 7, .string ⟨#[116, 104, 101, 102, 116]⟩, .slice ja 2 jc, .int .i64 9]) exO ∧ Kept [] w w'
theorem ex_read (w : World) (hE : Env w) : Calls Tryz.prog 16 #[.string ⟨exM.toArray⟩] w (ExRead w) :=
  (readMinutes_any exM w hE (by decide)).mono fun e w' h => by
    obtain ⟨v, he, hv, hk⟩ := h
    rw [ex_r] at hv he
    obtain ⟨js, rfl, hrow⟩ := hv.form
    obtain ⟨ja, jc, rfl, _⟩ := hrow.form
    exact ⟨ja, jc, he, hv, hk⟩

theorem row1 (w : World) (x : Int) (T : TypeId) : Row (w.alloc (.cells #[.int .i64 x] T)) 1 (.slice (some ⟨w.heap.size, 0, none⟩) 1 1) [x].length (ints [x]) := Row.of_blk (Blk.new w T #[.int .i64 x]) rfl (by decide)
theorem row2 (w : World) (x y : Int) (T : TypeId) : Row (w.alloc (.cells #[.int .i64 x, .int .i64 y] T)) 1 (.slice (some ⟨w.heap.size, 0, none⟩) 2 2) [x, y].length (ints [x, y]) := Row.of_blk (Blk.new w T #[.int .i64 x, .int .i64 y]) rfl (by decide)

set_option maxRecDepth 100000 in
set_option maxHeartbeats 1000000 in
theorem sane_any (w : World) (hE : Env w) : Calls Tryz.prog 5 #[] w fun e w' => e = .returned (.bool true) ∧ Kept [] w w' := by
  go_enter Tryz.func5, Tryz.ntmps5
  go_wp2_with (go_at_call 48; refine (statute_any _).mono ?_)
  rintro e w1 ⟨v, rfl, hst, hk⟩
  obtain ⟨rs, ws, rfl, hr, hw⟩ := hst.form
  obtain ⟨ra, rc, rfl, _⟩ := hr.form
  obtain ⟨wa, wc, rfl, _⟩ := hw.form
  obtain ⟨W, hW⟩ : ∃ W, (((w1.alloc (.cells #[.slice ra exS.reasons.length rc, .int .i64 exS.quorum, .slice wa exS.weights.length wc] 46)).alloc (.cells #[.slice ra exS.reasons.length rc, .int .i64 exS.quorum, .slice wa exS.weights.length wc] 46)).alloc (.cells #[.int .i64 0, .int .i64 2] 3)).alloc (.cells #[.int .i64 0, .int .i64 4, .int .i64 7, .string ⟨#[116, 104, 101, 102, 116]⟩, .slice (some ⟨w1.heap.size + 1 + 1, 0, none⟩) 2 2, .int .i64 9] 37) = W := ⟨_, rfl⟩
  have hkW : Kept [] w1 W := hW ▸ ((((Kept.refl [] w1).alloc _).alloc _).alloc _).alloc _
  have hbS : Blk W w1.heap.size 46 #[.slice ra exS.reasons.length rc, .int .i64 exS.quorum, .slice wa exS.weights.length wc] := hW ▸ (((Blk.new w1 _ _).alloc _).alloc _).alloc _
  have hbL : StatsV W (.slice (some ⟨w1.heap.size + 1, 0, none⟩) 1 1) [exS] := by
    have h := StatsV.one (hst.kept ((Kept.refl [] w1).alloc (.cells #[.slice ra exS.reasons.length rc, .int .i64 exS.quorum, .slice wa exS.weights.length wc] 46))) 46
    rw [World.size_alloc] at h
    exact hW ▸ h.kept (((Kept.refl [] _).alloc _).alloc _)
  have hbI : Blk W (w1.heap.size + 1 + 1) 3 #[.int .i64 0, .int .i64 2] := by
    have h := Blk.new ((w1.alloc (.cells #[.slice ra exS.reasons.length rc, .int .i64 exS.quorum, .slice wa exS.weights.length wc] 46)).alloc (.cells #[.slice ra exS.reasons.length rc, .int .i64 exS.quorum, .slice wa exS.weights.length wc] 46)) 3 #[.int .i64 0, .int .i64 2]
    rw [World.size_alloc, World.size_alloc] at h
    exact hW ▸ h.alloc _
  have hbO : Blk W (w1.heap.size + 1 + 1 + 1) 37 #[.int .i64 0, .int .i64 4, .int .i64 7, .string ⟨#[116, 104, 101, 102, 116]⟩, .slice (some ⟨w1.heap.size + 1 + 1, 0, none⟩) 2 2, .int .i64 9] := by
    have h := Blk.new (((w1.alloc (.cells #[.slice ra exS.reasons.length rc, .int .i64 exS.quorum, .slice wa exS.weights.length wc] 46)).alloc (.cells #[.slice ra exS.reasons.length rc, .int .i64 exS.quorum, .slice wa exS.weights.length wc] 46)).alloc (.cells #[.int .i64 0, .int .i64 2] 3)) 37 #[.int .i64 0, .int .i64 4, .int .i64 7, .string ⟨#[116, 104, 101, 102, 116]⟩, .slice (some ⟨w1.heap.size + 1 + 1, 0, none⟩) 2 2, .int .i64 9]
    rw [World.size_alloc, World.size_alloc, World.size_alloc] at h
    exact hW ▸ h
  have hE2 := hE.kept0 (hk.trans hkW)
  have HST := Lib.hid (hst.kept hkW)
  have HL := Lib.hid hbL
  have HO : Hid (OpenV W (.agg #[.int .i64 0, .int .i64 4, .int .i64 7, .string ⟨#[116, 104, 101, 102, 116]⟩, .slice (some ⟨w1.heap.size + 1 + 1, 0, none⟩) 2 2, .int .i64 9]) exO) :=
    openV_mk ⟨by decide, by decide⟩ ⟨by decide, by decide⟩ ⟨by decide, by decide⟩ ⟨by decide, by decide⟩ (by intro x hx; simp at hx; rcases hx with rfl | rfl <;> exact ⟨by decide, by decide⟩) (by decide) (by decide) (Row.of_blk hbI rfl (by decide))
  have KS0 : Hid (∀ w', Kept [] W w' → w'.cell? ⟨w1.heap.size, 0, none⟩ = some (.slice ra exS.reasons.length rc)) := Kept.cellOf (hbS.cell 0)
  have KS1 : Hid (∀ w', Kept [] W w' → w'.cell? ⟨w1.heap.size, 1, none⟩ = some (.int .i64 exS.quorum)) := Kept.cellOf (hbS.cell 1)
  have KS2 : Hid (∀ w', Kept [] W w' → w'.cell? ⟨w1.heap.size, 2, none⟩ = some (.slice wa exS.weights.length wc)) := Kept.cellOf (hbS.cell 2)
  have HW := Lib.hid hW
  have HBO := Lib.hid hbO
  have hkw : Kept [] w W := hk.trans hkW
  have S0 := Lib.hid (fun w' (k : Kept [] W w') => seats_any _ exS 0 w' (HST.out.kept k) ex_short1)
  have S1 := Lib.hid (fun w' (k : Kept [] W w') => seats_any _ exS 1 w' (HST.out.kept k) ex_short1)
  have S2 := Lib.hid (fun w' (k : Kept [] W w') => seats_any _ exS 2 w' (HST.out.kept k) ex_short1)
  have S3 := Lib.hid (fun w' (k : Kept [] W w') => seats_any _ exS 3 w' (HST.out.kept k) ex_short1)
  rw [ex_s0] at S0
  rw [ex_s1] at S1
  rw [ex_s2] at S2
  rw [ex_s3] at S3
  clear hst hr hw hW hbL hbI hbO hbS
  go_wp2_with fail
  have hW' : (((w1.alloc (.cells #[.slice ra exS.reasons.length rc, .int .i64 exS.quorum, .slice wa exS.weights.length wc] 46)).alloc (.cells #[.slice ra exS.reasons.length rc, .int .i64 exS.quorum, .slice wa exS.weights.length wc] 46)).alloc (.cells #[.int .i64 0, .int .i64 2] 3)).alloc (.cells #[.int .i64 0, .int .i64 4, .int .i64 7, .string ⟨#[116, 104, 101, 102, 116]⟩, .slice (some ⟨w1.heap.size + 1 + 1, 0, none⟩) 2 2, .int .i64 9] 37) = W := HW.out
  rw [hW']
  clear hW'
  go_wp2_with (go_at_call 12; refine (S0.out W (Kept.refl _ _)).mono ?_)
  rintro e w2 ⟨v2, rfl, ho2, hk2⟩
  have r2 := Row.of_own ho2 (by decide)
  obtain ⟨a2, c2, rfl, _⟩ := r2.form
  have R2 := Lib.hid r2
  clear ho2 r2
  go_wp2_with (go_at_call 11; refine (sameNums_any _ _ [1] [1] _ (R2.out.kept ((Kept.refl [] w2).alloc _)) (row1 w2 1 3)).mono ?_)
  rintro e w3 rfl hk3
  have K3 : Kept [] W w3 := hk2.trans (((Kept.refl [] w2).alloc _).trans hk3)
  clear hk2 hk3 R2
  have ew30 := KS0.out w3 K3
  have ew31 := KS1.out w3 K3
  have ew32 := KS2.out w3 K3
  go_wp2_with (go_at_call 12; refine (S1.out w3 K3).mono ?_)
  rintro e w4 ⟨v4, rfl, ho4, hk4⟩
  obtain ⟨a4, c4, rfl⟩ := own_form ho4
  have K4 := K3.trans hk4
  clear ho4 hk4 K3
  clear ew30 ew31 ew32
  have ew40 := KS0.out w4 K4
  have ew41 := KS1.out w4 K4
  have ew42 := KS2.out w4 K4
  go_wp2_with (go_at_call 12; refine (S2.out w4 K4).mono ?_)
  rintro e w5 ⟨v5, rfl, ho5, hk5⟩
  have r5 := Row.of_own ho5 (by decide)
  obtain ⟨a5, c5, rfl, _⟩ := r5.form
  have R5 := Lib.hid r5
  have K5 := K4.trans hk5
  clear ho5 r5 hk5 K4
  clear ew40 ew41 ew42
  go_wp2_with (go_at_call 11; refine (sameNums_any _ _ [2, 3] [2, 3] _ (R5.out.kept ((Kept.refl [] w5).alloc _)) (row2 w5 2 3 3)).mono ?_)
  rintro e w6 rfl hk6
  have K6 : Kept [] W w6 := K5.trans (((Kept.refl [] w5).alloc _).trans hk6)
  clear K5 hk6 R5
  have ew60 := KS0.out w6 K6
  have ew61 := KS1.out w6 K6
  have ew62 := KS2.out w6 K6
  go_wp2_with (go_at_call 12; refine (S3.out w6 K6).mono ?_)
  rintro e w7 ⟨v7, rfl, ho7, hk7⟩
  obtain ⟨a7, c7, rfl⟩ := own_form ho7
  have K7 := K6.trans hk7
  clear ho7 hk7 K6
  clear ew60 ew61 ew62
  have G1 : Hid (Calls Tryz.prog 20 #[.slice (some ⟨w1.heap.size + 1, 0, none⟩) 1 1, .agg #[.int .i64 0, .string ⟨#[]⟩, .slice none 0 0, .int .i64 0, .slice none 0 0, .int .i64 0, .int .i64 2, .int .i64 3]] w7 fun e w' => e = .returned (.bool true) ∧ Kept [] w7 w') := by
    have h := governs_any _ [exS] 0 2 3 0 0 (.string ⟨#[]⟩) (.slice none 0 0) (.slice none 0 0) w7 (HL.out.kept K7) ex_short
    rw [ex_g1] at h
    exact h
  go_wp2_with (go_at_call 20; refine G1.out.mono ?_)
  rintro e w8 ⟨rfl, hk⟩
  have K8 := K7.trans hk
  clear hk K7 G1
  have G2 : Hid (Calls Tryz.prog 20 #[.slice (some ⟨w1.heap.size + 1, 0, none⟩) 1 1, .agg #[.int .i64 0, .string ⟨#[]⟩, .slice none 0 0, .int .i64 0, .slice none 0 0, .int .i64 0, .int .i64 2, .int .i64 2]] w8 fun e w' => e = .returned (.bool false) ∧ Kept [] w8 w') := by
    have h := governs_any _ [exS] 0 2 2 0 0 (.string ⟨#[]⟩) (.slice none 0 0) (.slice none 0 0) w8 (HL.out.kept K8) ex_short
    rw [ex_g2] at h
    exact h
  go_wp2_with (go_at_call 20; refine G2.out.mono ?_)
  rintro e w9 ⟨rfl, hk⟩
  have K9 := K8.trans hk
  clear hk K8 G2
  have G3 : Hid (Calls Tryz.prog 20 #[.slice (some ⟨w1.heap.size + 1, 0, none⟩) 1 1, .agg #[.int .i64 1, .string ⟨#[]⟩, .slice none 0 0, .int .i64 0, .slice none 0 0, .int .i64 0, .int .i64 2, .int .i64 3]] w9 fun e w' => e = .returned (.bool false) ∧ Kept [] w9 w') := by
    have h := governs_any _ [exS] 1 2 3 0 0 (.string ⟨#[]⟩) (.slice none 0 0) (.slice none 0 0) w9 (HL.out.kept K9) ex_short
    rw [ex_g3] at h
    exact h
  go_wp2_with (go_at_call 20; refine G3.out.mono ?_)
  rintro e w10 ⟨rfl, hk⟩
  have K10 := K9.trans hk
  clear hk K9 G3
  have HR : Hid (Calls Tryz.prog 16 #[.string ⟨#[51, 91, 48, 59, 52, 59, 55, 59, 93, 53, 58, 116, 104, 101, 102, 116, 44, 50, 91, 48, 59, 50, 59, 93, 57, 59]⟩] w10 (ExRead w10)) := ex_read w10 (hE2.kept0 K10)
  go_wp2_with (go_at_call 16; refine HR.out.mono ?_)
  rintro e w11 ⟨ja, jc, rfl, hov, hk11⟩
  have HOV := Lib.hid hov
  have K11 := K10.trans hk11
  clear hov hk11 K10 HR
  have ex0 := KS0.out (w11.alloc (.cells #[.int .i64 0, .int .i64 4, .int .i64 7, .string ⟨#[116, 104, 101, 102, 116]⟩, .slice ja 2 jc, .int .i64 9] 37)) (K11.trans ((Kept.refl [] w11).alloc _))
  have ex1 := KS1.out (w11.alloc (.cells #[.int .i64 0, .int .i64 4, .int .i64 7, .string ⟨#[116, 104, 101, 102, 116]⟩, .slice ja 2 jc, .int .i64 9] 37)) (K11.trans ((Kept.refl [] w11).alloc _))
  have ex2 := KS2.out (w11.alloc (.cells #[.int .i64 0, .int .i64 4, .int .i64 7, .string ⟨#[116, 104, 101, 102, 116]⟩, .slice ja 2 jc, .int .i64 9] 37)) (K11.trans ((Kept.refl [] w11).alloc _))
  go_wp2_with fail
  clear ex0 ex1 ex2
  obtain ⟨Y, hY⟩ : ∃ Y, w11.alloc (.cells #[.int .i64 0, .int .i64 4, .int .i64 7, .string ⟨#[116, 104, 101, 102, 116]⟩, .slice ja 2 jc, .int .i64 9] 37) = Y := ⟨_, rfl⟩
  have hkY : Kept [] w11 Y := hY ▸ (Kept.refl [] w11).alloc _
  have hbY : Blk Y w11.heap.size 37 #[.int .i64 0, .int .i64 4, .int .i64 7, .string ⟨#[116, 104, 101, 102, 116]⟩, .slice ja 2 jc, .int .i64 9] := hY ▸ Blk.new w11 _ _
  rw [hY]
  have KY := K11.trans hkY
  have HOY := Lib.hid (HOV.out.kept hkY)
  have ky0 : Hid (∀ w', Kept [] Y w' → w'.cell? ⟨w11.heap.size, 0, none⟩ = some (.int .i64 0)) := Kept.cellOf (hbY.cell 0)
  have ky1 : Hid (∀ w', Kept [] Y w' → w'.cell? ⟨w11.heap.size, 1, none⟩ = some (.int .i64 4)) := Kept.cellOf (hbY.cell 1)
  have ky2 : Hid (∀ w', Kept [] Y w' → w'.cell? ⟨w11.heap.size, 2, none⟩ = some (.int .i64 7)) := Kept.cellOf (hbY.cell 2)
  have ky3 : Hid (∀ w', Kept [] Y w' → w'.cell? ⟨w11.heap.size, 3, none⟩ = some (.string ⟨#[116, 104, 101, 102, 116]⟩)) := Kept.cellOf (hbY.cell 3)
  have ky4 : Hid (∀ w', Kept [] Y w' → w'.cell? ⟨w11.heap.size, 4, none⟩ = some (.slice ja 2 jc)) := Kept.cellOf (hbY.cell 4)
  have ky5 : Hid (∀ w', Kept [] Y w' → w'.cell? ⟨w11.heap.size, 5, none⟩ = some (.int .i64 9)) := Kept.cellOf (hbY.cell 5)
  have ko0 : Hid (∀ w', Kept [] W w' → w'.cell? ⟨w1.heap.size + 1 + 1 + 1, 0, none⟩ = some (.int .i64 0)) := Kept.cellOf (HBO.out.cell 0)
  have ko1 : Hid (∀ w', Kept [] W w' → w'.cell? ⟨w1.heap.size + 1 + 1 + 1, 1, none⟩ = some (.int .i64 4)) := Kept.cellOf (HBO.out.cell 1)
  have ko2 : Hid (∀ w', Kept [] W w' → w'.cell? ⟨w1.heap.size + 1 + 1 + 1, 2, none⟩ = some (.int .i64 7)) := Kept.cellOf (HBO.out.cell 2)
  have ko3 : Hid (∀ w', Kept [] W w' → w'.cell? ⟨w1.heap.size + 1 + 1 + 1, 3, none⟩ = some (.string ⟨#[116, 104, 101, 102, 116]⟩)) := Kept.cellOf (HBO.out.cell 3)
  have ko4 : Hid (∀ w', Kept [] W w' → w'.cell? ⟨w1.heap.size + 1 + 1 + 1, 4, none⟩ = some (.slice (some ⟨w1.heap.size + 1 + 1, 0, none⟩) 2 2)) := Kept.cellOf (HBO.out.cell 4)
  have ko5 : Hid (∀ w', Kept [] W w' → w'.cell? ⟨w1.heap.size + 1 + 1 + 1, 5, none⟩ = some (.int .i64 9)) := Kept.cellOf (HBO.out.cell 5)
  clear hY hbY hkY K11 HOV
  have HV : Hid (Calls Tryz.prog 9 #[.agg #[.slice ra exS.reasons.length rc, .int .i64 exS.quorum, .slice wa exS.weights.length wc]] Y fun e w' => e = .returned (.bool true) ∧ Kept [] Y w') := by
    have h := valid_any _ exS Y (HST.out.kept KY) ex_short1
    rw [ex_valid] at h
    exact h
  have eY0 := KS0.out Y KY
  have eY1 := KS1.out Y KY
  have eY2 := KS2.out Y KY
  go_wp2_with (go_at_call 9; refine HV.out.mono ?_)
  rintro e w12 ⟨rfl, hk12⟩
  have K12 := KY.trans hk12
  have o0 := ko0.out w12 K12
  have o1 := ko1.out w12 K12
  have o2 := ko2.out w12 K12
  have o3 := ko3.out w12 K12
  have o4 := ko4.out w12 K12
  have o5 := ko5.out w12 K12
  have HM : Hid (Calls Tryz.prog 24 #[.agg #[.int .i64 0, .int .i64 4, .int .i64 7, .string ⟨#[116, 104, 101, 102, 116]⟩, .slice (some ⟨w1.heap.size + 1 + 1, 0, none⟩) 2 2, .int .i64 9]] w12 fun e w' => e = .returned (.string ⟨#[51, 91, 48, 59, 52, 59, 55, 59, 93, 53, 58, 116, 104, 101, 102, 116, 44, 50, 91, 48, 59, 50, 59, 93, 57, 59]⟩) ∧ Kept [] w12 w') := by
    have h := minutes_any _ exO w12 (HO.out.kept K12) (hE2.kept0 K12)
    rw [ex_m] at h
    exact h
  clear HV
  clear eY0 eY1 eY2
  go_wp2_with (go_at_call 24; refine HM.out.mono ?_)
  rintro e w13 ⟨rfl, hk13⟩
  have K13 := K12.trans hk13
  have Y13 := hk12.trans hk13
  clear HM o0 o1 o2 o3 o4 o5
  have o0 := ko0.out w13 K13
  have o1 := ko1.out w13 K13
  have o2 := ko2.out w13 K13
  have o3 := ko3.out w13 K13
  have o4 := ko4.out w13 K13
  have o5 := ko5.out w13 K13
  have y0 := ky0.out w13 Y13
  have y1 := ky1.out w13 Y13
  have y2 := ky2.out w13 Y13
  have y3 := ky3.out w13 Y13
  have y4 := ky4.out w13 Y13
  have y5 := ky5.out w13 Y13
  have HX : Hid (Calls Tryz.prog 19 #[.agg #[.int .i64 0, .int .i64 4, .int .i64 7, .string ⟨#[116, 104, 101, 102, 116]⟩, .slice ja 2 jc, .int .i64 9], .agg #[.int .i64 0, .int .i64 4, .int .i64 7, .string ⟨#[116, 104, 101, 102, 116]⟩, .slice (some ⟨w1.heap.size + 1 + 1, 0, none⟩) 2 2, .int .i64 9]] w13 fun e w' => e = .returned (.bool true) ∧ Kept [] w13 w') := by
    have h := same_any _ _ exO exO w13 (HOY.out.kept Y13) (HO.out.kept K13)
    rw [ex_same] at h
    exact h
  go_wp2_with (go_at_call 19; refine HX.out.mono ?_)
  rintro e w14 ⟨rfl, hk14⟩
  go_wp2
  go_ret
  exact ⟨rfl, hkw.trans (K13.trans hk14)⟩
end Go.Proofs.YtpcdfepndmconaaGreatDoor
namespace Go.Proofs.YtpcdfepndmconaaGreatDoor
open Go.RowKit ShaP

def expoB (s : Stp) (n : Int) : Bool := decide (0 ≤ n) && decide (n < s.Q)

set_option maxRecDepth 100000 in
theorem exponent_any (v : Value) (s : Stp) (n : Int) (w : World) (h : StpV w v s) :
    Calls Tryz.prog 135 #[v, .int .i64 n] w fun e w' => e = .returned (.bool (expoB s n)) ∧ Kept [] w w' := by
  obtain ⟨⟨a, c, rfl, hrow⟩, ip, iq, ig, ib, il⟩ := h
  obtain ⟨W, hW⟩ : ∃ W, w.alloc (.cells (stpA s (.slice a s.bases.length c)) 26) = W := ⟨_, rfl⟩
  have hb : Blk W w.heap.size 26 (stpA s (.slice a s.bases.length c)) := hW ▸ Blk.new _ _ _
  have hkW : Kept [] w W := hW ▸ (Kept.refl _ _).alloc _
  have e1 : W.cell? ⟨w.heap.size, 1, none⟩ = some (.int .i64 s.Q) := hb.cell 1
  have HW := Lib.hid hW
  unfold expoB
  clear hb hW hrow ib
  by_cases h0 : 0 ≤ n
  · rw [decide_eq_true h0, Bool.true_and]
    have d0 : decide (0 ≤ n) = true := by simpa using h0
    go_enter Tryz.func135, Tryz.ntmps135
    go_upto_region 1 with (fail)
    rw [HW.out]
    go_wp2_with fail
    go_ret
    exact ⟨rfl, hkW⟩
  · rw [decide_eq_false h0, Bool.false_and]
    have d0 : decide (0 ≤ n) = false := by simpa using h0
    go_enter Tryz.func135, Tryz.ntmps135
    go_upto_region 1 with (fail)
    rw [HW.out]
    go_wp2_with fail
    go_ret
    exact ⟨rfl, hkW⟩

set_option maxRecDepth 100000 in
theorem rexponent_any (v : Value) (s : Stp) (n : Int) (w : World) (h : StpV w v s) :
    Calls Tryz.prog 90 #[v, .int .i64 n] w fun e w' => e = .returned (.bool (expoB s n)) ∧ Kept [] w w' := by
  obtain ⟨⟨a, c, rfl, hrow⟩, ip, iq, ig, ib, il⟩ := h
  obtain ⟨W, hW⟩ : ∃ W, w.alloc (.cells (stpA s (.slice a s.bases.length c)) 26) = W := ⟨_, rfl⟩
  have hb : Blk W w.heap.size 26 (stpA s (.slice a s.bases.length c)) := hW ▸ Blk.new _ _ _
  have hkW : Kept [] w W := hW ▸ (Kept.refl _ _).alloc _
  have e1 : W.cell? ⟨w.heap.size, 1, none⟩ = some (.int .i64 s.Q) := hb.cell 1
  have HW := Lib.hid hW
  unfold expoB
  clear hb hW hrow ib
  by_cases h0 : 0 ≤ n
  · rw [decide_eq_true h0, Bool.true_and]
    have d0 : decide (0 ≤ n) = true := by simpa using h0
    go_enter Tryz.func90, Tryz.ntmps90
    go_upto_region 1 with (fail)
    rw [HW.out]
    go_wp2_with fail
    go_ret
    exact ⟨rfl, hkW⟩
  · rw [decide_eq_false h0, Bool.false_and]
    have d0 : decide (0 ≤ n) = false := by simpa using h0
    go_enter Tryz.func90, Tryz.ntmps90
    go_upto_region 1 with (fail)
    rw [HW.out]
    go_wp2_with fail
    go_ret
    exact ⟨rfl, hkW⟩

theorem nums2_len (x y : Int) (hx : Wire.I64 x) (hy : Wire.I64 y) : (Wire.numsE [x, y]).length ≤ 100 := by
  have h1 := flat_len [x, y] (by intro z hz; simp only [List.mem_cons, List.not_mem_nil, or_false] at hz; rcases hz with rfl | rfl <;> assumption)
  have := Wire.itoa_len (2 : Int) ⟨by omega, by omega⟩
  simp only [Wire.numsE, Wire.listE, List.length_append, List.length_cons, List.length_nil] at h1 this ⊢
  simp only [show ((0 + 1 + 1 : Nat) : Int) = 2 from rfl] at *
  omega
/-- the text that a challenge hashes -/
def chaE (msg : List UInt8) (pub a : Int) : List UInt8 := Wire.textE msg ++ Wire.numsE [pub, a]

set_option maxRecDepth 100000 in
set_option maxHeartbeats 1600000 in
theorem challenge_any (v : Value) (s : Stp) (q : Nat) (pub a : Int) (msg : List UInt8) (w : World) (h : StpV w v s) (hq : s.Q = q) (h1 : 1 ≤ q) (h2 : q < 2305843009213693952)
    (hp : Wire.I64 pub) (ha : Wire.I64 a) (hm : msg.length ≤ 50000000) (hE : Env w) :
    Calls Tryz.prog 136 #[v, .int .i64 pub, .int .i64 a, .string ⟨msg.toArray⟩] w fun e w' => e = .returned (.int .i64 (numN q (chaE msg pub a) : Nat)) ∧ Kept [] w w' := by
  obtain ⟨⟨ad, c, rfl, hrow⟩, ip, iq, ig, ib, il⟩ := h
  obtain ⟨W, hW⟩ : ∃ W, w.alloc (.cells (stpA s (.slice ad s.bases.length c)) 26) = W := ⟨_, rfl⟩
  have hb : Blk W w.heap.size 26 (stpA s (.slice ad s.bases.length c)) := hW ▸ Blk.new _ _ _
  have hkW : Kept [] w W := hW ▸ (Kept.refl _ _).alloc _
  have k1 : ∀ w', Kept [] W w' → w'.cell? ⟨w.heap.size, 1, none⟩ = some (.int .i64 s.Q) := Kept.cellOf (hb.cell 1)
  rw [hq] at k1
  have hEW := hE.kept0 hkW
  have HW := Lib.hid hW
  have h3 : ∀ x ∈ [pub, a], Wire.I64 x := by
    intro x hx
    simp only [List.mem_cons, List.not_mem_nil, or_false] at hx
    rcases hx with rfl | rfl
    · exact hp
    · exact ha
  have l0 := nums2_len pub a hp ha
  have l1 := Wire.itoa_len msg.length ⟨by omega, by omega⟩
  have l2 : (Wire.textE msg).length ≤ 50000030 := by simp only [Wire.textE, List.length_append, List.length_singleton]; omega
  have s1 : ¬ 9223372036854775807 < (Wire.textE msg).length + (Wire.numsE [pub, a]).length := by omega
  have NM := fun w => Lib.hid (number_any q (chaE msg pub a) w h1 h2 (by unfold chaE; rw [List.length_append]; omega))
  unfold chaE at NM ⊢
  clear l0 l1 l2 hb hW hrow ib
  have hcat := bcat
  go_enter Tryz.func136, Tryz.ntmps136
  go_upto_region 1 with (fail)
  have hW' : w.alloc (.cells (stpA s (.slice ad s.bases.length c)) 26) = W := HW.out
  rw [hW']
  clear hW' HW
  go_region_held3 (fun w' => Kept [] W w') (first | assumption | exact (Kept.refl _ _).drew | exact Kept.alloc (by assumption) _)
    (first
      | (go_at_call 72; refine (text_any msg _ (by omega) (by exact hEW.kept0 (by assumption))).mono ?_; rintro e w2 ⟨rfl, hkx⟩; have hk2 : Kept [] W w2 := Kept.trans (by assumption) hkx)
      | (go_at_call 71; refine (kept_from (W := W) (by assumption) (nums_any _ [pub, a] _ (by first | exact row2 _ _ _ _ | exact (row2 _ _ _ _).drew | exact (row2 _ _ _ _).kept hkx | exact (row2 _ _ _ _).drew.kept hkx) (by exact hEW.kept0 (by assumption)) (by simp) (by exact h3))).mono ?_; rintro e w3 ⟨rfl, hk3⟩)
      | (go_at_call 187; refine (kept_from (W := W) (by assumption) (NM _).out).mono ?_; rintro e w4 ⟨rfl, hk4⟩))
  all_goals go_wp2_with fail
  all_goals (
    go_ret
    exact ⟨rfl, hkW.trans hk4⟩)
end Go.Proofs.YtpcdfepndmconaaGreatDoor
