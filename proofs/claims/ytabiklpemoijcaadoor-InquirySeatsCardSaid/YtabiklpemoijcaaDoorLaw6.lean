/- The law on seats: InquirySeats. -/
import Derived.Test.YtabiklpemoijcaaDoorSane
namespace Go.Proofs.YtabiklpemoijcaaDoor
open Go.RowKit

theorem sumW_take_succ (l : List Int) {j : Nat} (hj : j < l.length) : sumW (l.take (j + 1)) = sumW (l.take j) + l[j] := by
  rw [List.take_succ_eq_append_getElem hj]
  generalize l.take j = a
  induction a with
  | nil => simp [sumW]
  | cons b a ih => simp [sumW] at ih ⊢; omega

theorem gov_one (x : Statute) (hv : validS x = true) (q s : Int) : (governing [x] 0 q s).2 = (decide (q = x.quorum) && decide (s = sumW x.weights)) := by
  unfold governing
  rw [if_pos (by simp [hv])]
  rfl

theorem gov_yes {x : Statute} (hv : validS x = true) {s : Int} (hs : sumW x.weights = s) : (governing [x] 0 x.quorum s).2 = true := by rw [gov_one x hv, hs]; simp
theorem gov_more {x : Statute} (hv : validS x = true) {q s : Int} (hs : s ≠ sumW x.weights) : (governing [x] 0 q s).2 = false := by rw [gov_one x hv, decide_eq_false hs]; simp
theorem gov_less {x : Statute} (hv : validS x = true) {q s : Int} (hs : q ≠ x.quorum) : (governing [x] 0 q s).2 = false := by rw [gov_one x hv, decide_eq_false hs]; simp

theorem few_valid {x : Statute} (h : fewS [x] = true) : ∀ r ∈ x.reasons, r.length ≤ 1000000 := by
  intro r hr
  unfold fewS fewAt at h
  simp at h
  have := h.2 r hr
  omega

set_option maxRecDepth 100000 in
set_option maxHeartbeats 2000000 in
theorem law6_any (v : Value) (x : Statute) (ver quorum jurors most dare : Int) (qs : ByteArray) (pa va : Option Addr) (pn pc vn vc : Nat) (w : World) (h : StatV w v x) (hE : Env w)
    (hs : ∀ r ∈ x.reasons, r.length ≤ 9223372036854775807) :
    Calls Tryd.prog 6 #[v, .agg #[.int .i64 ver, .string qs, .slice pa pn pc, .int .i64 most, .slice va vn vc, .int .i64 dare, .int .i64 quorum, .int .i64 jurors]] w fun e w' => e = .returned (.bool true) ∧ Kept [] w w' := by
  obtain ⟨rs, ws, rfl, hr, hw⟩ := h.form
  obtain ⟨ra, rc, rfl, _⟩ := hr.form
  obtain ⟨wa, wc, rfl, _⟩ := hw.form
  obtain ⟨W, hW⟩ : ∃ W, (w.alloc (.cells #[.slice ra x.reasons.length rc, .int .i64 x.quorum, .slice wa x.weights.length wc] 60)).alloc (.cells #[.int .i64 ver, .string qs, .slice pa pn pc, .int .i64 most, .slice va vn vc, .int .i64 dare, .int .i64 quorum, .int .i64 jurors] 63) = W := ⟨_, rfl⟩
  have hkW : Kept [] w W := hW ▸ ((Kept.refl [] w).alloc _).alloc _
  have hbS : Blk W w.heap.size 60 #[.slice ra x.reasons.length rc, .int .i64 x.quorum, .slice wa x.weights.length wc] := hW ▸ (Blk.new w _ _).alloc _
  have hbT : Blk W (w.heap.size + 1) 63 #[.int .i64 ver, .string qs, .slice pa pn pc, .int .i64 most, .slice va vn vc, .int .i64 dare, .int .i64 quorum, .int .i64 jurors] := by
    have := Blk.new (w.alloc (.cells #[.slice ra x.reasons.length rc, .int .i64 x.quorum, .slice wa x.weights.length wc] 60)) 63 #[.int .i64 ver, .string qs, .slice pa pn pc, .int .i64 most, .slice va vn vc, .int .i64 dare, .int .i64 quorum, .int .i64 jurors]
    rw [hW, World.size_alloc] at this
    exact this
  have ks0 : Hid (∀ w', Kept [] W w' → w'.cell? ⟨w.heap.size, 0, none⟩ = some (.slice ra x.reasons.length rc)) := Kept.cellOf (hbS.cell 0)
  have ks1 : Hid (∀ w', Kept [] W w' → w'.cell? ⟨w.heap.size, 1, none⟩ = some (.int .i64 x.quorum)) := Kept.cellOf (hbS.cell 1)
  have ks2 : Hid (∀ w', Kept [] W w' → w'.cell? ⟨w.heap.size, 2, none⟩ = some (.slice wa x.weights.length wc)) := Kept.cellOf (hbS.cell 2)
  have HBT := Lib.hid hbT
  have HBS := Lib.hid hbS
  have HW0 := Lib.hid h
  have HST := Lib.hid (h.kept hkW)
  have HS := Lib.hid hs
  have HN := Lib.hid (sane_any W (hE.kept0 hkW))
  have HW := Lib.hid hW
  clear hbT hbS hr hw h hs hW hE
  go_enter Tryd.func6, Tryd.ntmps6
  go_wp2_with fail
  have hW' : (w.alloc (.cells #[.slice ra x.reasons.length rc, .int .i64 x.quorum, .slice wa x.weights.length wc] 60)).alloc (.cells #[.int .i64 ver, .string qs, .slice pa pn pc, .int .i64 most, .slice va vn vc, .int .i64 dare, .int .i64 quorum, .int .i64 jurors] 63) = W := HW.out
  rw [hW']
  clear hW'
  go_wp2_with (go_at_call 27; refine HN.out.mono ?_)
  rintro e w1 ⟨rfl, hk1⟩
  clear HN
  have e0 := ks0.out w1 hk1
  have e1 := ks1.out w1 hk1
  have e2 := ks2.out w1 hk1
  have hF : Hid (Calls Tryd.prog 28 #[.slice (some ⟨w1.heap.size, 0, none⟩) 1 1] (w1.alloc (.cells #[.slice ra x.reasons.length rc, .int .i64 x.quorum, .slice wa x.weights.length wc] 60)) fun e w' => e = .returned (.bool (fewS [x])) ∧ Kept [] W w') :=
    (few_any _ [x] _ (StatsV.one (HST.out.kept hk1) 60) (by intro y hy; simp at hy; subst hy; exact HS.out)).mono fun e w' ⟨he, hw⟩ => ⟨he, hw ▸ hk1.alloc _⟩
  cases hfew : fewS [x]
  · rw [hfew] at hF
    clear hfew
    go_wp2_with (go_at_call 28; refine hF.out.mono ?_)
    rintro e w2 ⟨rfl, hk2⟩
    go_wp2
    go_ret
    exact ⟨rfl, hkW.trans hk2⟩
  · rw [hfew] at hF
    have hsh := few_valid hfew
    have HSH := Lib.hid hsh
    clear hfew hsh
    go_wp2_with (go_at_call 28; refine hF.out.mono ?_)
    rintro e w2 ⟨rfl, hk2⟩
    clear e0 e1 e2 hF
    have e0 := ks0.out w2 hk2
    have e1 := ks1.out w2 hk2
    have e2 := ks2.out w2 hk2
    have hV := Lib.hid (valid_any _ x w2 (HST.out.kept hk2) HSH.out)
    cases hval : validS x
    · rw [hval] at hV
      clear hval
      go_wp2_with (go_at_call 29; refine hV.out.mono ?_)
      rintro e w3 ⟨rfl, hk3⟩
      go_wp2
      go_ret
      exact ⟨rfl, hkW.trans (hk2.trans hk3)⟩
    · rw [hval] at hV
      obtain ⟨_, _, _, v2, v3, v4, v5, v6⟩ := validS_facts hval
      have V3 := Lib.hid v3
      have HVL := Lib.hid hval
      clear v3 hval
      go_wp2_with (go_at_call 29; refine hV.out.mono ?_)
      rintro e w3 ⟨rfl, hk3⟩
      have K3 := hk2.trans hk3
      clear hV e0 e1 e2 hk2 hk3
      go_wp2_with fail
      go_loopw [6, 7] (fun s i wr => ∃ j : Nat, j ≤ x.weights.length ∧ i = .int .i64 j ∧ s = .int .i64 (sumW (x.weights.take j)) ∧ Kept [] W wr) (fun _ i _ => x.weights.length - (intOf i).toNat)
      case atStart => exact ⟨0, Nat.zero_le _, rfl, by simp [sumW], K3⟩
      case round =>
        obtain ⟨j, hj, rfl, rfl, hkr⟩ := hrel
        have e0 := ks0.out wr hkr
        have e1 := ks1.out wr hkr
        have e2 := ks2.out wr hkr
        by_cases hlt : j < x.weights.length
        · obtain ⟨S, hS⟩ : ∃ S, sumW (x.weights.take j) = S := ⟨_, rfl⟩
          have hsb := sumW_bound (x.weights.take j) (fun n hn => V3.out n (List.mem_of_mem_take hn))
          have htl : (x.weights.take j).length ≤ 12 := by rw [List.length_take]; omega
          rw [hS] at hsb ⊢
          have hx : 0 ≤ x.weights[j] ∧ x.weights[j] ≤ 12 := V3.out _ (List.getElem_mem hlt)
          obtain ⟨q, hq⟩ : ∃ q : Nat, x.weights[j] = q := ⟨(x.weights[j]).toNat, by omega⟩
          have hsn : sumW (x.weights.take (j + 1)) = S + q := by rw [sumW_take_succ _ hlt, hS, hq]
          have HSN := Lib.hid hsn
          have hse : seats x j = countUp (S + 1) q := by
            unfold seats
            rw [if_pos ⟨HVL.out, by omega, by omega⟩, Int.toNat_natCast, hS]
            have : x.weights.getD j 0 = x.weights[j] := by simp [hlt]
            rw [this, hq, Int.toNat_natCast]
          have hC := Lib.hid (seats_any _ x j wr (HST.out.kept hkr) HSH.out)
          rw [hse] at hC
          rw [hq] at hx
          obtain ⟨wb, wo, hwa, hwc⟩ := (HST.out.rows.2).at_ (by omega)
          have ej := hwc j _ (ints_get hlt)
          rw [hq] at ej
          have EJ := Lib.hid (Kept.cellOf ej)
          obtain ⟨ha⟩ : (wa = some ⟨wb, wo, none⟩) := hwa
          clear hS hsn hse hq hwc ej
          have es0 := ks0.out
          clear es0
          go_wp2_with (go_at_call 30; refine hC.out.mono ?_)
          rintro e w4 ⟨v4, rfl, ho4, hk4⟩
          rw [countUp_length] at ho4
          have r4 := Row.of_own ho4 (by omega)
          obtain ⟨a4, c4, rfl, _⟩ := r4.form
          have K4 := hkr.trans hk4
          have R4 := Lib.hid r4
          clear e0 e1 e2 ho4 r4 hk4 hC
          have e0 := ks0.out w4 K4
          have e1 := ks1.out w4 K4
          have e2 := ks2.out w4 K4
          have ej := EJ.out w4 K4
          go_wp2_with fail
          go_loop [6, 9] (fun s i => ∃ k : Nat, k ≤ q ∧ i = .int .i64 k ∧ s = .int .i64 (S + k)) (fun _ i => q - (intOf i).toNat)
          case atStart => exact ⟨0, Nat.zero_le _, rfl, by simp⟩
          case round =>
            obtain ⟨k, hkq, rfl, rfl⟩ := hrel
            by_cases hkl : k < q
            · obtain ⟨b4, o4, rfl, hc4⟩ := R4.out.at_ (by omega)
              have ck : w4.cell? ⟨b4, o4 + k, none⟩ = some (.int .i64 (S + 1 + k)) := hc4 k _ (by simp [ints, countUp, hkl])
              have hw1 : IntKind.i64.wrap (S + k + 1) = S + k + 1 := IntWalk.i64_in _ (by omega)
              have hw2 : ((S + 1 + (k : Int)) == (S + k + 1)) = true := by rw [beq_iff_eq]; omega
              clear hc4
              go_wp2_with fail
              go_round
              case rel => exact ⟨k + 1, by omega, by go_num, by congr 1; omega⟩
              case measure => simp [intOf]; omega
            · obtain rfl : k = q := by omega
              go_wp2_with fail
              go_roundw
              case rel => exact ⟨j + 1, by omega, by go_num, by rw [HSN.out], K4⟩
              case measure => simp [intOf]; omega
        · obtain rfl : j = x.weights.length := by omega
          rw [List.take_length]
          have hsb := sumW_bound x.weights V3.out
          obtain ⟨S, hS⟩ : ∃ S, sumW x.weights = S := ⟨_, rfl⟩
          rw [hS] at hsb v4 v6 ⊢
          have HSS := Lib.hid hS
          clear hS
          have hbT := HBT.out.kept hkr (by simp)
          have t0 : wr.cell? ⟨w.heap.size + 1, 0, none⟩ = some (.int .i64 ver) := hbT.cell 0
          have t1 : wr.cell? ⟨w.heap.size + 1, 1, none⟩ = some (.string qs) := hbT.cell 1
          have t2 : wr.cell? ⟨w.heap.size + 1, 2, none⟩ = some (.slice pa pn pc) := hbT.cell 2
          have t3 : wr.cell? ⟨w.heap.size + 1, 3, none⟩ = some (.int .i64 most) := hbT.cell 3
          have t4 : wr.cell? ⟨w.heap.size + 1, 4, none⟩ = some (.slice va vn vc) := hbT.cell 4
          have t5 : wr.cell? ⟨w.heap.size + 1, 5, none⟩ = some (.int .i64 dare) := hbT.cell 5
          have t6 : wr.cell? ⟨w.heap.size + 1, 6, none⟩ = some (.int .i64 quorum) := hbT.cell 6
          have t7 : wr.cell? ⟨w.heap.size + 1, 7, none⟩ = some (.int .i64 jurors) := hbT.cell 7
          have f0 := hbT.frozen 0
          have f6 := hbT.frozen 6
          have f7 := hbT.frozen 7
          have hne : w.heap.size ≠ w.heap.size + 1 := by omega
          have hwq : IntKind.i64.wrap (x.quorum - 1) = x.quorum - 1 := IntWalk.i64_in _ (by omega)
          go_upto_region 20 with (fail)
          obtain ⟨Z, hZ⟩ : ∃ Z, ((wr.setCell ⟨w.heap.size + 1, 0, none⟩ (.int .i64 0)).setCell ⟨w.heap.size + 1, 6, none⟩ (.int .i64 x.quorum)).setCell ⟨w.heap.size + 1, 7, none⟩ (.int .i64 S) = Z := ⟨_, rfl⟩
          have hsz : Z.heap.size = wr.heap.size := by rw [← hZ]; simp
          have hbZ : Blk Z (w.heap.size + 1) 63 #[.int .i64 0, .string qs, .slice pa pn pc, .int .i64 most, .slice va vn vc, .int .i64 dare, .int .i64 x.quorum, .int .i64 S] := hZ ▸ ((hbT.set_ 0 (.int .i64 0)).set_ 6 (.int .i64 x.quorum)).set_ 7 (.int .i64 S)
          have hbR : Blk Z w.heap.size 60 #[.slice ra x.reasons.length rc, .int .i64 x.quorum, .slice wa x.weights.length wc] := hZ ▸ (((HBS.out.kept hkr (by simp)).far (p := ⟨w.heap.size + 1, 0, none⟩) (by simp) _).far (p := ⟨w.heap.size + 1, 6, none⟩) (by simp) _).far (p := ⟨w.heap.size + 1, 7, none⟩) (by simp) _
          have hkZ : Kept [] w Z := hZ ▸ (((hkW.trans hkr).setCell (p := ⟨w.heap.size + 1, 0, none⟩) (Or.inr (by simp)) _).setCell (p := ⟨w.heap.size + 1, 6, none⟩) (Or.inr (by simp)) _).setCell (p := ⟨w.heap.size + 1, 7, none⟩) (Or.inr (by simp)) _
          rw [hZ]
          have HSZ := Lib.hid hsz
          clear hZ hsz hbT e0 e1 e2 t0 t1 t2 t3 t4 t5 t6 t7 f0 f6 f7
          have c0 : Z.cell? ⟨w.heap.size + 1, 0, none⟩ = some (.int .i64 0) := hbZ.cell 0
          have c1 : Z.cell? ⟨w.heap.size + 1, 1, none⟩ = some (.string qs) := hbZ.cell 1
          have c2 : Z.cell? ⟨w.heap.size + 1, 2, none⟩ = some (.slice pa pn pc) := hbZ.cell 2
          have c3 : Z.cell? ⟨w.heap.size + 1, 3, none⟩ = some (.int .i64 most) := hbZ.cell 3
          have c4 : Z.cell? ⟨w.heap.size + 1, 4, none⟩ = some (.slice va vn vc) := hbZ.cell 4
          have c5 : Z.cell? ⟨w.heap.size + 1, 5, none⟩ = some (.int .i64 dare) := hbZ.cell 5
          have c6 : Z.cell? ⟨w.heap.size + 1, 6, none⟩ = some (.int .i64 x.quorum) := hbZ.cell 6
          have c7 : Z.cell? ⟨w.heap.size + 1, 7, none⟩ = some (.int .i64 S) := hbZ.cell 7
          go_upto_region 22 with (fail)
          obtain ⟨Y, hY⟩ : ∃ Y, Z.alloc (.cells #[.int .i64 0, .string qs, .slice pa pn pc, .int .i64 most, .slice va vn vc, .int .i64 dare, .int .i64 x.quorum, .int .i64 (S + 1)] 63) = Y := ⟨_, rfl⟩
          have hbY : Blk Y Z.heap.size 63 #[.int .i64 0, .string qs, .slice pa pn pc, .int .i64 most, .slice va vn vc, .int .i64 dare, .int .i64 x.quorum, .int .i64 (S + 1)] := hY ▸ Blk.new Z _ _
          have hkY : Kept [] Z Y := hY ▸ (Kept.refl [] Z).alloc _
          have hsY : Y.heap.size = Z.heap.size + 1 := by rw [← hY]; simp
          rw [hY]
          have HSY := Lib.hid hsY
          have hbZY := hbZ.kept hkY (by simp)
          have hbRY := hbR.kept hkY (by simp)
          clear hY hsY c0 c1 c2 c3 c4 c5 c6 c7 hbZ hbR
          have c0 : Y.cell? ⟨w.heap.size + 1, 0, none⟩ = some (.int .i64 0) := hbZY.cell 0
          have c1 : Y.cell? ⟨w.heap.size + 1, 1, none⟩ = some (.string qs) := hbZY.cell 1
          have c2 : Y.cell? ⟨w.heap.size + 1, 2, none⟩ = some (.slice pa pn pc) := hbZY.cell 2
          have c3 : Y.cell? ⟨w.heap.size + 1, 3, none⟩ = some (.int .i64 most) := hbZY.cell 3
          have c4 : Y.cell? ⟨w.heap.size + 1, 4, none⟩ = some (.slice va vn vc) := hbZY.cell 4
          have c5 : Y.cell? ⟨w.heap.size + 1, 5, none⟩ = some (.int .i64 dare) := hbZY.cell 5
          have c6 : Y.cell? ⟨w.heap.size + 1, 6, none⟩ = some (.int .i64 x.quorum) := hbZY.cell 6
          have c7 : Y.cell? ⟨w.heap.size + 1, 7, none⟩ = some (.int .i64 S) := hbZY.cell 7
          have hbRX := hbRY.alloc (.cells #[.int .i64 0, .string qs, .slice pa pn pc, .int .i64 most, .slice va vn vc, .int .i64 dare, .int .i64 x.quorum, .int .i64 S] 63)
          have r1 : (Y.alloc (.cells #[.int .i64 0, .string qs, .slice pa pn pc, .int .i64 most, .slice va vn vc, .int .i64 dare, .int .i64 x.quorum, .int .i64 S] 63)).cell? ⟨w.heap.size, 1, none⟩ = some (.int .i64 x.quorum) := hbRX.cell 1
          clear hbRX
          go_upto_region 24 with (fail)
          clear r1 c0 c1 c2 c3 c4 c5 c6 c7
          obtain ⟨X, hX⟩ : ∃ X, Y.alloc (.cells #[.int .i64 0, .string qs, .slice pa pn pc, .int .i64 most, .slice va vn vc, .int .i64 dare, .int .i64 (x.quorum - 1), .int .i64 S] 63) = X := ⟨_, rfl⟩
          have hbX : Blk X Y.heap.size 63 #[.int .i64 0, .string qs, .slice pa pn pc, .int .i64 most, .slice va vn vc, .int .i64 dare, .int .i64 (x.quorum - 1), .int .i64 S] := hX ▸ Blk.new Y _ _
          have hkX : Kept [] Y X := hX ▸ (Kept.refl [] Y).alloc _
          have hsX : X.heap.size = Y.heap.size + 1 := by rw [← hX]; simp
          rw [hX]
          have HSX := Lib.hid hsX
          have hbZX := hbZY.kept hkX (by simp)
          have hbRX := hbRY.kept hkX (by simp)
          have hbYX := hbY.kept hkX (by simp)
          clear hX hsX hbZY hbRY hbY
          have r0 : X.cell? ⟨w.heap.size, 0, none⟩ = some (.slice ra x.reasons.length rc) := hbRX.cell 0
          have r1 : X.cell? ⟨w.heap.size, 1, none⟩ = some (.int .i64 x.quorum) := hbRX.cell 1
          have r2 : X.cell? ⟨w.heap.size, 2, none⟩ = some (.slice wa x.weights.length wc) := hbRX.cell 2
          go_upto_region 25 with (fail)
          clear r0 r1 r2
          have HX1 := Lib.hid (StatsV.one (w := X) (HW0.out.kept ((hkZ.trans hkY).trans hkX)) 60)
          obtain ⟨F, hF⟩ : ∃ F, X.alloc (.cells #[.slice ra x.reasons.length rc, .int .i64 x.quorum, .slice wa x.weights.length wc] 60) = F := ⟨_, rfl⟩
          have hbF : Blk F X.heap.size 60 #[.slice ra x.reasons.length rc, .int .i64 x.quorum, .slice wa x.weights.length wc] := hF ▸ Blk.new X _ _
          have hkF : Kept [] X F := hF ▸ (Kept.refl [] X).alloc _
          have hsF : F.heap.size = X.heap.size + 1 := by rw [← hF]; simp
          rw [hF]
          have HSF := Lib.hid hsF
          have HSTF : Hid (StatsV F (.slice (some ⟨X.heap.size, 0, none⟩) 1 1) [x]) := by
            have h := HX1.out
            rw [hF] at h
            exact h
          clear HX1 hF hsF hbF
          have hbZF := hbZX.kept hkF (by simp)
          have r1 : F.cell? ⟨w.heap.size, 1, none⟩ = some (.int .i64 x.quorum) := (hbRX.kept hkF (by simp)).cell 1
          clear hbRX
          have hbYF := hbYX.kept hkF (by simp)
          have hbXF := hbX.kept hkF (by simp)
          have hkF0 := ((hkZ.trans hkY).trans hkX).trans hkF
          have ct0 : Hid (∀ w', Kept [] F w' → w'.cell? ⟨w.heap.size + 1, 0, none⟩ = some (.int .i64 0)) := Kept.cellOf (hbZF.cell 0)
          have ct1 : Hid (∀ w', Kept [] F w' → w'.cell? ⟨w.heap.size + 1, 1, none⟩ = some (.string qs)) := Kept.cellOf (hbZF.cell 1)
          have ct2 : Hid (∀ w', Kept [] F w' → w'.cell? ⟨w.heap.size + 1, 2, none⟩ = some (.slice pa pn pc)) := Kept.cellOf (hbZF.cell 2)
          have ct3 : Hid (∀ w', Kept [] F w' → w'.cell? ⟨w.heap.size + 1, 3, none⟩ = some (.int .i64 most)) := Kept.cellOf (hbZF.cell 3)
          have ct4 : Hid (∀ w', Kept [] F w' → w'.cell? ⟨w.heap.size + 1, 4, none⟩ = some (.slice va vn vc)) := Kept.cellOf (hbZF.cell 4)
          have ct5 : Hid (∀ w', Kept [] F w' → w'.cell? ⟨w.heap.size + 1, 5, none⟩ = some (.int .i64 dare)) := Kept.cellOf (hbZF.cell 5)
          have ct6 : Hid (∀ w', Kept [] F w' → w'.cell? ⟨w.heap.size + 1, 6, none⟩ = some (.int .i64 x.quorum)) := Kept.cellOf (hbZF.cell 6)
          have ct7 : Hid (∀ w', Kept [] F w' → w'.cell? ⟨w.heap.size + 1, 7, none⟩ = some (.int .i64 S)) := Kept.cellOf (hbZF.cell 7)
          have cm0 : Hid (∀ w', Kept [] F w' → w'.cell? ⟨Z.heap.size, 0, none⟩ = some (.int .i64 0)) := Kept.cellOf (hbYF.cell 0)
          have cm1 : Hid (∀ w', Kept [] F w' → w'.cell? ⟨Z.heap.size, 1, none⟩ = some (.string qs)) := Kept.cellOf (hbYF.cell 1)
          have cm2 : Hid (∀ w', Kept [] F w' → w'.cell? ⟨Z.heap.size, 2, none⟩ = some (.slice pa pn pc)) := Kept.cellOf (hbYF.cell 2)
          have cm3 : Hid (∀ w', Kept [] F w' → w'.cell? ⟨Z.heap.size, 3, none⟩ = some (.int .i64 most)) := Kept.cellOf (hbYF.cell 3)
          have cm4 : Hid (∀ w', Kept [] F w' → w'.cell? ⟨Z.heap.size, 4, none⟩ = some (.slice va vn vc)) := Kept.cellOf (hbYF.cell 4)
          have cm5 : Hid (∀ w', Kept [] F w' → w'.cell? ⟨Z.heap.size, 5, none⟩ = some (.int .i64 dare)) := Kept.cellOf (hbYF.cell 5)
          have cm6 : Hid (∀ w', Kept [] F w' → w'.cell? ⟨Z.heap.size, 6, none⟩ = some (.int .i64 x.quorum)) := Kept.cellOf (hbYF.cell 6)
          have cm7 : Hid (∀ w', Kept [] F w' → w'.cell? ⟨Z.heap.size, 7, none⟩ = some (.int .i64 (S + 1))) := Kept.cellOf (hbYF.cell 7)
          have cl0 : Hid (∀ w', Kept [] F w' → w'.cell? ⟨Y.heap.size, 0, none⟩ = some (.int .i64 0)) := Kept.cellOf (hbXF.cell 0)
          have cl1 : Hid (∀ w', Kept [] F w' → w'.cell? ⟨Y.heap.size, 1, none⟩ = some (.string qs)) := Kept.cellOf (hbXF.cell 1)
          have cl2 : Hid (∀ w', Kept [] F w' → w'.cell? ⟨Y.heap.size, 2, none⟩ = some (.slice pa pn pc)) := Kept.cellOf (hbXF.cell 2)
          have cl3 : Hid (∀ w', Kept [] F w' → w'.cell? ⟨Y.heap.size, 3, none⟩ = some (.int .i64 most)) := Kept.cellOf (hbXF.cell 3)
          have cl4 : Hid (∀ w', Kept [] F w' → w'.cell? ⟨Y.heap.size, 4, none⟩ = some (.slice va vn vc)) := Kept.cellOf (hbXF.cell 4)
          have cl5 : Hid (∀ w', Kept [] F w' → w'.cell? ⟨Y.heap.size, 5, none⟩ = some (.int .i64 dare)) := Kept.cellOf (hbXF.cell 5)
          have cl6 : Hid (∀ w', Kept [] F w' → w'.cell? ⟨Y.heap.size, 6, none⟩ = some (.int .i64 (x.quorum - 1))) := Kept.cellOf (hbXF.cell 6)
          have cl7 : Hid (∀ w', Kept [] F w' → w'.cell? ⟨Y.heap.size, 7, none⟩ = some (.int .i64 S)) := Kept.cellOf (hbXF.cell 7)
          clear hbZX hbYX hbX hbZF hbYF hbXF hkZ hkY hkX hkF
          have KF := Kept.refl [] F
          have c0 := ct0.out F KF
          have c1 := ct1.out F KF
          have c2 := ct2.out F KF
          have c3 := ct3.out F KF
          have c4 := ct4.out F KF
          have c5 := ct5.out F KF
          have c6 := ct6.out F KF
          have c7 := ct7.out F KF
          have G1 : Hid (Calls Tryd.prog 31 #[.slice (some ⟨X.heap.size, 0, none⟩) 1 1, .agg #[.int .i64 0, .string qs, .slice pa pn pc, .int .i64 most, .slice va vn vc, .int .i64 dare, .int .i64 x.quorum, .int .i64 S]] F fun e w' => e = .returned (.bool true) ∧ Kept [] F w') := by
            have h := governs_any _ [x] 0 x.quorum S most dare (.string qs) (.slice pa pn pc) (.slice va vn vc) F (HSTF.out.kept KF) (by intro y hy; simp at hy; subst hy; exact HSH.out)
            rw [gov_yes HVL.out HSS.out] at h
            exact h
          go_wp2_with (go_at_call 31; refine G1.out.mono ?_)
          first | (rintro e w5 rfl hk) | (rintro e w5 ⟨rfl, hk⟩)
          have K5 := KF.trans hk
          clear hk G1 c0 c1 c2 c3 c4 c5 c6 c7
          have c0 := cm0.out w5 K5
          have c1 := cm1.out w5 K5
          have c2 := cm2.out w5 K5
          have c3 := cm3.out w5 K5
          have c4 := cm4.out w5 K5
          have c5 := cm5.out w5 K5
          have c6 := cm6.out w5 K5
          have c7 := cm7.out w5 K5
          have G2 : Hid (Calls Tryd.prog 31 #[.slice (some ⟨X.heap.size, 0, none⟩) 1 1, .agg #[.int .i64 0, .string qs, .slice pa pn pc, .int .i64 most, .slice va vn vc, .int .i64 dare, .int .i64 x.quorum, .int .i64 (S + 1)]] w5 fun e w' => e = .returned (.bool false) ∧ Kept [] w5 w') := by
            have h := governs_any _ [x] 0 x.quorum (S + 1) most dare (.string qs) (.slice pa pn pc) (.slice va vn vc) w5 (HSTF.out.kept K5) (by intro y hy; simp at hy; subst hy; exact HSH.out)
            rw [gov_more (s := S + 1) HVL.out (by have := HSS.out; omega)] at h
            exact h
          go_wp2_with (go_at_call 31; refine G2.out.mono ?_)
          first | (rintro e w6 rfl hk) | (rintro e w6 ⟨rfl, hk⟩)
          have K6 := K5.trans hk
          clear hk G2 c0 c1 c2 c3 c4 c5 c6 c7
          have c0 := cl0.out w6 K6
          have c1 := cl1.out w6 K6
          have c2 := cl2.out w6 K6
          have c3 := cl3.out w6 K6
          have c4 := cl4.out w6 K6
          have c5 := cl5.out w6 K6
          have c6 := cl6.out w6 K6
          have c7 := cl7.out w6 K6
          have G3 : Hid (Calls Tryd.prog 31 #[.slice (some ⟨X.heap.size, 0, none⟩) 1 1, .agg #[.int .i64 0, .string qs, .slice pa pn pc, .int .i64 most, .slice va vn vc, .int .i64 dare, .int .i64 (x.quorum - 1), .int .i64 S]] w6 fun e w' => e = .returned (.bool false) ∧ Kept [] w6 w') := by
            have h := governs_any _ [x] 0 (x.quorum - 1) S most dare (.string qs) (.slice pa pn pc) (.slice va vn vc) w6 (HSTF.out.kept K6) (by intro y hy; simp at hy; subst hy; exact HSH.out)
            rw [gov_less (q := x.quorum - 1) HVL.out (by omega)] at h
            exact h
          go_wp2_with (go_at_call 31; refine G3.out.mono ?_)
          first | (rintro e w7 rfl hk) | (rintro e w7 ⟨rfl, hk⟩)
          have K7 := K6.trans hk
          clear hk G3 c0 c1 c2 c3 c4 c5 c6 c7
          go_wp2
          go_ret
          exact ⟨rfl, hkF0.trans K7⟩
end Go.Proofs.YtabiklpemoijcaaDoor
