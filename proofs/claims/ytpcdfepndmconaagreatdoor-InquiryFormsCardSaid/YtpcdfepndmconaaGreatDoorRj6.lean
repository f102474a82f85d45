/- The reference's ballots. -/
import Derived.Test.YtpcdfepndmconaaGreatDoorRj5
namespace Go.Proofs.YtpcdfepndmconaaGreatDoor
open Go.RowKit

set_option maxRecDepth 100000 in
set_option maxHeartbeats 8000000 in
theorem rballot_any (v : Value) (x : Vote) (w : World) (h : VoteV w v x) (hr : x.reason.length ≤ 100000000) (hp : x.pts.length ≤ 900000) :
    Calls Tryz.prog 23 #[v] w fun e w' => e = .returned (.string ⟨(ballotE x).toArray⟩) ∧ Kept [] w w' := by
  obtain ⟨ps, n, c, s, rfl, hrow⟩ := h.form
  have hpl : x.pts.length = n * 3 := by simpa [ints] using hrow.1
  obtain ⟨pa, pc, rfl, hl1, hl2⟩ := hrow.form
  obtain ⟨W, hW⟩ : ∃ W, w.alloc (.cells #[.int .i64 x.juror, .int .i64 x.version, .int .i64 x.gate, .int .i64 x.no, .string ⟨x.reason.toArray⟩, .slice pa n pc, .int .i64 c, .int .i64 s] 35) = W := ⟨_, rfl⟩
  have hkW : Kept [] w W := hW ▸ (Kept.refl _ _).alloc _
  have hb : Blk W w.heap.size 35 #[.int .i64 x.juror, .int .i64 x.version, .int .i64 x.gate, .int .i64 x.no, .string ⟨x.reason.toArray⟩, .slice pa n pc, .int .i64 c, .int .i64 s] := hW ▸ Blk.new w _ _
  have k0 : Hid (∀ w', Kept [] W w' → w'.cell? ⟨w.heap.size, 0, none⟩ = some (.int .i64 x.juror)) := Kept.cellOf (hb.cell 0)
  have k1 : Hid (∀ w', Kept [] W w' → w'.cell? ⟨w.heap.size, 1, none⟩ = some (.int .i64 x.version)) := Kept.cellOf (hb.cell 1)
  have k2 : Hid (∀ w', Kept [] W w' → w'.cell? ⟨w.heap.size, 2, none⟩ = some (.int .i64 x.gate)) := Kept.cellOf (hb.cell 2)
  have k3 : Hid (∀ w', Kept [] W w' → w'.cell? ⟨w.heap.size, 3, none⟩ = some (.int .i64 x.no)) := Kept.cellOf (hb.cell 3)
  have k4 : Hid (∀ w', Kept [] W w' → w'.cell? ⟨w.heap.size, 4, none⟩ = some (.string ⟨x.reason.toArray⟩)) := Kept.cellOf (hb.cell 4)
  have k5 : Hid (∀ w', Kept [] W w' → w'.cell? ⟨w.heap.size, 5, none⟩ = some (.slice pa n pc)) := Kept.cellOf (hb.cell 5)
  have HW := Lib.hid hW
  have HPL := Lib.hid hpl
  have HROW := Lib.hid (hrow.kept hkW)
  have HX := Lib.hid h
  have hn3 : n * 3 ≤ 900000 := by rw [← hpl]; exact hp
  clear hW hpl hrow h hb
  go_enter Tryz.func23, Tryz.ntmps23
  go_wp2_with fail
  have hW' : w.alloc (.cells #[.int .i64 x.juror, .int .i64 x.version, .int .i64 x.gate, .int .i64 x.no, .string ⟨x.reason.toArray⟩, .slice pa n pc, .int .i64 c, .int .i64 s] 35) = W := HW.out
  rw [hW']
  clear hW'
  go_wp2_with fail
  go_loopw [3, 4] (fun v i wr => PtsRel W n x.pts v i wr) (fun _ i _ => n - (intOf i).toNat)
  case atStart => exact ⟨0, Nat.zero_le _, rfl, by simpa [ints] using World.ownsRow_nil _ _ _ _, Kept.refl _ _⟩
  case round =>
    obtain ⟨k, hkn, rfl, hown, hkr⟩ := hrel
    obtain ⟨va, vc, rfl⟩ := own_form hown
    have c5 := k5.out wr hkr
    by_cases hlt : k < n
    · obtain ⟨ba, oa, rfl, hca⟩ := (HROW.out.kept hkr).at_ (by omega)
      obtain ⟨x0, x1, x2, g0, g1, g2, hda⟩ := drop3 HPL.out hlt
      have hge := own_ge hown
      have q0 : ∀ w', Kept (obl (.slice va (k * 3) vc)) wr w' → w'.cell? ⟨w.heap.size, 5, none⟩ = some (.slice (some ⟨ba, oa, none⟩) n pc) := fun w' kk => kk.cell0 (k5.out W (Kept.refl _ _)) hkr (fun z hz => (hge z hz).1)
      have hcw : ∀ i u, (ints x.pts)[i]? = some u → ∀ w', Kept (obl (.slice va (k * 3) vc)) wr w' → w'.cell? ⟨ba, oa + i, none⟩ = some u := fun i u hu w' kk => by
        obtain ⟨b2, o2, e2, hc2⟩ := HROW.out.at_ (by omega)
        injection e2 with e2
        injection e2 with e3 e4
        subst e3 e4
        exact kk.cell0 (hc2 i u hu) hkr (fun z hz => (hge z hz).1)
      have y0 := hcw _ _ g0
      have y1 := hcw _ _ g1
      have y2 := hcw _ _ g2
      rw [← Nat.add_assoc] at y1 y2
      have HT := Lib.hid (take3 hda)
      have HGE := Lib.hid hge
      have s0 : Bld W.heap.size wr wr (.slice va (k * 3) vc) (.slice va (k * 3) vc) (k * 3) (x.pts.take (k * 3)) [] := Bld.start hown hkr.size
      have b1 : (k : Int) < (n : Int) := by omega
      have hkn2 : k * 3 + 3 ≤ 900000 := by omega
      clear hca g0 g1 g2 hda hge hcw hown
      go_upto_region 5 with (fail)
      clear c5
      go_region_held3 (fun w' => Kept (obl (.slice va (k * 3) vc)) wr w') (repeat (first | (with_reducible assumption) | (with_reducible exact Kept.refl _ _) | (with_reducible refine Kept.drew ?_) | (with_reducible refine Kept.alloc ?_ _)))
        (first
          | ((refine step_append_bld (s2) rfl _ _ rfl rfl _ [x2] 1 rfl rfl (by simp) (by omega) ?_; intro a3 n3 w3 s3; have hk3 := s3.kept))
          | ((refine step_append_bld ((s2).build1 _ _) rfl _ _ rfl rfl _ [x2] 1 rfl rfl (by simp) (by omega) ?_; intro a3 n3 w3 s3; have hk3 := s3.kept))
          | ((refine step_append_bld (s1) rfl _ _ rfl rfl _ [x1] 1 rfl rfl (by simp) (by omega) ?_; intro a2 n2 w2 s2; have hk2 := s2.kept))
          | ((refine step_append_bld ((s1).build1 _ _) rfl _ _ rfl rfl _ [x1] 1 rfl rfl (by simp) (by omega) ?_; intro a2 n2 w2 s2; have hk2 := s2.kept))
          | ((refine step_append_bld (((s1).build1 _ _).build1 _ _) rfl _ _ rfl rfl _ [x1] 1 rfl rfl (by simp) (by omega) ?_; intro a2 n2 w2 s2; have hk2 := s2.kept))
          | ((refine step_append_bld ((s0.drew).build1 _ _) rfl _ _ rfl rfl _ [x0] 1 rfl rfl (by simp) (by omega) ?_; intro a1 n1 w1 s1; have hk1 := s1.kept))
          | ((refine step_append_bld (((s0.drew).build1 _ _).build1 _ _) rfl _ _ rfl rfl _ [x0] 1 rfl rfl (by simp) (by omega) ?_; intro a1 n1 w1 s1; have hk1 := s1.kept))
          | ((refine step_append_bld ((((s0.drew).build1 _ _).build1 _ _).build1 _ _) rfl _ _ rfl rfl _ [x0] 1 rfl rfl (by simp) (by omega) ?_; intro a1 n1 w1 s1; have hk1 := s1.kept))
          | fail)
      all_goals (
        have hown3 := s3.own
        have hk3W : Kept [] W w3 := hkr.fresh hk3 (fun z hz => (HGE.out z hz).1)
        rw [show x.pts.take (k * 3) ++ [x0] ++ [x1] ++ [x2] = x.pts.take ((k + 1) * 3) by rw [HT.out]; simp] at hown3
        rw [show k * 3 + 1 + 1 + 1 = (k + 1) * 3 by omega] at hown3 ⊢
        clear s1 s2 s3 hk1 hk2 hk3 q0 y0 y1 y2 s0
        go_wp2_with fail
        go_roundw
        case rel => exact ⟨k + 1, by omega, by go_num, hown3, hk3W⟩
        case measure => simp [intOf]; omega)
    · obtain rfl : k = n := by omega
      rw [← HPL.out, List.take_length] at hown
      have hrv := Row.of_own hown (by omega)
      have HRV := Lib.hid hrv
      have h4 : ∀ n ∈ [x.juror, x.version, x.gate, x.no], Wire.I64 n := by
        intro n hn
        simp only [List.mem_cons, List.not_mem_nil, or_false] at hn
        rcases hn with rfl | rfl | rfl | rfl
        · exact HX.out.h0
        · exact HX.out.h1
        · exact HX.out.h2
        · exact HX.out.h3
      have H4 := Lib.hid h4
      have l0 := numsE_len [x.juror, x.version, x.gate, x.no] h4 (by simp)
      have l1 := textE_len x.reason hr
      have l2 := numsE_len x.pts HX.out.hp (by omega)
      have s1 : ¬ 9223372036854775807 < (Wire.numsE [x.juror, x.version, x.gate, x.no]).length + (Wire.textE x.reason).length := by omega
      have s2 : ¬ 9223372036854775807 < (Wire.numsE [x.juror, x.version, x.gate, x.no]).length + (Wire.textE x.reason).length + (Wire.numsE x.pts).length := by omega
      have hcat := bcat
      have c0 : ∀ w', Kept [] wr w' → w'.cell? ⟨w.heap.size, 0, none⟩ = some (.int .i64 x.juror) := fun w' k => k0.out w' (hkr.trans k)
      have c1 : ∀ w', Kept [] wr w' → w'.cell? ⟨w.heap.size, 1, none⟩ = some (.int .i64 x.version) := fun w' k => k1.out w' (hkr.trans k)
      have c2 : ∀ w', Kept [] wr w' → w'.cell? ⟨w.heap.size, 2, none⟩ = some (.int .i64 x.gate) := fun w' k => k2.out w' (hkr.trans k)
      have c3 : ∀ w', Kept [] wr w' → w'.cell? ⟨w.heap.size, 3, none⟩ = some (.int .i64 x.no) := fun w' k => k3.out w' (hkr.trans k)
      have c4 : ∀ w', Kept [] wr w' → w'.cell? ⟨w.heap.size, 4, none⟩ = some (.string ⟨x.reason.toArray⟩) := fun w' k => k4.out w' (hkr.trans k)
      have hp1 : x.pts.length ≤ 100000001 := by omega
      have HP := Lib.hid HX.out.hp
      have hkp : k * 3 = x.pts.length := HPL.out.symm
      rw [hkp]
      clear l0 l1 l2 h4 hown hrv hkp
      go_wp2_with fail
      clear c5
      go_region_held3 (fun w' => Kept [] wr w') (repeat (first | (with_reducible assumption) | (with_reducible exact Kept.refl _ _) | (with_reducible refine Kept.drew ?_) | (with_reducible refine Kept.alloc ?_ _)))
        (first
          | (go_at_call_of 73 (Value.slice va x.pts.length vc); refine (kept_from (W := wr) (by assumption) (rnums_any (.slice va x.pts.length vc) x.pts _ (by exact HRV.out.kept (by assumption)) hp1 HP.out)).mono ?_; rintro e w2 ⟨rfl, hk2⟩)
          | (go_at_call 73; refine (kept_from (W := wr) (by assumption) (rnums_any _ [x.juror, x.version, x.gate, x.no] _ (by exact (row4 _ _ _ _ _ _).drew) (by simp) (by exact H4.out))).mono ?_; rintro e w2 ⟨rfl, hk2⟩)
          | (go_at_call 74; refine (kept_from (W := wr) (by assumption) (rtext_any x.reason _ hr)).mono ?_; rintro e w2 ⟨rfl, hk2⟩))
      rename_i hHeld
      go_wp2
      go_ret
      exact ⟨by simp [ballotE], hkW.trans (hkr.trans hHeld)⟩
end Go.Proofs.YtpcdfepndmconaaGreatDoor
