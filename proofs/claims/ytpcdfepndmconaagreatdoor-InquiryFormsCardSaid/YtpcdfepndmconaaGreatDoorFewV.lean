/- The documents' bounds on votes: FewVotes. -/
import Derived.Test.YtpcdfepndmconaaGreatDoorRj2
import Derived.Test.YtpcdfepndmconaaGreatDoorSeats
import Derived.Test.YtpcdfepndmconaaGreatDoorSame
import Derived.Test.YtpcdfepndmconaaGreatDoorBallot
/- JOINED: Rj3 Rj4 FewV -/
/- The reference's Seats. -/
namespace Go.Proofs.YtpcdfepndmconaaGreatDoor
open Go.RowKit

set_option maxRecDepth 100000 in
set_option maxHeartbeats 1000000 in
theorem rseats_no (v : Value) (x : Statute) (j : Int) (w : World) (h : StatV w v x) (hs : ∀ r ∈ x.reasons, r.length ≤ 100000000)
    (hno : ¬ (validS x = true ∧ 0 ≤ j ∧ j < x.weights.length)) :
    Calls Tryz.prog 13 #[v, .int .i64 j] w (NewInts [] w) := by
  obtain ⟨rs, ws, rfl, hr, hw⟩ := h.form
  obtain ⟨wa, wc, rfl, hlw, hlc⟩ := hw.form
  obtain ⟨ra, rc, rfl, hlr, _⟩ := hr.form
  have hW : StatV (w.alloc (.cells #[.slice ra x.reasons.length rc, .int .i64 x.quorum, .slice wa x.weights.length wc] 46)) (.agg #[.slice ra x.reasons.length rc, .int .i64 x.quorum, .slice wa x.weights.length wc]) x := h.kept ((Kept.refl _ _).alloc _)
  have hb := Blk.new w 46 #[.slice ra x.reasons.length rc, .int .i64 x.quorum, .slice wa x.weights.length wc]
  have HC := Lib.hid (rvalid_st _ x _ hW hs)
  clear h hs hr hw hW
  obtain ⟨m, hm⟩ : ∃ m, x.weights.length = m := ⟨_, rfl⟩
  rw [hm] at hno hlw hlc HC hb ⊢
  clear hm
  cases hv : validS x
  · rw [hv] at HC
    clear hno
    go_enter Tryz.func13, Tryz.ntmps13
    go_wp2_with (go_at_call 10; refine HC.out.mono ?_)
    rintro e w1 ⟨rfl, hk⟩
    go_wp2_with fail
    go_ret
    exact ⟨_, rfl, World.ownsRow_nil _ _ _ _, ((Kept.refl _ _).alloc _).trans hk⟩
  · rw [hv] at HC
    have hin : (decide (0 ≤ j) && decide (j ≤ (m : Int) - 1)) = false := by
      rw [Bool.eq_false_iff]
      intro h
      simp at h
      exact hno ⟨hv, h.1, by omega⟩
    have HI : Hid (∀ w, Calls Tryz.prog 54 #[.int .i64 j, .int .i64 0, .int .i64 ((m : Int) - 1)] w fun e w' => e = .returned (.bool false) ∧ w = w') := fun w => by
      have := rin_any j 0 ((m : Int) - 1) w
      rwa [hin] at this
    clear hno hin
    go_enter Tryz.func13, Tryz.ntmps13
    go_wp2_with (go_at_call 10; refine HC.out.mono ?_)
    rintro e w1 ⟨rfl, hk⟩
    have e2 : w1.cell? ⟨w.heap.size, 2, none⟩ = some (.slice wa m wc) := (hb.kept hk (by simp)).cell 2
    go_wp2_with (go_at_call 54; refine (HI.out _).mono ?_; rintro e w' ⟨rfl, rfl⟩)
    go_ret
    exact ⟨_, rfl, World.ownsRow_nil _ _ _ _, ((Kept.refl _ _).alloc _).trans hk⟩

/-- the loop's relation -/
def RSeatsRel (W : World) (first : Int) (m : Nat) (v i : Value) (wr : World) : Prop :=
  ∃ k : Nat, k ≤ m ∧ i = .int .i64 k ∧ wr.ownsRow W.heap.size 3 1 v k (ints (countUp first k)) ∧ Kept [] W wr

set_option maxRecDepth 100000 in
set_option maxHeartbeats 1000000 in
theorem rseats_yes (v : Value) (x : Statute) (j : Nat) (w : World) (h : StatV w v x) (hs : ∀ r ∈ x.reasons, r.length ≤ 100000000)
    (hv : validS x = true) (hj : j < x.weights.length) :
    Calls Tryz.prog 13 #[v, .int .i64 (j : Int)] w (NewInts (countUp (sumW (x.weights.take j) + 1) (x.weights[j]).toNat) w) := by
  obtain ⟨_, _, v1, v2, v3, v4, _, _⟩ := validS_facts hv
  obtain ⟨rs, ws, rfl, hr, hw⟩ := h.form
  obtain ⟨wa, wc, rfl, hlw, hlc⟩ := hw.form
  obtain ⟨ra, rc, rfl, hlr, _⟩ := hr.form
  obtain ⟨W, hWq⟩ : ∃ W, w.alloc (.cells #[.slice ra x.reasons.length rc, .int .i64 x.quorum, .slice wa x.weights.length wc] 46) = W := ⟨_, rfl⟩
  have hkW : Kept [] w W := hWq ▸ (Kept.refl _ _).alloc _
  have hb : Blk W w.heap.size 46 #[.slice ra x.reasons.length rc, .int .i64 x.quorum, .slice wa x.weights.length wc] := hWq ▸ Blk.new w _ _
  have hW := h.kept hkW
  have HC := Lib.hid (rvalid_st _ x _ hW hs)
  rw [hv] at HC
  obtain ⟨wb, wo, rfl, hwc⟩ := (hw.kept hkW).at_ (by omega)
  have hsz : W.heap.size = w.heap.size + 1 := by rw [← hWq]; simp
  have hx : 0 ≤ x.weights[j] ∧ x.weights[j] ≤ 12 := v3 _ (List.getElem_mem hj)
  obtain ⟨q, hq⟩ : ∃ q : Nat, x.weights[j] = q := ⟨(x.weights[j]).toNat, by omega⟩
  have HT : ∀ w1, Kept [] W w1 → Calls Tryz.prog 55 #[.slice (some ⟨wb, wo, none⟩) j wc] w1 fun e w' => e = .returned (.int .i64 (sumW (x.weights.take j))) ∧ w1 = w' := by
    intro w1 k1
    have := rpoints_any _ (x.weights.take j) w1 (row_take (c := wc) (fun i u hu => Kept.cellOf (hwc i u hu) w1 k1) rfl (by omega : j ≤ x.weights.length) hlw hlc) (fun n hn => v3 n (List.mem_of_mem_take hn)) (by rw [List.length_take]; omega)
    exact this
  have hsb := sumW_bound (x.weights.take j) (fun n hn => v3 n (List.mem_of_mem_take hn))
  have htl : (x.weights.take j).length ≤ 12 := by rw [List.length_take]; omega
  obtain ⟨S, hS⟩ : ∃ S, sumW (x.weights.take j) = S := ⟨_, rfl⟩
  rw [hS] at HT hsb ⊢
  rw [hq, Int.toNat_natCast]
  have HT' := Lib.hid HT
  have kj : ∀ w', Kept [] W w' → w'.cell? ⟨wb, wo + j, none⟩ = some (.int .i64 q) := by
    have := Kept.cellOf (hwc j _ (ints_get hj))
    rw [hq] at this; exact this
  have k2 : ∀ w', Kept [] W w' → w'.cell? ⟨w.heap.size, 2, none⟩ = some (.slice (some ⟨wb, wo, none⟩) x.weights.length wc) := Kept.cellOf (hb.cell 2)
  have KJ := Lib.hid kj
  have K2 := Lib.hid k2
  have hq12 : q ≤ 12 := by omega
  have hS144 : S ≤ 144 := by omega
  have hS0 : 0 ≤ S := hsb.1
  obtain ⟨m, hm⟩ : ∃ m, x.weights.length = m := ⟨_, rfl⟩
  rw [hm] at hj hlw hlc HC K2 hWq v2 ⊢
  have HI : Hid (∀ w, Calls Tryz.prog 54 #[.int .i64 (j : Int), .int .i64 0, .int .i64 ((m : Int) - 1)] w fun e w' => e = .returned (.bool true) ∧ w = w') := fun w => by
    have := rin_any (j : Int) 0 ((m : Int) - 1) w
    rwa [show (decide (0 ≤ (j : Int)) && decide ((j : Int) ≤ (m : Int) - 1)) = true by simp; omega] at this
  have HW := Lib.hid hWq
  have HSZ := Lib.hid hsz
  obtain ⟨i0, hi, hz0, hz1, hz2⟩ := info_parts infoInt
  clear hwc HT hW hr hw h hs hq hS hv v3 v4 hx hsb htl kj k2 hb hWq hsz hm
  go_enter Tryz.func13, Tryz.ntmps13
  go_wp2_with fail
  have hW' : w.alloc (.cells #[.slice ra x.reasons.length rc, .int .i64 x.quorum, .slice (some ⟨wb, wo, none⟩) m wc] 46) = W := HW.out
  rw [hW']
  clear hW'
  go_wp2_with (go_at_call 10; refine HC.out.mono ?_)
  rintro e w1 ⟨rfl, hk⟩
  have e2 := K2.out w1 hk
  go_wp2_with (first
    | (go_at_call 54; refine (HI.out _).mono ?_; rintro e w' ⟨rfl, rfl⟩)
    | (go_at_call 55; refine (HT'.out w1 hk).mono ?_; rintro e w' ⟨rfl, rfl⟩))
  go_loopw [6, 7] (fun v i wr => RSeatsRel W (S + 1) q v i wr) (fun _ i _ => q - (intOf i).toNat)
  case atStart => exact ⟨0, Nat.zero_le _, rfl, by simpa [countUp, ints] using World.ownsRow_nil _ _ _ _, hk⟩
  case round =>
    obtain ⟨k, hkq, rfl, hown, hkr⟩ := hrel
    have e2 := K2.out wr hkr
    have ej := KJ.out wr hkr
    by_cases hlt : k < q
    · have es : S + (k : Int) + 1 = S + 1 + k := by omega
      have hkm : (k : Int) < (q : Int) := by omega
      go_wp2_with (at_builtin; refine wpList_append_own _ rfl _ _ 24 rfl W.heap.size 3 i0 (.int .i64 0) 1 8 Tryz.underlying24 hi hz0 hz1 hz2 rfl (by decide) _ _ _ rfl (hown.alloc _) ⟨wr.heap.size, 0, none⟩ 1 1 [.int .i64 (S + 1 + k)] rfl rfl ?c1 ?c2 ?c3 ?c4 ?c5 ?_)
      case c1 => exact cell_one_new _ _ _
      case c2 => intro u hu; rw [List.mem_singleton] at hu; subst hu; rfl
      case c3 => unfold maxLen; omega
      case c4 => omega
      case c5 => have := hkr.size; simp; omega
      intro v' w3 hown3 hg3 _
      have hk3 : Kept [] W w3 := (hkr.alloc _).grown hg3 (fun k hk => Or.inr (hown.lt k hk).1)
      have e3 : ints (countUp (S + 1) k) ++ [.int .i64 (S + 1 + k)] = ints (countUp (S + 1) (k + 1)) := by rw [countUp_succ]; simp [ints]
      rw [e3] at hown3
      clear e3 hg3 hown ej e2 es
      go_wp2
      go_roundw
      case rel => exact ⟨k + 1, by omega, by go_num, hown3, hk3⟩
      case measure => simp [intOf]; omega
    · obtain rfl : k = q := by omega
      obtain ⟨va, vc, rfl⟩ := own_form hown
      go_wp2_with fail
      go_ret
      refine ⟨_, rfl, ?_, hkW.trans hkr⟩
      rw [countUp_length]
      exact own_base hown (by rw [HSZ.out]; omega)

theorem rseats_any (v : Value) (x : Statute) (j : Int) (w : World) (h : StatV w v x) (hs : ∀ r ∈ x.reasons, r.length ≤ 100000000) :
    Calls Tryz.prog 13 #[v, .int .i64 j] w (NewInts (seats x j) w) := by
  unfold seats
  split
  · next hy =>
    obtain ⟨hv, h0, h1⟩ := hy
    obtain ⟨k, rfl⟩ := Int.eq_ofNat_of_zero_le h0
    have hk : k < x.weights.length := by omega
    rw [Int.toNat_natCast, show x.weights.getD k 0 = x.weights[k] by simp [hk]]
    exact rseats_yes v x k w h hs hv hk
  · next hno => exact rseats_no v x j w h hs hno
end Go.Proofs.YtpcdfepndmconaaGreatDoor
/- The reference's lists of statutes: Statutes, Governs. -/
namespace Go.Proofs.YtpcdfepndmconaaGreatDoor
open Go.RowKit

def stsB (l : List Statute) : Bool := l.all validS && (decide (1 ≤ l.length) && decide (l.length ≤ 16))

set_option maxRecDepth 100000 in
set_option maxHeartbeats 800000 in
theorem rstatutes_any (v : Value) (l : List Statute) (w : World) (h : StatsV w v l) (hs : Short l) :
    Calls Tryz.prog 70 #[v] w fun e w' => e = .returned (.bool (stsB l)) ∧ Kept [] w w' := by
  obtain ⟨cells, hrow, hcc⟩ := h.row
  obtain ⟨a, c, rfl, hl, _⟩ := hrow.form
  have H := Lib.hid h
  have HS := Lib.hid hs
  clear h hs hrow hcc
  go_enter Tryz.func70, Tryz.ntmps70
  go_wp2_with fail
  go_loopw [3] (fun i wr => ∃ k : Nat, k ≤ l.length ∧ i = .int .i64 k ∧ (l.take k).all validS = true ∧ Kept [] w wr) (fun i _ => l.length - (intOf i).toNat)
  case atStart => exact ⟨0, Nat.zero_le _, rfl, by simp, Kept.refl _ _⟩
  case round =>
    obtain ⟨k, hk, rfl, hall, hkr⟩ := hrel
    have HA := Lib.hid hall
    clear hall
    by_cases hlt : k < l.length
    · obtain ⟨x, hx⟩ : ∃ x, l[k]? = some x := ⟨_, List.getElem?_eq_getElem hlt⟩
      obtain ⟨b, off, ra, rc, wa, wc, rfl, x0, x1, x2, hst⟩ := (H.out.kept hkr).at_ hx
      have hxm := List.mem_of_getElem? hx
      have HC := Lib.hid (rvalid_st _ _ wr hst (HS.out _ hxm))
      have HT : Hid (l.take (k + 1) = l.take k ++ [x]) := by
        have h1 := List.take_succ_eq_append_getElem hlt
        rw [(List.getElem?_eq_some_iff.1 hx).2] at h1
        exact h1
      clear hx hst
      cases hv : validS x
      · rw [hv] at HC
        have hno : stsB l = false := by
          have : l.all validS = false := by rw [Bool.eq_false_iff]; intro h; rw [List.all_eq_true] at h; have := h x hxm; rw [hv] at this; cases this
          unfold stsB
          rw [this, Bool.false_and]
        have HN := Lib.hid hno
        clear hno hv hxm
        go_wp2_with (go_at_call 10; refine HC.out.mono ?_; rintro e w2 ⟨rfl, hk2⟩)
        go_ret
        exact ⟨by rw [HN.out]; rfl, hkr.trans hk2⟩
      · rw [hv] at HC
        have hyes : (l.take (k + 1)).all validS = true := by rw [HT.out, List.all_append, HA.out]; simp [hv]
        have HY := Lib.hid hyes
        clear hyes hv hxm
        go_wp2_with (go_at_call 10; refine HC.out.mono ?_; rintro e w2 ⟨rfl, hk2⟩)
        go_roundw
        case rel => exact ⟨k + 1, by omega, by go_num, HY.out, hkr.trans hk2⟩
        case measure => simp [intOf]; omega
    · obtain rfl : k = l.length := by omega
      rw [List.take_length] at HA
      have HN : Hid (stsB l = (decide (1 ≤ (l.length : Int)) && decide ((l.length : Int) ≤ 16))) := by
        show stsB l = _
        unfold stsB
        rw [HA.out, Bool.true_and, Bool.eq_iff_iff]
        simp
        omega
      have HI : Hid (∀ w, Calls Tryz.prog 54 #[.int .i64 (l.length : Int), .int .i64 1, .int .i64 16] w fun e w' => e = .returned (.bool (stsB l)) ∧ w = w') := fun w => by
        have := rin_any (l.length : Int) 1 16 w
        rwa [← HN.out] at this
      go_wp2_with (go_at_call 54; refine (HI.out _).mono ?_; rintro e w' ⟨rfl, rfl⟩)
      go_ret
      exact ⟨rfl, hkr⟩

set_option maxRecDepth 100000 in
set_option maxHeartbeats 1600000 in
theorem rgoverns_any (v : Value) (l : List Statute) (ver quorum jurors most dare : Int) (qs ps rv : Value) (w : World) (h : StatsV w v l) (hs : Short l) :
    Calls Tryz.prog 21 #[v, .agg (cellsT ver most dare quorum jurors qs ps rv)] w fun e w' => e = .returned (.bool (governing l ver quorum jurors).2) ∧ Kept [] w w' := by
  obtain ⟨cells, hrow, hcc⟩ := h.row
  obtain ⟨a, c, rfl, hl, _⟩ := hrow.form
  obtain ⟨W, hW⟩ : ∃ W, w.alloc (.cells #[.int .i64 ver, qs, ps, .int .i64 most, rv, .int .i64 dare, .int .i64 quorum, .int .i64 jurors] 30) = W := ⟨_, rfl⟩
  have hkW : Kept [] w W := hW ▸ (Kept.refl [] w).alloc _
  have hb : Blk W w.heap.size 30 #[.int .i64 ver, qs, ps, .int .i64 most, rv, .int .i64 dare, .int .i64 quorum, .int .i64 jurors] := hW ▸ Blk.new w _ _
  have K0 : Hid (∀ w', Kept [] W w' → w'.cell? ⟨w.heap.size, 0, none⟩ = some (.int .i64 ver)) := Kept.cellOf (hb.cell 0)
  have K6 : Hid (∀ w', Kept [] W w' → w'.cell? ⟨w.heap.size, 6, none⟩ = some (.int .i64 quorum)) := Kept.cellOf (hb.cell 6)
  have K7 : Hid (∀ w', Kept [] W w' → w'.cell? ⟨w.heap.size, 7, none⟩ = some (.int .i64 jurors)) := Kept.cellOf (hb.cell 7)
  have HH := Lib.hid (h.kept hkW)
  have HC := Lib.hid (rstatutes_any _ l W (h.kept hkW) hs)
  have HS := Lib.hid hs
  have HW := Lib.hid hW
  have HI : Hid (∀ w, Calls Tryz.prog 54 #[.int .i64 ver, .int .i64 0, .int .i64 ((l.length : Int) - 1)] w fun e w' => e = .returned (.bool (decide (0 ≤ ver) && decide (ver ≤ (l.length : Int) - 1))) ∧ w = w') := fun w => rin_any ver 0 ((l.length : Int) - 1) w
  have HG : Hid (stsB l = false ∨ (decide (0 ≤ ver) && decide (ver ≤ (l.length : Int) - 1)) = false → (governing l ver quorum jurors).2 = false) := fun h => by
    unfold governing
    have : (decide (0 < l.length ∧ l.length ≤ 16 ∧ 0 ≤ ver ∧ ver < l.length) && l.all validS) = false := by
      unfold stsB at h
      rw [Bool.eq_false_iff]
      intro h2
      rw [Bool.and_eq_true, decide_eq_true_eq] at h2
      obtain ⟨⟨a1, a2, a3, a4⟩, a5⟩ := h2
      rw [a5, Bool.true_and] at h
      rcases h with h | h
      · simp at h; omega
      · simp at h; omega
    rw [this]
    rfl
  have HGT : Hid (stsB l = true → ∀ k : Nat, ver = k → ∀ x, l[k]? = some x → (governing l ver quorum jurors).2 = (decide (quorum = x.quorum) && decide (jurors = sumW x.weights))) := fun h1 k hk x hx => by
    unfold governing
    unfold stsB at h1
    have hlt := (List.getElem?_eq_some_iff.1 hx).1
    rw [Bool.and_eq_true, Bool.and_eq_true, decide_eq_true_eq, decide_eq_true_eq] at h1
    have : (decide (0 < l.length ∧ l.length ≤ 16 ∧ 0 ≤ ver ∧ ver < l.length) && l.all validS) = true := by
      rw [h1.1, Bool.and_true, decide_eq_true_eq]
      omega
    rw [this, if_pos rfl]
    have hg : l.getD ver.toNat zeroS = x := by
      rw [hk, Int.toNat_natCast, List.getD_eq_getElem?_getD, hx]; rfl
    simp only [hg]
  have HV : Hid (stsB l = true → ∀ x ∈ l, validS x = true) := fun h x hx => by
    unfold stsB at h
    rw [Bool.and_eq_true, List.all_eq_true] at h
    exact h.1 x hx
  obtain ⟨g, hg⟩ : ∃ g, (governing l ver quorum jurors).2 = g := ⟨_, rfl⟩
  rw [hg] at HG HGT ⊢
  obtain ⟨s, hsb⟩ : ∃ s, stsB l = s := ⟨_, rfl⟩
  rw [hsb] at HC HG HGT HV
  clear hW hb hrow hcc h hs hg hsb
  show Calls _ _ #[.slice a l.length c, .agg #[.int .i64 ver, qs, ps, .int .i64 most, rv, .int .i64 dare, .int .i64 quorum, .int .i64 jurors]] _ _
  cases s
  · have HF := Lib.hid (HG.out (Or.inl rfl))
    go_enter Tryz.func21, Tryz.ntmps21
    go_wp2_with fail
    have hW' : w.alloc (.cells #[.int .i64 ver, qs, ps, .int .i64 most, rv, .int .i64 dare, .int .i64 quorum, .int .i64 jurors] 30) = W := HW.out
    rw [hW']
    clear hW'
    go_wp2_with (go_at_call 70; refine HC.out.mono ?_)
    rintro e w1 ⟨rfl, hk⟩
    go_wp2_with fail
    go_ret
    exact ⟨by rw [HF.out]; rfl, hkW.trans hk⟩
  · by_cases hin : 0 ≤ ver ∧ ver < l.length
    · obtain ⟨h0, h1⟩ := hin
      obtain ⟨k, rfl⟩ := Int.eq_ofNat_of_zero_le h0
      have hlt : k < l.length := by omega
      obtain ⟨x, hx⟩ : ∃ x, l[k]? = some x := ⟨_, List.getElem?_eq_getElem hlt⟩
      have HF := Lib.hid (HGT.out rfl k rfl x hx)
      obtain ⟨b, off, ra, rc, wa, wc, rfl, x0, x1, x2, hst⟩ := HH.out.at_ hx
      have hxm := List.mem_of_getElem? hx
      obtain ⟨_, _, v1, v2, v3, v4, _, _⟩ := validS_facts (HV.out rfl x hxm)
      have HT : Hid (∀ w', Kept [] W w' → Calls Tryz.prog 55 #[.slice wa x.weights.length wc] w' fun e w2 => e = .returned (.int .i64 (sumW x.weights)) ∧ w' = w2) := fun w' kk => rpoints_any _ x.weights w' (hst.weights.kept kk) v3 (by omega)
      have HI' : Hid (∀ w, Calls Tryz.prog 54 #[.int .i64 (k : Int), .int .i64 0, .int .i64 ((l.length : Int) - 1)] w fun e w' => e = .returned (.bool true) ∧ w = w') := fun w => by
        have := HI.out w
        rwa [show (decide (0 ≤ (k : Int)) && decide ((k : Int) ≤ (l.length : Int) - 1)) = true by simp; omega] at this
      have X0 := Lib.hid (Kept.cellOf x0)
      have X1 := Lib.hid (Kept.cellOf x1)
      have X2 := Lib.hid (Kept.cellOf x2)
      clear hx hst hxm v3 x0 x1 x2 HI
      go_enter Tryz.func21, Tryz.ntmps21
      go_wp2_with fail
      have hW' : w.alloc (.cells #[.int .i64 k, qs, ps, .int .i64 most, rv, .int .i64 dare, .int .i64 quorum, .int .i64 jurors] 30) = W := HW.out
      rw [hW']
      clear hW'
      go_wp2_with (go_at_call 70; refine HC.out.mono ?_)
      rintro e w1 ⟨rfl, hk⟩
      have c0 := K0.out w1 hk
      have x0 := X0.out w1 hk
      have x1 := X1.out w1 hk
      have x2 := X2.out w1 hk
      go_upto_region 4 with (go_at_call 54; refine (HI'.out _).mono ?_; rintro e w' ⟨rfl, rfl⟩)
      obtain ⟨Y, hY⟩ : ∃ Y, w1.alloc (.cells #[.slice ra x.reasons.length rc, .int .i64 x.quorum, .slice wa x.weights.length wc] 46) = Y := ⟨_, rfl⟩
      have hkY : Kept [] w1 Y := hY ▸ (Kept.refl [] w1).alloc _
      have hbY : Blk Y w1.heap.size 46 #[.slice ra x.reasons.length rc, .int .i64 x.quorum, .slice wa x.weights.length wc] := hY ▸ Blk.new w1 _ _
      rw [hY]
      have y1 : Y.cell? ⟨w1.heap.size, 1, none⟩ = some (.int .i64 x.quorum) := hbY.cell 1
      have y2 : Y.cell? ⟨w1.heap.size, 2, none⟩ = some (.slice wa x.weights.length wc) := hbY.cell 2
      have KY := hk.trans hkY
      have c6 := K6.out Y KY
      have c7 := K7.out Y KY
      have HQ : Hid (∀ n, Calls Tryz.prog 55 #[.slice wa x.weights.length wc] (Y.drewN n) fun e w2 => e = .returned (.int .i64 (sumW x.weights)) ∧ Y.drewN n = w2) := fun n => HT.out _ (KY.trans ((Kept.refl _ _).drewN n))
      clear hY hbY hkY c0 x0 x1 x2 HT
      obtain ⟨S, hS⟩ : ∃ S, sumW x.weights = S := ⟨_, rfl⟩
      rw [hS] at HQ HF
      clear hS
      by_cases hq : quorum = x.quorum
      · have HF' : Hid (g = (jurors == S)) := by
          show g = _
          rw [HF.out, decide_eq_true hq, Bool.true_and, Bool.eq_iff_iff]; simp
        have e1 : (quorum == x.quorum) = true := by simpa using hq
        obtain ⟨t, ht⟩ : ∃ t, (jurors == S) = t := ⟨_, rfl⟩
        rw [ht] at HF'
        clear hq
        go_quiet ((go_at_call 55; exact quiet_eq (HQ.out _)))
        go_wp2_with fail
        go_ret
        exact ⟨by rw [HF'.out]; rfl, hkW.trans (KY.drewN _)⟩
      · have HF' : Hid (g = false) := by
          show g = _
          rw [HF.out, decide_eq_false hq, Bool.false_and]
        have e1 : (quorum == x.quorum) = false := by simpa using hq
        clear hq
        go_quiet (fail)
        go_wp2_with fail
        go_ret
        exact ⟨by rw [HF'.out]; rfl, hkW.trans (KY.drewN _)⟩
    · have hf : (decide (0 ≤ ver) && decide (ver ≤ (l.length : Int) - 1)) = false := by
        rw [Bool.eq_false_iff]
        intro h
        simp at h
        exact hin ⟨h.1, by omega⟩
      have HF := Lib.hid (HG.out (Or.inr hf))
      have HI' : Hid (∀ w, Calls Tryz.prog 54 #[.int .i64 ver, .int .i64 0, .int .i64 ((l.length : Int) - 1)] w fun e w' => e = .returned (.bool false) ∧ w = w') := fun w => by
        have := HI.out w
        rwa [hf] at this
      clear hf hin
      go_enter Tryz.func21, Tryz.ntmps21
      go_wp2_with fail
      have hW' : w.alloc (.cells #[.int .i64 ver, qs, ps, .int .i64 most, rv, .int .i64 dare, .int .i64 quorum, .int .i64 jurors] 30) = W := HW.out
      rw [hW']
      clear hW'
      go_wp2_with (go_at_call 70; refine HC.out.mono ?_)
      rintro e w1 ⟨rfl, hk⟩
      have c0 := K0.out w1 hk
      go_wp2_with (go_at_call 54; refine (HI'.out _).mono ?_; rintro e w' ⟨rfl, rfl⟩)
      go_ret
      exact ⟨by rw [HF.out]; rfl, hkW.trans hk⟩
end Go.Proofs.YtpcdfepndmconaaGreatDoor
namespace Go.Proofs.YtpcdfepndmconaaGreatDoor
open Go.RowKit

/-- a list of votes, as far as its bounds ask -/
structure VotesV (w : World) (v : Value) (l : List Vote) : Prop where
  row : ∃ cells, Row w 8 v l.length cells ∧ ∀ (i : Nat) (x : Vote), l[i]? = some x →
    ∃ ps n, cells[i * 8 + 4]? = some (.string ⟨x.reason.toArray⟩) ∧ cells[i * 8 + 5]? = some ps ∧ Row w 3 ps n (ints x.pts)

def fewVAt (x : Vote) : Bool := decide (x.pts.length ≤ 42) && decide (x.reason.length ≤ 30)
def fewV (l : List Vote) (m : Nat) : Bool := decide (l.length ≤ m) && l.all fewVAt
theorem fewV_no {l : List Vote} {m : Nat} {x : Vote} (h : x ∈ l) (hp : fewVAt x = false) : fewV l m = false := by unfold fewV; rw [all_no h hp]; simp

set_option maxRecDepth 100000 in
set_option maxHeartbeats 2000000 in
theorem fewVotes_any (v : Value) (l : List Vote) (m : Nat) (w : World) (h : VotesV w v l) (hm : m ≤ 100000000) (hs : ∀ x ∈ l, x.reason.length ≤ 9223372036854775807) :
    Calls Tryz.prog 8 #[v, .int .i64 (m : Int)] w fun e w' => e = .returned (.bool (fewV l m)) ∧ w = w' := by
  obtain ⟨cells, hrow, hcc⟩ := h.row
  obtain ⟨a, c, rfl, hl, _⟩ := hrow.form
  have HROW := Lib.hid hrow
  have HCC := Lib.hid hcc
  have HS := Lib.hid hs
  clear h hrow hcc hs
  go_enter Tryz.func8, Tryz.ntmps8
  go_wp2_with fail
  go_loop [5] (fun i => ∃ k : Nat, k ≤ l.length ∧ k ≤ m + 1 ∧ i = .int .i64 k ∧ (l.take k).all fewVAt = true) (fun i => l.length - (intOf i).toNat)
  case atStart => exact ⟨0, Nat.zero_le _, by omega, rfl, by simp⟩
  case round =>
    obtain ⟨k, hk, hkm, rfl, hall⟩ := hrel
    have HA := Lib.hid hall
    clear hall
    by_cases hlt : k < l.length
    · by_cases h18 : k ≤ m
      · obtain ⟨x, hx⟩ : ∃ x, l[k]? = some x := ⟨_, List.getElem?_eq_getElem hlt⟩
        obtain ⟨ps, n, g4, g5, hps⟩ := HCC.out k x hx
        obtain ⟨b, off, rfl, hc⟩ := HROW.out.at_ (by omega)
        obtain ⟨pa, pc, rfl, hpl, _⟩ := hps.form
        have x4 := hc _ _ g4
        have x5 := hc _ _ g5
        rw [← Nat.add_assoc] at x4 x5
        have hn3 : x.pts.length = n * 3 := by simpa [ints] using hps.1
        have hlen := HS.out x (List.mem_of_getElem? hx)
        have HX := Lib.hid hx
        have HM := Lib.hid (List.mem_of_getElem? hx)
        clear hc g4 g5 hps hx
        by_cases hp14 : n ≤ 14
        · by_cases hr30 : x.reason.length ≤ 30
          · have HT := Lib.hid (take_all HA.out HX.out (by unfold fewVAt; rw [hn3, decide_eq_true (by omega), decide_eq_true hr30]; rfl))
            clear hn3
            go_wp2_with fail
            go_round
            case rel => exact ⟨k + 1, by omega, by omega, by go_num, HT.out⟩
            case measure => simp [intOf]; omega
          · have HF := Lib.hid (fewV_no (m := m) HM.out (by unfold fewVAt; rw [decide_eq_false hr30]; simp))
            clear hn3
            go_wp2_with fail
            go_ret
            exact ⟨by rw [HF.out]; rfl, rfl⟩
        · have HF := Lib.hid (fewV_no (m := m) HM.out (by unfold fewVAt; rw [hn3, decide_eq_false (by omega)]; rfl))
          clear hn3
          go_wp2_with fail
          go_ret
          exact ⟨by rw [HF.out]; rfl, rfl⟩
      · have HF : Hid (fewV l m = false) := by show fewV l m = false; unfold fewV; rw [decide_eq_false (by omega)]; rfl
        go_wp2_with fail
        go_ret
        exact ⟨by rw [HF.out]; simp; omega, rfl⟩
    · obtain rfl : k = l.length := by omega
      rw [List.take_length] at HA
      go_wp2_with fail
      go_ret
      exact ⟨by unfold fewV; rw [HA.out]; simp, rfl⟩
end Go.Proofs.YtpcdfepndmconaaGreatDoor
