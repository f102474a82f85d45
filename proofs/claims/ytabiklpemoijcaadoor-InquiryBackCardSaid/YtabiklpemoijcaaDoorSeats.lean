/- inquiry.Seats. -/
import Derived.Test.YtabiklpemoijcaaDoorStat
namespace Go.Proofs.YtabiklpemoijcaaDoor
open Go.RowKit

def countUp (first : Int) (m : Nat) : List Int := (List.range m).map fun (i : Nat) => first + (i : Int)
theorem countUp_succ (first : Int) (m : Nat) : countUp first (m + 1) = countUp first m ++ [first + (m : Int)] := by simp [countUp, List.range_succ]
theorem countUp_length (first : Int) (m : Nat) : (countUp first m).length = m := by simp [countUp]

def seats (x : Statute) (j : Int) : List Int :=
  if validS x = true ∧ 0 ≤ j ∧ j < x.weights.length then countUp (sumW (x.weights.take j.toNat) + 1) (x.weights.getD j.toNat 0).toNat else []

/-- a new list of ints that a call gives -/
def NewInts (l : List Int) (w : World) (e : Ending) (w' : World) : Prop :=
  ∃ v, e = .returned v ∧ w'.ownsRow w.heap.size 3 1 v l.length (ints l) ∧ Kept [] w w'

set_option maxRecDepth 100000 in
set_option maxHeartbeats 1000000 in
theorem seats_no (v : Value) (x : Statute) (j : Int) (w : World) (h : StatV w v x) (hs : ∀ r ∈ x.reasons, r.length ≤ 1000000)
    (hno : ¬ (validS x = true ∧ 0 ≤ j ∧ j < x.weights.length)) :
    Calls Tryd.prog 30 #[v, .int .i64 j] w (NewInts [] w) := by
  obtain ⟨rs, ws, rfl, hr, hw⟩ := h.form
  obtain ⟨wa, wc, rfl, hlw, hlc⟩ := hw.form
  obtain ⟨ra, rc, rfl, hlr, _⟩ := hr.form
  have hW : StatV (w.alloc (.cells #[.slice ra x.reasons.length rc, .int .i64 x.quorum, .slice wa x.weights.length wc] 60)) (.agg #[.slice ra x.reasons.length rc, .int .i64 x.quorum, .slice wa x.weights.length wc]) x := h.kept ((Kept.refl _ _).alloc _)
  have hb := Blk.new w 60 #[.slice ra x.reasons.length rc, .int .i64 x.quorum, .slice wa x.weights.length wc]
  have HC := Lib.hid (valid_any _ x _ hW hs)
  clear h hs hr hw hW
  obtain ⟨m, hm⟩ : ∃ m, x.weights.length = m := ⟨_, rfl⟩
  rw [hm] at hno hlw hlc HC hb ⊢
  clear hm
  cases hv : validS x
  · rw [hv] at HC
    clear hno
    go_enter Tryd.func30, Tryd.ntmps30
    go_wp2_with (go_at_call 29; refine HC.out.mono ?_)
    rintro e w1 ⟨rfl, hk⟩
    go_wp2_with fail
    go_ret
    exact ⟨_, rfl, World.ownsRow_nil _ _ _ _, ((Kept.refl _ _).alloc _).trans hk⟩
  · rw [hv] at HC
    by_cases hj : j < 0
    · clear hno
      go_enter Tryd.func30, Tryd.ntmps30
      go_wp2_with (go_at_call 29; refine HC.out.mono ?_)
      rintro e w1 ⟨rfl, hk⟩
      go_wp2_with fail
      go_ret
      exact ⟨_, rfl, World.ownsRow_nil _ _ _ _, ((Kept.refl _ _).alloc _).trans hk⟩
    · have hge : (m : Int) ≤ j := by
        rcases Int.lt_or_le j m with h | h
        · exact absurd ⟨hv, by omega, h⟩ hno
        · exact h
      clear hno
      go_enter Tryd.func30, Tryd.ntmps30
      go_wp2_with (go_at_call 29; refine HC.out.mono ?_)
      rintro e w1 rfl hk
      have e2 : w1.cell? ⟨w.heap.size, 2, none⟩ = some (.slice wa m wc) := (hb.kept hk (by simp)).cell 2
      go_wp2_with fail
      go_ret
      exact ⟨_, rfl, World.ownsRow_nil _ _ _ _, ((Kept.refl _ _).alloc _).trans hk⟩

theorem row_take {w : World} {b off c n k : Nat} {l : List Int} (h : ∀ i u, (ints l)[i]? = some u → w.cell? ⟨b, off + i, none⟩ = some u) (hn : l.length = n) (hk : k ≤ n) (hb : n ≤ 9223372036854775807) (hc : n ≤ c) :
    Row w 1 (.slice (some ⟨b, off, none⟩) k c) (l.take k).length (ints (l.take k)) := by
  have e : (l.take k).length = k := by rw [List.length_take]; omega
  refine ⟨by simp [ints], by omega, _, _, by rw [e], by omega, fun _ => ⟨b, off, rfl, fun i u hu => h i u ?_⟩⟩
  simp only [ints, List.map_take] at hu ⊢
  rw [List.getElem?_take] at hu
  split at hu
  · exact hu
  · cases hu

/-- the loop's relation -/
def SeatsRel (W : World) (first : Int) (m : Nat) (v i : Value) (wr : World) : Prop :=
  ∃ k : Nat, k ≤ m ∧ i = .int .i64 (first + k) ∧ wr.ownsRow W.heap.size 3 1 v k (ints (countUp first k)) ∧ Kept [] W wr

set_option maxRecDepth 100000 in
set_option maxHeartbeats 1000000 in
theorem seats_yes (v : Value) (x : Statute) (j : Nat) (w : World) (h : StatV w v x) (hs : ∀ r ∈ x.reasons, r.length ≤ 1000000)
    (hv : validS x = true) (hj : j < x.weights.length) :
    Calls Tryd.prog 30 #[v, .int .i64 (j : Int)] w (NewInts (countUp (sumW (x.weights.take j) + 1) (x.weights[j]).toNat) w) := by
  obtain ⟨_, _, v1, v2, v3, v4, _, _⟩ := validS_facts hv
  obtain ⟨rs, ws, rfl, hr, hw⟩ := h.form
  obtain ⟨wa, wc, rfl, hlw, hlc⟩ := hw.form
  obtain ⟨ra, rc, rfl, hlr, _⟩ := hr.form
  obtain ⟨W, hWq⟩ : ∃ W, w.alloc (.cells #[.slice ra x.reasons.length rc, .int .i64 x.quorum, .slice wa x.weights.length wc] 60) = W := ⟨_, rfl⟩
  have hkW : Kept [] w W := hWq ▸ (Kept.refl _ _).alloc _
  have hb : Blk W w.heap.size 60 #[.slice ra x.reasons.length rc, .int .i64 x.quorum, .slice wa x.weights.length wc] := hWq ▸ Blk.new w _ _
  have hW := h.kept hkW
  have HC := Lib.hid (valid_any _ x _ hW hs)
  rw [hv] at HC
  obtain ⟨wb, wo, rfl, hwc⟩ := (hw.kept hkW).at_ (by omega)
  have hsz : W.heap.size = w.heap.size + 1 := by rw [← hWq]; simp
  have hx : 0 ≤ x.weights[j] ∧ x.weights[j] ≤ 12 := v3 _ (List.getElem_mem hj)
  obtain ⟨q, hq⟩ : ∃ q : Nat, x.weights[j] = q := ⟨(x.weights[j]).toNat, by omega⟩
  have HT : ∀ w1, Kept [] W w1 → Calls Tryd.prog 61 #[.slice (some ⟨wb, wo, none⟩) j wc] w1 fun e w' => e = .returned (.int .i64 (sumW (x.weights.take j))) ∧ w1 = w' := by
    intro w1 k1
    have := total_any _ (x.weights.take j) w1 (row_take (c := wc) (fun i u hu => Kept.cellOf (hwc i u hu) w1 k1) rfl (by omega : j ≤ x.weights.length) hlw hlc) (fun n hn => v3 n (List.mem_of_mem_take hn)) (by rw [List.length_take]; omega)
    exact this
  have hsb := sumW_bound (x.weights.take j) (fun n hn => v3 n (List.mem_of_mem_take hn))
  have htl : (x.weights.take j).length ≤ 12 := by rw [List.length_take]; omega
  obtain ⟨S, hS⟩ : ∃ S, sumW (x.weights.take j) = S := ⟨_, rfl⟩
  rw [hS] at HT hsb ⊢
  rw [hq, Int.toNat_natCast]
  have HT' := Lib.hid HT
  have kj : ∀ w', Kept [] W w' → w'.cell? ⟨wb, wo + j, none⟩ = some (.int .i64 q) := by
    have := Kept.cellOf (hwc j _ (ints_get hj))
    rw [hq] at this; exact this
  have k2 : ∀ w', Kept [] W w' → w'.cell? ⟨w.heap.size, 2, none⟩ = some (.slice (some ⟨wb, wo, none⟩) x.weights.length wc) := Kept.cellOf (hb.cell 2)
  have KJ := Lib.hid kj
  have K2 := Lib.hid k2
  have hq12 : q ≤ 12 := by omega
  have hS144 : S ≤ 144 := by omega
  have hS0 : 0 ≤ S := hsb.1
  obtain ⟨m, hm⟩ : ∃ m, x.weights.length = m := ⟨_, rfl⟩
  rw [hm] at hj hlw hlc HC K2 hWq v2 ⊢
  have HW := Lib.hid hWq
  have HSZ := Lib.hid hsz
  obtain ⟨i0, hi, hz0, hz1, hz2⟩ := info_parts infoInt
  clear hwc HT hW hr hw h hs hq hS hv v3 v4 hx hsb htl kj k2 hb hWq hsz hm
  go_enter Tryd.func30, Tryd.ntmps30
  go_wp2_with fail
  have hW' : w.alloc (.cells #[.slice ra x.reasons.length rc, .int .i64 x.quorum, .slice (some ⟨wb, wo, none⟩) m wc] 60) = W := HW.out
  rw [hW']
  clear hW'
  go_wp2_with (go_at_call 29; refine HC.out.mono ?_)
  rintro e w1 ⟨rfl, hk⟩
  have e2 := K2.out w1 hk
  go_wp2_with (go_at_call 61; refine (HT'.out w1 hk).mono ?_; rintro e w' ⟨rfl, rfl⟩)
  go_loopw [6, 7] (fun v i wr => SeatsRel W (S + 1) q v i wr) (fun _ i _ => (S + 1 + q - intOf i).toNat)
  case atStart => exact ⟨0, Nat.zero_le _, by simp, by simpa [countUp, ints] using World.ownsRow_nil _ _ _ _, hk⟩
  case round =>
    obtain ⟨k, hkq, rfl, hown, hkr⟩ := hrel
    have e2 := K2.out wr hkr
    have ej := KJ.out wr hkr
    by_cases hlt : k < q
    · go_wp2_with (at_builtin; refine wpList_append_own _ rfl _ _ 24 rfl W.heap.size 3 i0 (.int .i64 0) 1 8 Tryd.underlying24 hi hz0 hz1 hz2 rfl (by decide) _ _ _ rfl (hown.alloc _) ⟨wr.heap.size, 0, none⟩ 1 1 [.int .i64 (S + 1 + k)] rfl rfl ?c1 ?c2 ?c3 ?c4 ?c5 ?_)
      case c1 => exact cell_one_new _ _ _
      case c2 => intro u hu; rw [List.mem_singleton] at hu; subst hu; rfl
      case c3 => unfold maxLen; omega
      case c4 => omega
      case c5 => have := hkr.size; simp; omega
      intro v' w3 hown3 hg3 _
      have hk3 : Kept [] W w3 := (hkr.alloc _).grown hg3 (fun k hk => Or.inr (hown.lt k hk).1)
      have e3 : ints (countUp (S + 1) k) ++ [.int .i64 (S + 1 + k)] = ints (countUp (S + 1) (k + 1)) := by rw [countUp_succ]; simp [ints]
      rw [e3] at hown3
      clear e3 hg3 hown ej e2
      go_wp2
      go_roundw
      case rel => exact ⟨k + 1, by omega, by go_num, hown3, hk3⟩
      case measure => simp [intOf]; omega
    · obtain rfl : k = q := by omega
      obtain ⟨va, vc, rfl⟩ := own_form hown
      go_wp2_with fail
      go_ret
      refine ⟨_, rfl, ?_, hkW.trans hkr⟩
      rw [countUp_length]
      exact own_base hown (by rw [HSZ.out]; omega)

theorem seats_any (v : Value) (x : Statute) (j : Int) (w : World) (h : StatV w v x) (hs : ∀ r ∈ x.reasons, r.length ≤ 1000000) :
    Calls Tryd.prog 30 #[v, .int .i64 j] w (NewInts (seats x j) w) := by
  unfold seats
  split
  · next hy =>
    obtain ⟨hv, h0, h1⟩ := hy
    obtain ⟨k, rfl⟩ := Int.eq_ofNat_of_zero_le h0
    have hk : k < x.weights.length := by omega
    rw [Int.toNat_natCast, show x.weights.getD k 0 = x.weights[k] by simp [hk]]
    exact seats_yes v x k w h hs hv hk
  · next hno => exact seats_no v x j w h hs hno
end Go.Proofs.YtabiklpemoijcaaDoor
