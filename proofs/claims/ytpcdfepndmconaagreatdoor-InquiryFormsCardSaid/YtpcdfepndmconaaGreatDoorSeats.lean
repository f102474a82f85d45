/- inquiry.Seats. -/
import Derived.Test.YtpcdfepndmconaaGreatDoorNum
import Derived.Test.YtpcdfepndmconaaGreatDoorStat
/- JOINED: Rnum Seats -/
/- A number out of a hash, as the reference makes it. -/
namespace Go.Proofs.YtpcdfepndmconaaGreatDoor
open Go.RowKit ShaP

theorem index_str (bs : List UInt8) (k : Nat) (hk : k < bs.length) (w : World) : (Instr.index 9 (.string ⟨bs.toArray⟩) (.int .i64 k)).run Tryz.prog w = .ok (.int .u8 ((bs.getD k 0).toNat : Int)) w := by
  rw [run_index_string _ _ _ _ _ Tryz.underlying9, dif_pos ⟨by omega, by show (k : Int) < (bs.length : Int); omega⟩]
  have : (⟨bs.toArray⟩ : ByteArray)[(k : Int).toNat]'(by show _ < bs.length; omega) = bs.getD k 0 := by
    show bs.toArray[(k : Int).toNat]'_ = _
    simp [List.getD, hk]
  rw [this]
set_option maxRecDepth 100000 in
set_option maxHeartbeats 1600000 in
theorem rnumber_any (N : Nat) (s : List UInt8) (w : World) (h1 : 1 ≤ N) (h2 : N < 2305843009213693952) (hl : s.length ≤ 100000000) :
    Calls Tryz.prog 188 #[.string ⟨s.toArray⟩, .int .i64 N] w fun e w' => e = .returned (.int .i64 (numN N s : Nat)) ∧ Kept [] w w' := by
  have V := Lib.hid (rvalid_any N w h1 h2)
  have HS := Lib.hid (rsha_any s w hl)
  go_enter Tryz.func188, Tryz.ntmps188
  go_upto_region 3 with (go_at_call 157; refine V.out.mono ?_; rintro e w0 ⟨rfl, rfl⟩)
  go_wp2_with (go_at_call 206; refine HS.out.mono ?_)
  rintro e w1 ⟨rfl, k1⟩
  have hL := sha_length s
  obtain ⟨bs, hbs⟩ : ∃ b, sha s = b := ⟨_, rfl⟩
  rw [hbs] at hL ⊢
  have HB := Lib.hid hbs
  have HL := Lib.hid hL
  have IK : Hid (∀ k, k < bs.length → ∀ w, (Instr.index 9 (.string ⟨bs.toArray⟩) (.int .i64 k)).run Tryz.prog w = .ok (.int .u8 ((bs.getD k 0).toNat : Int)) w) := fun k hk w => index_str bs k hk w
  obtain ⟨n, hn⟩ : ∃ n, bs.length = n := ⟨_, rfl⟩
  have hn32 : n ≤ 32 := by have := HL.out; omega
  have hsz : (⟨bs.toArray⟩ : ByteArray).size = n := hn
  rw [hn] at HL IK
  clear hbs hL
  go_upto_region 6 with (fail)
  go_loopw [6, 7] (fun v5 v15 wr => ∃ k : Nat, k ≤ n ∧ v15 = .int .i64 k ∧ v5 = .int .i64 (numK N bs k : Nat) ∧ Kept [] w1 wr) (fun _ v15 _ => n - (intOf v15).toNat)
  case atStart => exact ⟨0, by omega, rfl, rfl, Kept.refl _ _⟩
  case round =>
    obtain ⟨k, hk, rfl, rfl, hkr⟩ := hrel
    by_cases hlt : k < n
    · have xk := IK.out k hlt
      have hs : numK N bs (k + 1) = addN N ((mulN N (numK N bs k : Nat) 256 : Nat) : Int) ((bs.getD k 0).toNat : Int) := rfl
      have l0 := numK_lt N bs k h1
      have l1 := mulN_lt N (numK N bs k : Nat) 256 h1
      have hc := (bs.getD k 0).toNat_lt
      obtain ⟨cb, hcb⟩ : ∃ x, (bs.getD k 0).toNat = x := ⟨_, rfl⟩
      rw [hcb] at xk hs hc
      obtain ⟨A, hA⟩ : ∃ x, numK N bs k = x := ⟨_, rfl⟩
      rw [hA] at l0 l1 hs ⊢
      have HM : Hid (∀ w, Calls Tryz.prog 82 #[.int .i64 N, .int .i64 A, .int .i64 256] w fun e w' => e = .returned (.int .i64 ((mulN N A 256 : Nat) : Int)) ∧ w = w') := fun w => rmul_any N A 256 w h1 h2 (by constructor <;> omega) (by constructor <;> omega)
      obtain ⟨M, hM⟩ : ∃ x, mulN N A 256 = x := ⟨_, rfl⟩
      rw [hM] at l1 hs HM
      have HA : Hid (∀ w, Calls Tryz.prog 140 #[.int .i64 N, .int .i64 M, .int .i64 cb] w fun e w' => e = .returned (.int .i64 ((addN N M cb : Nat) : Int)) ∧ w = w') := fun w => radd_any N M cb w h1 h2 (by constructor <;> omega) (by constructor <;> omega)
      rw [← hs] at HA
      have hd : decide ((k : Int) < (n : Int)) = true := by simp; omega
      have iw : IntKind.i64.wrap (cb : Int) = (cb : Int) := by rw [IntKind.wrap_i64]; omega
      have HLT := Lib.hid hlt
      obtain ⟨S, hS⟩ : ∃ x, numK N bs (k + 1) = x := ⟨_, rfl⟩
      rw [hS] at HA
      have HSS := Lib.hid hS
      clear hcb hs hA hM hS hc
      go_upto_region 8 with (fail)
      go_region_held3 (fun w' => Kept [] wr w') (first | assumption | exact (Kept.refl _ _).drew | exact Kept.alloc (by assumption) _)
        (first
          | (go_at_call 82; with_reducible refine (kept_from (W := wr) (by assumption) ((HM.out _).mono fun _ _ h => ⟨h.1, h.2 ▸ Kept.refl _ _⟩)).mono ?_; rintro e w3 ⟨rfl, hk3⟩)
          | (go_at_call 140; with_reducible refine (kept_from (W := wr) (by assumption) ((HA.out _).mono fun _ _ h => ⟨h.1, h.2 ▸ Kept.refl _ _⟩)).mono ?_; rintro e w4 ⟨rfl, hk4⟩))
      all_goals go_wp2_with fail
      all_goals (
        go_roundw
        case rel => exact ⟨k + 1, by omega, by go_num, by rw [HSS.out], hkr.trans hk4⟩
        case measure => simp [intOf]; omega)
    · obtain rfl : k = n := by omega
      have hd : decide ((k : Int) < (k : Int)) = false := by simp
      go_wp2_with fail
      go_ret
      refine ⟨?_, k1.trans hkr⟩
      unfold numN
      rw [HB.out, HL.out]
      rfl
end Go.Proofs.YtpcdfepndmconaaGreatDoor
namespace Go.Proofs.YtpcdfepndmconaaGreatDoor
open Go.RowKit

def countUp (first : Int) (m : Nat) : List Int := (List.range m).map fun (i : Nat) => first + (i : Int)
theorem countUp_succ (first : Int) (m : Nat) : countUp first (m + 1) = countUp first m ++ [first + (m : Int)] := by simp [countUp, List.range_succ]
theorem countUp_length (first : Int) (m : Nat) : (countUp first m).length = m := by simp [countUp]

def seats (x : Statute) (j : Int) : List Int :=
  if validS x = true ∧ 0 ≤ j ∧ j < x.weights.length then countUp (sumW (x.weights.take j.toNat) + 1) (x.weights.getD j.toNat 0).toNat else []

/-- a new list of ints that a call gives -/
def NewInts (l : List Int) (w : World) (e : Ending) (w' : World) : Prop :=
  ∃ v, e = .returned v ∧ w'.ownsRow w.heap.size 3 1 v l.length (ints l) ∧ Kept [] w w'

set_option maxRecDepth 100000 in
set_option maxHeartbeats 1000000 in
theorem seats_no (v : Value) (x : Statute) (j : Int) (w : World) (h : StatV w v x) (hs : ∀ r ∈ x.reasons, r.length ≤ 100000000)
    (hno : ¬ (validS x = true ∧ 0 ≤ j ∧ j < x.weights.length)) :
    Calls Tryz.prog 12 #[v, .int .i64 j] w (NewInts [] w) := by
  obtain ⟨rs, ws, rfl, hr, hw⟩ := h.form
  obtain ⟨wa, wc, rfl, hlw, hlc⟩ := hw.form
  obtain ⟨ra, rc, rfl, hlr, _⟩ := hr.form
  have hW : StatV (w.alloc (.cells #[.slice ra x.reasons.length rc, .int .i64 x.quorum, .slice wa x.weights.length wc] 46)) (.agg #[.slice ra x.reasons.length rc, .int .i64 x.quorum, .slice wa x.weights.length wc]) x := h.kept ((Kept.refl _ _).alloc _)
  have hb := Blk.new w 46 #[.slice ra x.reasons.length rc, .int .i64 x.quorum, .slice wa x.weights.length wc]
  have HC := Lib.hid (valid_any _ x _ hW hs)
  clear h hs hr hw hW
  obtain ⟨m, hm⟩ : ∃ m, x.weights.length = m := ⟨_, rfl⟩
  rw [hm] at hno hlw hlc HC hb ⊢
  clear hm
  cases hv : validS x
  · rw [hv] at HC
    clear hno
    go_enter Tryz.func12, Tryz.ntmps12
    go_wp2_with (go_at_call 9; refine HC.out.mono ?_)
    rintro e w1 ⟨rfl, hk⟩
    go_wp2_with fail
    go_ret
    exact ⟨_, rfl, World.ownsRow_nil _ _ _ _, ((Kept.refl _ _).alloc _).trans hk⟩
  · rw [hv] at HC
    by_cases hj : j < 0
    · clear hno
      go_enter Tryz.func12, Tryz.ntmps12
      go_wp2_with (go_at_call 9; refine HC.out.mono ?_)
      rintro e w1 ⟨rfl, hk⟩
      go_wp2_with fail
      go_ret
      exact ⟨_, rfl, World.ownsRow_nil _ _ _ _, ((Kept.refl _ _).alloc _).trans hk⟩
    · have hge : (m : Int) ≤ j := by
        rcases Int.lt_or_le j m with h | h
        · exact absurd ⟨hv, by omega, h⟩ hno
        · exact h
      clear hno
      go_enter Tryz.func12, Tryz.ntmps12
      go_wp2_with (go_at_call 9; refine HC.out.mono ?_)
      rintro e w1 rfl hk
      have e2 : w1.cell? ⟨w.heap.size, 2, none⟩ = some (.slice wa m wc) := (hb.kept hk (by simp)).cell 2
      go_wp2_with fail
      go_ret
      exact ⟨_, rfl, World.ownsRow_nil _ _ _ _, ((Kept.refl _ _).alloc _).trans hk⟩

theorem row_take {w : World} {b off c n k : Nat} {l : List Int} (h : ∀ i u, (ints l)[i]? = some u → w.cell? ⟨b, off + i, none⟩ = some u) (hn : l.length = n) (hk : k ≤ n) (hb : n ≤ 9223372036854775807) (hc : n ≤ c) :
    Row w 1 (.slice (some ⟨b, off, none⟩) k c) (l.take k).length (ints (l.take k)) := by
  have e : (l.take k).length = k := by rw [List.length_take]; omega
  refine ⟨by simp [ints], by omega, _, _, by rw [e], by omega, fun _ => ⟨b, off, rfl, fun i u hu => h i u ?_⟩⟩
  simp only [ints, List.map_take] at hu ⊢
  rw [List.getElem?_take] at hu
  split at hu
  · exact hu
  · cases hu

/-- the loop's relation -/
def SeatsRel (W : World) (first : Int) (m : Nat) (v i : Value) (wr : World) : Prop :=
  ∃ k : Nat, k ≤ m ∧ i = .int .i64 (first + k) ∧ wr.ownsRow W.heap.size 3 1 v k (ints (countUp first k)) ∧ Kept [] W wr

set_option maxRecDepth 100000 in
set_option maxHeartbeats 1000000 in
theorem seats_yes (v : Value) (x : Statute) (j : Nat) (w : World) (h : StatV w v x) (hs : ∀ r ∈ x.reasons, r.length ≤ 100000000)
    (hv : validS x = true) (hj : j < x.weights.length) :
    Calls Tryz.prog 12 #[v, .int .i64 (j : Int)] w (NewInts (countUp (sumW (x.weights.take j) + 1) (x.weights[j]).toNat) w) := by
  obtain ⟨_, _, v1, v2, v3, v4, _, _⟩ := validS_facts hv
  obtain ⟨rs, ws, rfl, hr, hw⟩ := h.form
  obtain ⟨wa, wc, rfl, hlw, hlc⟩ := hw.form
  obtain ⟨ra, rc, rfl, hlr, _⟩ := hr.form
  obtain ⟨W, hWq⟩ : ∃ W, w.alloc (.cells #[.slice ra x.reasons.length rc, .int .i64 x.quorum, .slice wa x.weights.length wc] 46) = W := ⟨_, rfl⟩
  have hkW : Kept [] w W := hWq ▸ (Kept.refl _ _).alloc _
  have hb : Blk W w.heap.size 46 #[.slice ra x.reasons.length rc, .int .i64 x.quorum, .slice wa x.weights.length wc] := hWq ▸ Blk.new w _ _
  have hW := h.kept hkW
  have HC := Lib.hid (valid_any _ x _ hW hs)
  rw [hv] at HC
  obtain ⟨wb, wo, rfl, hwc⟩ := (hw.kept hkW).at_ (by omega)
  have hsz : W.heap.size = w.heap.size + 1 := by rw [← hWq]; simp
  have hx : 0 ≤ x.weights[j] ∧ x.weights[j] ≤ 12 := v3 _ (List.getElem_mem hj)
  obtain ⟨q, hq⟩ : ∃ q : Nat, x.weights[j] = q := ⟨(x.weights[j]).toNat, by omega⟩
  have HT : ∀ w1, Kept [] W w1 → Calls Tryz.prog 52 #[.slice (some ⟨wb, wo, none⟩) j wc] w1 fun e w' => e = .returned (.int .i64 (sumW (x.weights.take j))) ∧ w1 = w' := by
    intro w1 k1
    have := total_any _ (x.weights.take j) w1 (row_take (c := wc) (fun i u hu => Kept.cellOf (hwc i u hu) w1 k1) rfl (by omega : j ≤ x.weights.length) hlw hlc) (fun n hn => v3 n (List.mem_of_mem_take hn)) (by rw [List.length_take]; omega)
    exact this
  have hsb := sumW_bound (x.weights.take j) (fun n hn => v3 n (List.mem_of_mem_take hn))
  have htl : (x.weights.take j).length ≤ 12 := by rw [List.length_take]; omega
  obtain ⟨S, hS⟩ : ∃ S, sumW (x.weights.take j) = S := ⟨_, rfl⟩
  rw [hS] at HT hsb ⊢
  rw [hq, Int.toNat_natCast]
  have HT' := Lib.hid HT
  have kj : ∀ w', Kept [] W w' → w'.cell? ⟨wb, wo + j, none⟩ = some (.int .i64 q) := by
    have := Kept.cellOf (hwc j _ (ints_get hj))
    rw [hq] at this; exact this
  have k2 : ∀ w', Kept [] W w' → w'.cell? ⟨w.heap.size, 2, none⟩ = some (.slice (some ⟨wb, wo, none⟩) x.weights.length wc) := Kept.cellOf (hb.cell 2)
  have KJ := Lib.hid kj
  have K2 := Lib.hid k2
  have hq12 : q ≤ 12 := by omega
  have hS144 : S ≤ 144 := by omega
  have hS0 : 0 ≤ S := hsb.1
  obtain ⟨m, hm⟩ : ∃ m, x.weights.length = m := ⟨_, rfl⟩
  rw [hm] at hj hlw hlc HC K2 hWq v2 ⊢
  have HW := Lib.hid hWq
  have HSZ := Lib.hid hsz
  obtain ⟨i0, hi, hz0, hz1, hz2⟩ := info_parts infoInt
  clear hwc HT hW hr hw h hs hq hS hv v3 v4 hx hsb htl kj k2 hb hWq hsz hm
  go_enter Tryz.func12, Tryz.ntmps12
  go_wp2_with fail
  have hW' : w.alloc (.cells #[.slice ra x.reasons.length rc, .int .i64 x.quorum, .slice (some ⟨wb, wo, none⟩) m wc] 46) = W := HW.out
  rw [hW']
  clear hW'
  go_wp2_with (go_at_call 9; refine HC.out.mono ?_)
  rintro e w1 ⟨rfl, hk⟩
  have e2 := K2.out w1 hk
  go_wp2_with (go_at_call 52; refine (HT'.out w1 hk).mono ?_; rintro e w' ⟨rfl, rfl⟩)
  go_loopw [6, 7] (fun v i wr => SeatsRel W (S + 1) q v i wr) (fun _ i _ => (S + 1 + q - intOf i).toNat)
  case atStart => exact ⟨0, Nat.zero_le _, by simp, by simpa [countUp, ints] using World.ownsRow_nil _ _ _ _, hk⟩
  case round =>
    obtain ⟨k, hkq, rfl, hown, hkr⟩ := hrel
    have e2 := K2.out wr hkr
    have ej := KJ.out wr hkr
    by_cases hlt : k < q
    · go_wp2_with (at_builtin; refine wpList_append_own _ rfl _ _ 24 rfl W.heap.size 3 i0 (.int .i64 0) 1 8 Tryz.underlying24 hi hz0 hz1 hz2 rfl (by decide) _ _ _ rfl (hown.alloc _) ⟨wr.heap.size, 0, none⟩ 1 1 [.int .i64 (S + 1 + k)] rfl rfl ?c1 ?c2 ?c3 ?c4 ?c5 ?_)
      case c1 => exact cell_one_new _ _ _
      case c2 => intro u hu; rw [List.mem_singleton] at hu; subst hu; rfl
      case c3 => unfold maxLen; omega
      case c4 => omega
      case c5 => have := hkr.size; simp; omega
      intro v' w3 hown3 hg3 _
      have hk3 : Kept [] W w3 := (hkr.alloc _).grown hg3 (fun k hk => Or.inr (hown.lt k hk).1)
      have e3 : ints (countUp (S + 1) k) ++ [.int .i64 (S + 1 + k)] = ints (countUp (S + 1) (k + 1)) := by rw [countUp_succ]; simp [ints]
      rw [e3] at hown3
      clear e3 hg3 hown ej e2
      go_wp2
      go_roundw
      case rel => exact ⟨k + 1, by omega, by go_num, hown3, hk3⟩
      case measure => simp [intOf]; omega
    · obtain rfl : k = q := by omega
      obtain ⟨va, vc, rfl⟩ := own_form hown
      go_wp2_with fail
      go_ret
      refine ⟨_, rfl, ?_, hkW.trans hkr⟩
      rw [countUp_length]
      exact own_base hown (by rw [HSZ.out]; omega)

theorem seats_any (v : Value) (x : Statute) (j : Int) (w : World) (h : StatV w v x) (hs : ∀ r ∈ x.reasons, r.length ≤ 100000000) :
    Calls Tryz.prog 12 #[v, .int .i64 j] w (NewInts (seats x j) w) := by
  unfold seats
  split
  · next hy =>
    obtain ⟨hv, h0, h1⟩ := hy
    obtain ⟨k, rfl⟩ := Int.eq_ofNat_of_zero_le h0
    have hk : k < x.weights.length := by omega
    rw [Int.toNat_natCast, show x.weights.getD k 0 = x.weights[k] by simp [hk]]
    exact seats_yes v x k w h hs hv hk
  · next hno => exact seats_no v x j w h hs hno
end Go.Proofs.YtpcdfepndmconaaGreatDoor
