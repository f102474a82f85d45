/- A ticket's public number: desk.nums, desk.power, generated, open, Public. -/
import Derived.Test.YtcidfldeiklcjaaGreatDoorBds
import Derived.Test.YtcidfldeiklcjaaGreatDoorShaP
import Derived.Test.YtcidfldeiklcjaaGreatDoorDeS
import Derived.Test.YtcidfldeiklcjaaGreatDoorApp
/- JOINED: Sbd Pub -/
/- Bounds that are equal compare as equal: SameBounds. -/
namespace Go.Proofs.YtcidfldeiklcjaaGreatDoor
open Go.RowKit Tm

set_option maxRecDepth 100000 in
set_option maxHeartbeats 2000000 in
theorem sameBounds_eq (va vb : Value) (l : List (Int × Int)) (w : World) (ha : RowOf BndR 2 w va l) (hb : RowOf BndR 2 w vb l) :
    Calls Tryz.prog 14 #[va, vb] w fun e w' => e = .returned (.bool true) ∧ Kept [] w w' := by
  obtain ⟨aa, ca, rfl, hla, _⟩ := RowOf.form ha
  obtain ⟨ab, cb, rfl, hlb, _⟩ := RowOf.form hb
  have HA := Lib.hid ha
  have HB := Lib.hid hb
  have hlq : ((l.length : Int) != (l.length : Int)) = false := by simp
  clear ha hb
  go_enter Tryz.func14, Tryz.ntmps14
  go_wp2_with fail
  go_loopw [5] (fun i wr => ∃ k : Nat, k ≤ l.length ∧ i = .int .i64 k ∧ Kept [] w wr) (fun i _ => l.length - (intOf i).toNat)
  case atStart => exact ⟨0, Nat.zero_le _, rfl, Kept.refl _ _⟩
  case round =>
    obtain ⟨k, hk, rfl, hkr⟩ := hrel
    by_cases hlt : k < l.length
    · obtain ⟨b1, o1, rfl, hc1⟩ := HA.out.at_ (by omega)
      obtain ⟨b2, o2, rfl, hc2⟩ := HB.out.at_ (by omega)
      obtain ⟨cs1, hm1, hr1, hx1⟩ := hc1 k _ (List.getElem?_eq_getElem hlt)
      obtain ⟨cs2, hm2, hr2, hx2⟩ := hc2 k _ (List.getElem?_eq_getElem hlt)
      obtain ⟨x, hx⟩ : ∃ x, l[k] = x := ⟨_, rfl⟩
      obtain ⟨x1, x2⟩ := x
      rw [hx] at hr1 hr2
      unfold BndR at hr1 hr2
      subst hr1 hr2
      have p0 := Kept.cellOf (hx1 0 (.int .i64 x1) (by omega) rfl) _ hkr
      have p1 := Kept.cellOf (hx1 1 (.int .i64 x2) (by omega) rfl) _ hkr
      have q0 := Kept.cellOf (hx2 0 (.int .i64 x1) (by omega) rfl) _ hkr
      have q1 := Kept.cellOf (hx2 1 (.int .i64 x2) (by omega) rfl) _ hkr
      rw [Nat.add_zero] at p0 q0
      rw [← Nat.add_assoc] at p1 q1
      have HK := Lib.hid hkr
      clear hc1 hc2 hx1 hx2 hx hkr hm1 hm2
      go_wp2_with fail
      go_quiet (fail)
      go_wp2_with fail
      go_roundw
      case rel => exact ⟨k + 1, by omega, by go_num, HK.out.drewN _⟩
      case measure => simp [intOf]; omega
    · obtain rfl : k = l.length := by omega
      go_wp2_with fail
      go_ret
      exact ⟨rfl, hkr⟩
end Go.Proofs.YtcidfldeiklcjaaGreatDoor
namespace Go.Proofs.YtcidfldeiklcjaaGreatDoor
open Go.RowKit

def numB (s : Stp) (lo x : Int) : Bool := decide (lo ≤ x) && decide (x < s.Q)
theorem num_of_not {p : Int → Bool} {l : List Int} {k : Nat} (h : k < l.length) (hp : p l[k] = false) : l.all p = false := by
  rw [List.all_eq_false]
  exact ⟨l[k], List.getElem_mem h, by simp [hp]⟩

set_option maxRecDepth 100000 in
set_option maxHeartbeats 400000 in
theorem clo_num (s : Stp) (x lo : Int) (g b : Nat) (v : Value) (w : World) (hb : Blk w b 93 (stpA s v)) (hg : Blk w g 3 #[.int .i64 lo]) :
    Calls Tryz.prog 79 #[.int .i64 x, .pointer (some ⟨g, 0, none⟩), .pointer (some ⟨b, 0, none⟩)] w fun e w' => e = .returned (.bool (!numB s lo x)) ∧ Kept [] w w' := by
  have e1 : w.cell? ⟨b, 1, none⟩ = some (.int .i64 s.Q) := hb.cell 1
  have e0 : w.cell? ⟨g, 0, none⟩ = some (.int .i64 lo) := hg.cell 0
  unfold numB
  obtain ⟨Q, hQ⟩ : ∃ Q, s.Q = Q := ⟨_, rfl⟩
  rw [hQ] at e1 ⊢
  clear hb hQ hg
  by_cases h0 : x < lo
  · have d0 : decide (x < lo) = true := decide_eq_true h0
    rw [decide_eq_false (show ¬ lo ≤ x by omega)]
    go_enter Tryz.func79, Tryz.ntmps79
    go_wp2_with fail
    go_ret
    exact ⟨rfl, Kept.refl _ _⟩
  · have d0 : decide (x < lo) = false := decide_eq_false h0
    rw [decide_eq_true (show lo ≤ x by omega), Bool.true_and]
    have d1 : (!decide (x < Q)) = decide (Q ≤ x) := by
      by_cases h : x < Q
      · rw [decide_eq_true h, decide_eq_false (by omega)]; rfl
      · rw [decide_eq_false h, decide_eq_true (by omega)]; rfl
    rw [d1]
    clear d1
    go_enter Tryz.func79, Tryz.ntmps79
    go_wp2_with fail
    go_ret
    exact ⟨rfl, Kept.refl _ _⟩

set_option maxRecDepth 100000 in
set_option maxHeartbeats 800000 in
theorem index_num (s : Stp) (v v0 : Value) (l : List Int) (lo : Int) (g b : Nat) (w : World) (hv : Row w 1 v l.length (ints l)) (hb : Blk w b 93 (stpA s v0)) (hg : Blk w g 3 #[.int .i64 lo]) :
    Calls Tryz.prog 120 #[v, .func (.func 79) #[] #[.pointer (some ⟨g, 0, none⟩), .pointer (some ⟨b, 0, none⟩)]] w fun e w' => (∃ r : Int, e = .returned (.int .i64 r) ∧ decide (0 ≤ r) = !l.all (numB s lo)) ∧ Kept [] w w' := by
  obtain ⟨aa, ca, rfl, hla, _⟩ := hv.form
  have HV := Lib.hid hv
  have HB := Lib.hid hb
  have HG := Lib.hid hg
  clear hv hb hg
  go_enter Tryz.func120, Tryz.ntmps120
  go_wp2_with fail
  go_loopw [5, 8] (fun _ i wr => ∃ k : Nat, k ≤ l.length ∧ i = .int .i64 k ∧ (∀ j (hj : j < l.length), j < k → (numB s lo) l[j] = true) ∧ Kept [] w wr) (fun _ i _ => l.length - (intOf i).toNat)
  case atStart => exact ⟨0, Nat.zero_le _, rfl, fun j _ hj => by omega, Kept.refl _ _⟩
  case round =>
    obtain ⟨k, hk, rfl, hm, hkr⟩ := hrel
    have HM := Lib.hid hm
    clear hm
    by_cases hlt : k < l.length
    · obtain ⟨ba, oa, rfl, hca⟩ := (HV.out.kept hkr).at_ (by omega)
      have xa := hca k _ (ints_get hlt)
      have HC := Lib.hid (clo_num s l[k] lo g b v0 wr (HB.out.kept hkr (by simp)) (HG.out.kept hkr (by simp)))
      obtain ⟨t, ht⟩ : ∃ t, (numB s lo) l[k] = t := ⟨_, rfl⟩
      rw [ht] at HC
      have HT := Lib.hid ht
      clear hca ht
      cases t
      · go_wp2_with (go_at_call 79; refine HC.out.mono ?_; rintro e w2 ⟨rfl, hk2⟩)
        go_ret
        refine ⟨⟨_, rfl, ?_⟩, hkr.trans hk2⟩
        rw [num_of_not hlt HT.out]
        simp
      · go_wp2_with (go_at_call 79; refine HC.out.mono ?_; rintro e w2 ⟨rfl, hk2⟩)
        go_roundw
        case rel => exact ⟨k + 1, by omega, by go_num, fun j hj hjk => by
          rcases Nat.lt_or_ge j k with h | h
          · exact HM.out j hj h
          · obtain rfl : j = k := by omega
            exact HT.out, hkr.trans hk2⟩
        case measure => simp [intOf]; omega
    · obtain rfl : k = l.length := by omega
      go_wp2_with fail
      go_ret
      refine ⟨⟨-1, rfl, ?_⟩, hkr⟩
      rw [all_of (fun j hj => HM.out j hj hj)]
      rfl

set_option maxHeartbeats 400000 in
theorem contains_num (s : Stp) (v v0 : Value) (l : List Int) (lo : Int) (g b : Nat) (w : World) (hv : Row w 1 v l.length (ints l)) (hb : Blk w b 93 (stpA s v0)) (hg : Blk w g 3 #[.int .i64 lo]) :
    Calls Tryz.prog 78 #[v, .func (.func 79) #[] #[.pointer (some ⟨g, 0, none⟩), .pointer (some ⟨b, 0, none⟩)]] w fun e w' => e = .returned (.bool (!l.all (numB s lo))) ∧ Kept [] w w' := by
  have HC := Lib.hid (index_num s v v0 l lo g b w hv hb hg)
  obtain ⟨aa, ca, rfl, hla, _⟩ := hv.form
  clear hv hb hg
  go_enter Tryz.func78, Tryz.ntmps78
  go_wp2_with (go_at_call 120; refine HC.out.mono ?_)
  rintro e w1 ⟨⟨r, rfl, hr⟩, hk⟩
  have HR := Lib.hid hr
  clear hr
  go_wp2_with fail
  go_ret
  exact ⟨by rw [← HR.out]; rfl, hk⟩

set_option maxRecDepth 100000 in
set_option maxHeartbeats 800000 in
theorem nums_desk (s : Stp) (vs : Value) (ad : Option Addr) (cc : Nat) (l : List Int) (lo : Int) (w : World) (hv : Row w 1 vs l.length (ints l)) :
    Calls Tryz.prog 50 #[.agg #[.int .i64 s.P, .int .i64 s.Q, .int .i64 s.G, .slice ad s.bases.length cc, .int .i64 s.blind], .int .i64 lo, vs] w fun e w' => e = .returned (.bool (l.all (numB s lo))) ∧ Kept [] w w' := by
  obtain ⟨aa, ca, rfl, hla, _⟩ := hv.form
  obtain ⟨W, hW⟩ : ∃ W, (w.alloc (.cells (stpA s (.slice ad s.bases.length cc)) 93)).alloc (.cells #[.int .i64 lo] 3) = W := ⟨_, rfl⟩
  have hb : Blk W w.heap.size 93 (stpA s (.slice ad s.bases.length cc)) := hW ▸ (Blk.new _ _ _).alloc _
  have hg : Blk W (w.heap.size + 1) 3 #[.int .i64 lo] := by
    have := Blk.new (w.alloc (.cells (stpA s (.slice ad s.bases.length cc)) 93)) 3 #[.int .i64 lo]
    rw [hW, World.size_alloc] at this
    exact this
  have hkW : Kept [] w W := hW ▸ ((Kept.refl _ _).alloc _).alloc _
  have CF := Lib.hid (contains_num s _ _ l lo (w.heap.size + 1) w.heap.size W (hv.kept hkW) hb hg)
  have HW := Lib.hid hW
  have HKW := Lib.hid hkW
  obtain ⟨R, hR⟩ : ∃ R, l.all (numB s lo) = R := ⟨_, rfl⟩
  rw [hR] at CF ⊢
  clear hW hb hg hkW hv hR
  go_enter Tryz.func50, Tryz.ntmps50
  go_upto_region 1 with (fail)
  have hW' : (w.alloc (.cells #[.int .i64 s.P, .int .i64 s.Q, .int .i64 s.G, .slice ad s.bases.length cc, .int .i64 s.blind] 93)).alloc (.cells #[.int .i64 lo] 3) = W := HW.out
  rw [hW']
  clear hW'
  go_wp2_with (go_at_call 78; with_reducible refine CF.out.mono ?_)
  first | (rintro e w3 rfl k3) | (rintro e w3 ⟨rfl, k3⟩)
  go_wp2_with fail
  go_ret
  exact ⟨by simp, HKW.out.trans k3⟩

set_option maxRecDepth 100000 in
set_option maxHeartbeats 800000 in
theorem power_desk (s : Stp) (q : Nat) (ad : Option Addr) (cc : Nat) (x k : Int) (w : World) (hok : GrpOk s.P s.Q s.G q) (hx : Wire.I64 x) (hk : Wire.I64 k) :
    Calls Tryz.prog 80 #[.agg #[.int .i64 s.P, .int .i64 s.Q, .int .i64 s.G, .slice ad s.bases.length cc, .int .i64 s.blind], .int .i64 x, .int .i64 k] w fun e w' => e = .returned (.int .i64 ((pwrN q x k : Nat) : Int)) ∧ Kept [] w w' := by
  obtain ⟨W, hW⟩ : ∃ W, w.alloc (.cells (stpA s (.slice ad s.bases.length cc)) 93) = W := ⟨_, rfl⟩
  have hb : Blk W w.heap.size 93 (stpA s (.slice ad s.bases.length cc)) := hW ▸ Blk.new _ _ _
  have hkW : Kept [] w W := hW ▸ (Kept.refl _ _).alloc _
  have PX : Hid (Calls Tryz.prog 88 #[.agg #[.int .i64 s.P, .int .i64 s.Q, .int .i64 s.G], .int .i64 x, .int .i64 k] W fun e w2 => e = .returned (.int .i64 ((pwrN q x k : Nat) : Int)) ∧ Kept [] W w2) := power_grp s.P s.Q s.G x k q W hok hx hk
  have s0 : W.cell? ⟨w.heap.size, 0, none⟩ = some (.int .i64 s.P) := hb.cell 0
  have s1 : W.cell? ⟨w.heap.size, 1, none⟩ = some (.int .i64 s.Q) := hb.cell 1
  have s2 : W.cell? ⟨w.heap.size, 2, none⟩ = some (.int .i64 s.G) := hb.cell 2
  have HW := Lib.hid hW
  have HKW := Lib.hid hkW
  obtain ⟨R, hR⟩ : ∃ R, pwrN q x k = R := ⟨_, rfl⟩
  rw [hR] at PX ⊢
  clear hW hb hkW hR hok
  go_enter Tryz.func80, Tryz.ntmps80
  go_upto_region 1 with (fail)
  have hW' : w.alloc (.cells #[.int .i64 s.P, .int .i64 s.Q, .int .i64 s.G, .slice ad s.bases.length cc, .int .i64 s.blind] 93) = W := HW.out
  rw [hW']
  clear hW'
  go_wp2_with (go_at_call 88; with_reducible refine PX.out.mono ?_)
  first | (rintro e w3 rfl k3) | (rintro e w3 ⟨rfl, k3⟩)
  clear s0 s1 s2
  go_wp2_with fail
  go_ret
  exact ⟨rfl, HKW.out.trans k3⟩

set_option maxRecDepth 100000 in
set_option maxHeartbeats 800000 in
theorem generated_any (s : Stp) (q : Nat) (ad : Option Addr) (cc : Nat) (k : Int) (w : World) (hok : GrpOk s.P s.Q s.G q) (hx : Wire.I64 s.G) (hk : Wire.I64 k) :
    Calls Tryz.prog 51 #[.agg #[.int .i64 s.P, .int .i64 s.Q, .int .i64 s.G, .slice ad s.bases.length cc, .int .i64 s.blind], .int .i64 k] w fun e w' => e = .returned (.int .i64 ((pwrN q s.G k : Nat) : Int)) ∧ Kept [] w w' := by
  obtain ⟨W, hW⟩ : ∃ W, w.alloc (.cells (stpA s (.slice ad s.bases.length cc)) 93) = W := ⟨_, rfl⟩
  have hb : Blk W w.heap.size 93 (stpA s (.slice ad s.bases.length cc)) := hW ▸ Blk.new _ _ _
  have hkW : Kept [] w W := hW ▸ (Kept.refl _ _).alloc _
  have PX := Lib.hid (power_desk s q ad cc s.G k W hok hx hk)
  have s0 : W.cell? ⟨w.heap.size, 0, none⟩ = some (.int .i64 s.P) := hb.cell 0
  have s1 : W.cell? ⟨w.heap.size, 1, none⟩ = some (.int .i64 s.Q) := hb.cell 1
  have s2 : W.cell? ⟨w.heap.size, 2, none⟩ = some (.int .i64 s.G) := hb.cell 2
  have s3 : W.cell? ⟨w.heap.size, 3, none⟩ = some (.slice ad s.bases.length cc) := hb.cell 3
  have s4 : W.cell? ⟨w.heap.size, 4, none⟩ = some (.int .i64 s.blind) := hb.cell 4
  have HW := Lib.hid hW
  have HKW := Lib.hid hkW
  obtain ⟨R, hR⟩ : ∃ R, pwrN q s.G k = R := ⟨_, rfl⟩
  rw [hR] at PX ⊢
  clear hW hb hkW hR hok
  go_enter Tryz.func51, Tryz.ntmps51
  go_upto_region 1 with (fail)
  have hW' : w.alloc (.cells #[.int .i64 s.P, .int .i64 s.Q, .int .i64 s.G, .slice ad s.bases.length cc, .int .i64 s.blind] 93) = W := HW.out
  rw [hW']
  clear hW'
  go_wp2_with (go_at_call 80; with_reducible refine PX.out.mono ?_)
  first | (rintro e w3 rfl k3) | (rintro e w3 ⟨rfl, k3⟩)
  clear s0 s1 s2 s3 s4
  go_wp2_with fail
  go_ret
  exact ⟨rfl, HKW.out.trans k3⟩

set_option maxRecDepth 100000 in
set_option maxHeartbeats 1600000 in
theorem open_any (vs : Value) (s : Stp) (w : World) (hs : StpV w vs s) (hE : Env2 w) :
    Calls Tryz.prog 49 #[vs] w fun e w' => e = .returned (.tuple #[vs, .bool (setupB s)]) ∧ Kept [] w w' := by
  have hs' := hs
  obtain ⟨⟨ad, cc, rfl, hrow⟩, ip, iq, ig, ib, il⟩ := hs'
  obtain ⟨W, hW⟩ : ∃ W, (w.alloc (.cells (stpA s (.slice ad s.bases.length cc)) 26)).alloc (.cells #[.int .i64 0, .int .i64 0, .int .i64 0, .slice none 0 0, .int .i64 0] 93) = W := ⟨_, rfl⟩
  have hb : Blk W w.heap.size 26 (stpA s (.slice ad s.bases.length cc)) := hW ▸ (Blk.new _ _ _).alloc _
  have hz : Blk W (w.heap.size + 1) 93 #[.int .i64 0, .int .i64 0, .int .i64 0, .slice none 0 0, .int .i64 0] := by
    have := Blk.new (w.alloc (.cells (stpA s (.slice ad s.bases.length cc)) 26)) 93 #[.int .i64 0, .int .i64 0, .int .i64 0, .slice none 0 0, .int .i64 0]
    rw [hW, World.size_alloc] at this
    exact this
  have hkW : Kept [] w W := hW ▸ ((Kept.refl _ _).alloc _).alloc _
  have VS : Hid (∀ w', Kept [] W w' → Calls Tryz.prog 58 #[.agg #[.int .i64 s.P, .int .i64 s.Q, .int .i64 s.G, .slice ad s.bases.length cc, .int .i64 s.blind]] w' fun e w2 => e = .returned (.bool (setupB s)) ∧ Kept [] w' w2) := fun w' k =>
    validSetup_any _ s w' (hs.kept (hkW.trans k)) (hE.kept0 (hkW.trans k))
  have s0 : ∀ w', Kept [] W w' → w'.cell? ⟨w.heap.size, 0, none⟩ = some (.int .i64 s.P) := Kept.cellOf (hb.cell 0)
  have s1 : ∀ w', Kept [] W w' → w'.cell? ⟨w.heap.size, 1, none⟩ = some (.int .i64 s.Q) := Kept.cellOf (hb.cell 1)
  have s2 : ∀ w', Kept [] W w' → w'.cell? ⟨w.heap.size, 2, none⟩ = some (.int .i64 s.G) := Kept.cellOf (hb.cell 2)
  have s3 : ∀ w', Kept [] W w' → w'.cell? ⟨w.heap.size, 3, none⟩ = some (.slice ad s.bases.length cc) := Kept.cellOf (hb.cell 3)
  have s4 : ∀ w', Kept [] W w' → w'.cell? ⟨w.heap.size, 4, none⟩ = some (.int .i64 s.blind) := Kept.cellOf (hb.cell 4)
  have HZ := Lib.hid hz
  have HW := Lib.hid hW
  have HKW := Lib.hid hkW
  obtain ⟨R, hR⟩ : ∃ R, setupB s = R := ⟨_, rfl⟩
  rw [hR] at VS ⊢
  clear hW hb hrow hR hkW hs hE ib hz
  show Calls _ _ #[.agg #[.int .i64 s.P, .int .i64 s.Q, .int .i64 s.G, .slice ad s.bases.length cc, .int .i64 s.blind]] _ _
  go_enter Tryz.func49, Tryz.ntmps49
  go_upto_region 1 with (fail)
  have hW' : (w.alloc (.cells #[.int .i64 s.P, .int .i64 s.Q, .int .i64 s.G, .slice ad s.bases.length cc, .int .i64 s.blind] 26)).alloc (.cells #[.int .i64 0, .int .i64 0, .int .i64 0, .slice none 0 0, .int .i64 0] 93) = W := HW.out
  rw [hW']
  clear hW'
  refine wp_region_T [4, 5] (fun w' => Kept [] W w') (by kernel_rfl) (Kept.refl _ _).drew (fun hH => ?_)
  refine takeT [1, 4, 5] (i := 0) (v := ?tv1) rfl (by kernel_rfl) (by kernel_rfl) (by kernel_rfl) (by kernel_rfl) (fun _ _ _ h => h) (Or.inl ⟨by rfl, ?ty1⟩) hH ?tr1
  case ty1 => intro w' hSw; (try dsimp only at hSw); go_simp; first | done | with_reducible rfl
  simp only [Act.put, List.setIfInBounds_toArray, List.set_cons_zero, List.set_cons_succ]
  refine takeT [4, 5] (i := 1) (v := ?tv2) rfl (by kernel_rfl) (by kernel_rfl) (by kernel_rfl) (by kernel_rfl) (fun _ _ _ h => h) (Or.inl ⟨by rfl, ?ty2⟩) hH ?tr2
  case ty2 => intro w' hSw; (try dsimp only at hSw); go_simp; first | done | with_reducible rfl
  simp only [Act.put, List.setIfInBounds_toArray, List.set_cons_zero, List.set_cons_succ]
  refine takeT [3, 4, 5] (i := 2) (v := ?tv3) rfl (by kernel_rfl) (by kernel_rfl) (by kernel_rfl) (by kernel_rfl) (fun _ _ _ h => h) (Or.inl ⟨by rfl, ?ty3⟩) hH ?tr3
  case ty3 => intro w' hSw; (try dsimp only at hSw); go_simp; first | done | with_reducible rfl
  simp only [Act.put, List.setIfInBounds_toArray, List.set_cons_zero, List.set_cons_succ]
  refine wpAnyT_ready (rs := [3]) (by kernel_rfl) (by simp) ?_
  refine AllReadyT.cons rfl (fun K hK => ?_) AllReadyT.nil
  go_simp
  refine (VS.out _ (Kept.refl [] W).drew).mono ?_
  rintro e w3 ⟨rfl, k3⟩
  have kW3 : Kept [] W w3 := (Kept.refl [] W).drew.trans k3
  have hz3 := HZ.out.kept kW3 (by simp)
  refine hK.out _ _ kW3 (fun hH => ?_)
  clear hK K
  (try simp only [Act.put, List.setIfInBounds_toArray, List.set_cons_zero, List.set_cons_succ])
  clear s0 s1 s2 s3 s4
  have z0 : w3.cell? ⟨w.heap.size + 1, 0, none⟩ = some (.int .i64 0) := hz3.cell 0
  have y0 : w3.frozen? ⟨w.heap.size + 1, 0, none⟩ = false := hz3.frozen 0
  have z1 : w3.cell? ⟨w.heap.size + 1, 1, none⟩ = some (.int .i64 0) := hz3.cell 1
  have y1 : w3.frozen? ⟨w.heap.size + 1, 1, none⟩ = false := hz3.frozen 1
  have z2 : w3.cell? ⟨w.heap.size + 1, 2, none⟩ = some (.int .i64 0) := hz3.cell 2
  have y2 : w3.frozen? ⟨w.heap.size + 1, 2, none⟩ = false := hz3.frozen 2
  have z3 : w3.cell? ⟨w.heap.size + 1, 3, none⟩ = some (.slice none 0 0) := hz3.cell 3
  have y3 : w3.frozen? ⟨w.heap.size + 1, 3, none⟩ = false := hz3.frozen 3
  have z4 : w3.cell? ⟨w.heap.size + 1, 4, none⟩ = some (.int .i64 0) := hz3.cell 4
  have y4 : w3.frozen? ⟨w.heap.size + 1, 4, none⟩ = false := hz3.frozen 4
  refine wpAnyT_ready (rs := [4]) (by kernel_rfl) (by simp) ?_
  refine AllReadyT.last rfl (by kernel_rfl) (fun K hK => ?_)
  go_simp
  refine hK.out _ _ ?_
  clear hK K
  (try simp only [Act.put, List.setIfInBounds_toArray, List.set_cons_zero, List.set_cons_succ])
  refine wpAnyT_ready (rs := [5]) (by kernel_rfl) (by simp) ?_
  refine AllReadyT.last rfl (by kernel_rfl) (fun K hK => ?_)
  go_simp
  refine hK.out _ _ ?_
  clear hK K
  (try simp only [Act.put, List.setIfInBounds_toArray, List.set_cons_zero, List.set_cons_succ])
  refine wpAnyT_done (by kernel_rfl) ?_ _
  go_wp2_with fail
  refine bodyPost_ret (v := .tuple #[.agg #[.int .i64 s.P, .int .i64 s.Q, .int .i64 s.G, .slice ad s.bases.length cc, .int .i64 s.blind], .bool R]) (by simp [results, Tryz.results49, go_sem, z0, z1, z2, z3, z4]) rfl ?_
  refine ⟨rfl, ?_⟩
  refine (HKW.out.trans kW3).fresh (show Kept [w.heap.size + 1] w3 _ from ?_) (by simp)
  repeat (refine Kept.setCell ?_ (Or.inl (by simp)) _)
  exact Kept.refl _ _

/-- a ticket's public number -/
def pubN (s : Stp) (x : Int) : Int := if (setupB s && numB s 1 x) = true then ((pwrN s.Q.toNat s.G x : Nat) : Int) else 0
set_option maxRecDepth 100000 in
set_option maxHeartbeats 1600000 in
theorem public_any (vs : Value) (s : Stp) (x : Int) (w : World) (hs : StpV w vs s) (hx : Wire.I64 x) (hE : Env2 w) :
    Calls Tryz.prog 23 #[vs, .int .i64 x] w fun e w' => e = .returned (.int .i64 (pubN s x)) ∧ Kept [] w w' := by
  have hs' := hs
  obtain ⟨⟨ad, cc, rfl, hrow⟩, ip, iq, ig, ib, il⟩ := hs'
  obtain ⟨W, hW⟩ : ∃ W, w.alloc (.cells (stpA s (.slice ad s.bases.length cc)) 26) = W := ⟨_, rfl⟩
  have hb : Blk W w.heap.size 26 (stpA s (.slice ad s.bases.length cc)) := hW ▸ Blk.new _ _ _
  have hkW : Kept [] w W := hW ▸ (Kept.refl _ _).alloc _
  have OP : Hid (Calls Tryz.prog 49 #[.agg #[.int .i64 s.P, .int .i64 s.Q, .int .i64 s.G, .slice ad s.bases.length cc, .int .i64 s.blind]] W fun e w2 => e = .returned (.tuple #[.agg #[.int .i64 s.P, .int .i64 s.Q, .int .i64 s.G, .slice ad s.bases.length cc, .int .i64 s.blind], .bool (setupB s)]) ∧ Kept [] W w2) :=
    open_any _ s W (hs.kept hkW) (hE.kept0 hkW)
  have NU : Hid (∀ w' : World, Calls Tryz.prog 50 #[.agg #[.int .i64 s.P, .int .i64 s.Q, .int .i64 s.G, .slice ad s.bases.length cc, .int .i64 s.blind], .int .i64 1, .slice (some ⟨w'.heap.size, 0, none⟩) 1 1] (w'.alloc (.cells #[.int .i64 x] 3)) fun e w2 => e = .returned (.bool (numB s 1 x)) ∧ Kept [] (w'.alloc (.cells #[.int .i64 x] 3)) w2) := fun w' => by
    have := nums_desk s (.slice (some ⟨w'.heap.size, 0, none⟩) 1 1) ad cc [x] 1 (w'.alloc (.cells #[.int .i64 x] 3)) (row_of_blk (cs := ints [x]) (Blk.new _ _ _) rfl (by decide))
    simpa using this
  have GE : Hid (setupB s = true → ∀ w' : World, Calls Tryz.prog 51 #[.agg #[.int .i64 s.P, .int .i64 s.Q, .int .i64 s.G, .slice ad s.bases.length cc, .int .i64 s.blind], .int .i64 x] w' fun e w2 => e = .returned (.int .i64 ((pwrN s.Q.toNat s.G x : Nat) : Int)) ∧ Kept [] w' w2) := fun h w' => by
    unfold setupB at h
    simp only [Bool.and_eq_true] at h
    obtain ⟨q, hok, _⟩ := groupB_ok h.1
    have hq : s.Q.toNat = q := by rw [hok.hQ]; rfl
    rw [hq]
    exact generated_any s q ad cc x w' hok ig hx
  have s0 : W.cell? ⟨w.heap.size, 0, none⟩ = some (.int .i64 s.P) := hb.cell 0
  have s1 : W.cell? ⟨w.heap.size, 1, none⟩ = some (.int .i64 s.Q) := hb.cell 1
  have s2 : W.cell? ⟨w.heap.size, 2, none⟩ = some (.int .i64 s.G) := hb.cell 2
  have s3 : W.cell? ⟨w.heap.size, 3, none⟩ = some (.slice ad s.bases.length cc) := hb.cell 3
  have s4 : W.cell? ⟨w.heap.size, 4, none⟩ = some (.int .i64 s.blind) := hb.cell 4
  have HW := Lib.hid hW
  have HKW := Lib.hid hkW
  have PN : Hid (pubN s x = if (setupB s && numB s 1 x) = true then ((pwrN s.Q.toNat s.G x : Nat) : Int) else 0) := rfl
  obtain ⟨R, hR⟩ : ∃ R, pubN s x = R := ⟨_, rfl⟩
  obtain ⟨b1, hb1⟩ : ∃ b, setupB s = b := ⟨_, rfl⟩
  obtain ⟨b2, hb2⟩ : ∃ b, numB s 1 x = b := ⟨_, rfl⟩
  obtain ⟨pw, hpw⟩ : ∃ b, pwrN s.Q.toNat s.G x = b := ⟨_, rfl⟩
  rw [hR, hb1, hb2, hpw] at PN
  rw [hb1] at OP GE
  rw [hb2] at NU
  rw [hpw] at GE
  rw [hR]
  clear hW hb hrow hR hkW hs hE ib hb1 hb2 hpw
  show Calls _ _ #[.agg #[.int .i64 s.P, .int .i64 s.Q, .int .i64 s.G, .slice ad s.bases.length cc, .int .i64 s.blind], _] _ _
  go_enter Tryz.func23, Tryz.ntmps23
  go_upto_region 1 with (fail)
  have hW' : w.alloc (.cells #[.int .i64 s.P, .int .i64 s.Q, .int .i64 s.G, .slice ad s.bases.length cc, .int .i64 s.blind] 26) = W := HW.out
  rw [hW']
  clear hW'
  go_wp2_with (go_at_call 49; with_reducible refine OP.out.mono ?_)
  first | (rintro e w3 rfl k3) | (rintro e w3 ⟨rfl, k3⟩)
  clear s0 s1 s2 s3 s4
  have K3 := Lib.hid (HKW.out.trans k3)
  clear k3
  cases b1
  · have hR : R = 0 := PN.out
    subst hR
    go_wp2_with fail
    go_ret
    exact ⟨rfl, K3.out.alloc _⟩
  go_upto_region 2 with (fail)
  obtain ⟨W4, hW4⟩ : ∃ W4, w3.alloc (.cells #[.int .i64 s.P, .int .i64 s.Q, .int .i64 s.G, .slice ad s.bases.length cc, .int .i64 s.blind] 93) = W4 := ⟨_, rfl⟩
  have hd : Blk W4 w3.heap.size 93 (stpA s (.slice ad s.bases.length cc)) := hW4 ▸ Blk.new _ _ _
  have k4 : Kept [] w3 W4 := hW4 ▸ (Kept.refl _ _).alloc _
  rw [hW4]
  have s0 : W4.cell? ⟨w3.heap.size, 0, none⟩ = some (.int .i64 s.P) := hd.cell 0
  have s1 : W4.cell? ⟨w3.heap.size, 1, none⟩ = some (.int .i64 s.Q) := hd.cell 1
  have s2 : W4.cell? ⟨w3.heap.size, 2, none⟩ = some (.int .i64 s.G) := hd.cell 2
  have s3 : W4.cell? ⟨w3.heap.size, 3, none⟩ = some (.slice ad s.bases.length cc) := hd.cell 3
  have s4 : W4.cell? ⟨w3.heap.size, 4, none⟩ = some (.int .i64 s.blind) := hd.cell 4
  have K4 := Lib.hid (K3.out.trans k4)
  have HD := Lib.hid hd
  clear hW4 k4 hd
  go_wp2_with (go_at_call 50; refine (NU.out _).mono ?_)
  first | (rintro e w5 rfl k5) | (rintro e w5 ⟨rfl, k5⟩)
  clear s0 s1 s2 s3 s4
  have k45 : Kept [] W4 w5 := ((Kept.refl [] W4).alloc _).trans k5
  cases b2
  · have hR : R = 0 := PN.out
    subst hR
    go_wp2_with fail
    go_ret
    exact ⟨rfl, K4.out.trans k45⟩
  have hR : R = (pw : Int) := PN.out
  subst hR
  have hd := HD.out.kept k45 (by simp)
  have s0 : w5.cell? ⟨w3.heap.size, 0, none⟩ = some (.int .i64 s.P) := hd.cell 0
  have s1 : w5.cell? ⟨w3.heap.size, 1, none⟩ = some (.int .i64 s.Q) := hd.cell 1
  have s2 : w5.cell? ⟨w3.heap.size, 2, none⟩ = some (.int .i64 s.G) := hd.cell 2
  have s3 : w5.cell? ⟨w3.heap.size, 3, none⟩ = some (.slice ad s.bases.length cc) := hd.cell 3
  have s4 : w5.cell? ⟨w3.heap.size, 4, none⟩ = some (.int .i64 s.blind) := hd.cell 4
  have K5 := Lib.hid (K4.out.trans k45)
  clear hd k5 k45
  go_wp2_with (go_at_call 51; with_reducible refine (GE.out (by trivial) _).mono ?_)
  first | (rintro e w6 rfl k6) | (rintro e w6 ⟨rfl, k6⟩)
  clear s0 s1 s2 s3 s4
  go_wp2_with fail
  go_ret
  exact ⟨rfl, K5.out.trans k6⟩
end Go.Proofs.YtcidfldeiklcjaaGreatDoor
