/- The example's escrow: Deal. -/
import Derived.Test.YtabiklpemoijcaaGreatDoorCat
import Derived.Test.YtabiklpemoijcaaGreatDoorThr
import Derived.Deep.AppendLies
namespace Go.Proofs.YtabiklpemoijcaaGreatDoor
open Go.RowKit

theorem infoPoint : (Tryz.prog.info? 71).map (fun i => (i.zero, i.size, i.bytes)) = some (some (.agg #[.int .i64 0, .int .i64 0, .int .i64 0]), 3, 24) := by kernel_rfl
theorem Row.keptG {w w' : World} {size g : Nat} {v : Value} {n : Nat} {l : List Value} (h : Row w size v n l) (hg : w.heap.size ≤ g) (k : Kept [g] w w') : Row w' size v n l := by
  obtain ⟨h1, h2, a, c, hv, hcc, hc⟩ := h
  refine ⟨h1, h2, a, c, hv, hcc, fun hn => ?_⟩
  obtain ⟨b, off, ha, hcell⟩ := hc hn
  refine ⟨b, off, ha, fun j u hu => ?_⟩
  have := hcell j u hu
  have hlt := World.block_lt_of_cell? w _ this
  exact (k.cell hlt (by simp; simp at hlt; omega)).trans this
theorem cell3_new (w : World) (x y z : Value) (T : TypeId) : ∀ (j : Nat) (u : Value), [x, y, z][j]? = some u → (w.alloc (.cells #[x, y, z] T)).cell? ((⟨w.heap.size, 0, none⟩ : Addr).add j) = some u := by
  intro j u hu
  rw [add_cell, (Blk.new w T #[x, y, z]).cell]
  simpa using hu
def z3 : Z := ⟨3, by decide, by decide⟩
def z5 : Z := ⟨5, by decide, by decide⟩
def z2 : Z := ⟨2, by decide, by decide⟩
def z1 : Z := ⟨1, by decide, by decide⟩

theorem kept_from_S {S : List Nat} {P : Program} {f : FuncId} {args : Array Value} {W w : World} {v : Value} (hW : Kept S W w)
    (h : Calls P f args w fun e w' => e = .returned v ∧ Kept [] w w') : Calls P f args w fun e w' => e = .returned v ∧ Kept S W w' :=
  h.mono fun _ _ ⟨he, hk⟩ => ⟨he, hW.trans (hk.mono (by simp))⟩

/-- how Deal ends -/
def DealP (w : World) (e : Ending) (w' : World) : Prop :=
  ∃ ve vp, e = .returned (.tuple #[ve, vp, .bool true]) ∧ Row w' 1 ve 1 (ints [6]) ∧ Row w' 3 vp 2 (ints [1, 8, 3, 2, 2, 4]) ∧ Kept [] w w'
def ConcatP (x y : Int) (w : World) (e : Ending) (w' : World) : Prop := ∃ v, e = .returned v ∧ Row w' 1 v 2 (ints [x, y]) ∧ Kept [] w w'

set_option maxRecDepth 100000 in
set_option maxHeartbeats 4000000 in
theorem deal_x (sv vs vm : Value) (w : World) (hs : SetV w sv) (hv : Row w 1 vs 1 (ints [5])) (hm : Row w 1 vm 1 (ints [1])) :
    Calls Tryz.prog 30 #[sv, .int .i64 3, .int .i64 2, vs, vm, .int .i64 2] w (DealP w) := by
  obtain ⟨sa, sc, rfl, hrow⟩ := hs
  obtain ⟨av, cv, rfl, _, _⟩ := hv.form
  obtain ⟨am, cm, rfl, _, _⟩ := hm.form
  obtain ⟨bv, ov, rfl, hcv⟩ := hv.at_ (by omega)
  obtain ⟨bm, om, rfl, hcm⟩ := hm.at_ (by omega)
  obtain ⟨W, hW⟩ : ∃ W, (w.alloc (.cells (setC (.slice sa 2 sc)) 26)).alloc (.cells (setC (.slice sa 2 sc)) 130) = W := ⟨_, rfl⟩
  have hb : Blk W w.heap.size 26 (setC (.slice sa 2 sc)) := hW ▸ (Blk.new _ _ _).alloc _
  have hx : Blk W (w.heap.size + 1) 130 (setC (.slice sa 2 sc)) := by
    have := Blk.new (w.alloc (.cells (setC (.slice sa 2 sc)) 26)) 130 (setC (.slice sa 2 sc))
    rw [World.size_alloc] at this
    exact hW ▸ this
  have hkW : Kept [] w W := hW ▸ ((Kept.refl _ _).alloc _).alloc _
  have HBL := Lib.hid hb.lt
  have HS : Hid (SetV W (.agg (setC (.slice sa 2 sc)))) := ⟨sa, sc, rfl, hrow.kept hkW⟩
  have HV := Lib.hid (hv.kept hkW)
  have HM := Lib.hid (hm.kept hkW)
  have KB := Lib.hid (Kept.cellOf (hb.cell 0))
  have K : Hid (∀ w', Kept [] W w' → w'.cell? ⟨w.heap.size, 0, none⟩ = some (.int .i64 23) ∧ w'.cell? ⟨w.heap.size, 1, none⟩ = some (.int .i64 11) ∧ w'.cell? ⟨w.heap.size, 2, none⟩ = some (.int .i64 4) ∧ w'.cell? ⟨w.heap.size, 3, none⟩ = some (.slice sa 2 sc) ∧ w'.cell? ⟨w.heap.size, 4, none⟩ = some (.int .i64 12)) :=
    fun w' k => ⟨(hb.kept k (by simp)).cell 0, (hb.kept k (by simp)).cell 1, (hb.kept k (by simp)).cell 2, (hb.kept k (by simp)).cell 3, (hb.kept k (by simp)).cell 4⟩
  have L : Hid (∀ w', Kept [] W w' → w'.cell? ⟨w.heap.size + 1, 0, none⟩ = some (.int .i64 23) ∧ w'.cell? ⟨w.heap.size + 1, 1, none⟩ = some (.int .i64 11) ∧ w'.cell? ⟨w.heap.size + 1, 2, none⟩ = some (.int .i64 4) ∧ w'.cell? ⟨w.heap.size + 1, 3, none⟩ = some (.slice sa 2 sc) ∧ w'.cell? ⟨w.heap.size + 1, 4, none⟩ = some (.int .i64 12)) :=
    fun w' k => ⟨(hx.kept k (by simp)).cell 0, (hx.kept k (by simp)).cell 1, (hx.kept k (by simp)).cell 2, (hx.kept k (by simp)).cell 3, (hx.kept k (by simp)).cell 4⟩
  have VS : Hid (∀ w', Kept [] W w' → Calls Tryz.prog 93 #[.agg #[.int .i64 23, .int .i64 11, .int .i64 4, .slice sa 2 sc, .int .i64 12]] w' fun e w2 => e = .returned (.bool true) ∧ Kept [] w' w2) := fun w' k => validSetup_x _ w' (HS.out.kept k)
  have EX2 : Hid (∀ w', Kept [] W w' → Calls Tryz.prog 94 #[.agg #[.int .i64 23, .int .i64 11, .int .i64 4, .slice sa 2 sc, .int .i64 12], .slice (some ⟨w'.heap.size, 0, none⟩) 2 2, .int .i64 2] (w'.alloc (.cells #[.int .i64 3, .int .i64 2] 3)) fun e w2 => e = .returned (.bool true) ∧ Kept [] w' w2) :=
    fun w' k => (exponents_x _ _ [3, 2] _ (HS.out.kept (k.alloc _)) (row_of_blk (cs := ints [3, 2]) (Blk.new w' 3 #[.int .i64 3, .int .i64 2]) rfl (by decide)) (by intro x hx; simp at hx; rcases hx with rfl | rfl <;> exact ⟨by omega, by omega⟩)).mono
      fun e w2 h => ⟨h.1, ((Kept.refl [] w').alloc _).trans h.2⟩
  have EXV : Hid (∀ w', Kept [] W w' → Calls Tryz.prog 94 #[.agg #[.int .i64 23, .int .i64 11, .int .i64 4, .slice sa 2 sc, .int .i64 12], .slice (some ⟨bv, ov, none⟩) 1 cv, .int .i64 1] w' fun e w2 => e = .returned (.bool true) ∧ Kept [] w' w2) :=
    fun w' k => exponents_x _ _ [5] w' (HS.out.kept k) (HV.out.kept k) (by intro x hx; simp at hx; subst hx; exact ⟨by omega, by omega⟩)
  have EXM : Hid (∀ w', Kept [] W w' → Calls Tryz.prog 94 #[.agg #[.int .i64 23, .int .i64 11, .int .i64 4, .slice sa 2 sc, .int .i64 12], .slice (some ⟨bm, om, none⟩) 1 cm, .int .i64 1] w' fun e w2 => e = .returned (.bool true) ∧ Kept [] w' w2) :=
    fun w' k => exponents_x _ _ [1] w' (HS.out.kept k) (HM.out.kept k) (by intro x hx; simp at hx; subst hx; exact ⟨by omega, by omega⟩)
  have CM : Hid (∀ w', Kept [] W w' → Calls Tryz.prog 37 #[.agg #[.int .i64 23, .int .i64 11, .int .i64 4, .slice sa 2 sc, .int .i64 12], .int .i64 5, .int .i64 1] w' fun e w2 => e = .returned (.int .i64 6) ∧ Kept [] w' w2) := fun w' k => by
    have := commit_x _ 5 1 w' (HS.out.kept k) ⟨by omega, by omega⟩ ⟨by omega, by omega⟩
    rwa [show commitN 5 1 = 6 by decide] at this
  have HW : Hid ((w.alloc (.cells #[.int .i64 23, .int .i64 11, .int .i64 4, .slice sa 2 sc, .int .i64 12] 26)).alloc (.cells #[.int .i64 23, .int .i64 11, .int .i64 4, .slice sa 2 sc, .int .i64 12] 130) = W) := hW
  have VX : Hid (∀ w', Kept [] W w' → w'.cell? ⟨bv, ov, none⟩ = some (.int .i64 5)) := Kept.cellOf ((hkW.cell (p := ⟨bv, ov, none⟩) (World.block_lt_of_cell? w _ (hcv 0 _ rfl)) (by simp)).trans (hcv 0 _ rfl))
  have MX : Hid (∀ w', Kept [] W w' → w'.cell? ⟨bm, om, none⟩ = some (.int .i64 1)) := Kept.cellOf ((hkW.cell (p := ⟨bm, om, none⟩) (World.block_lt_of_cell? w _ (hcm 0 _ rfl)) (by simp)).trans (hcm 0 _ rfl))
  obtain ⟨e0, e1, e2, e3, e4⟩ := K.out W (Kept.refl _ _)
  obtain ⟨f0, f1, f2, f3, f4⟩ := L.out W (Kept.refl _ _)
  obtain ⟨i0, hi, hz0, hz1, hz2⟩ := info_parts infoInt
  clear hW hb hx hrow hv hm hcv hcm KB
  go_enter Tryz.func30, Tryz.ntmps30
  unfold setC
  go_wp2_with fail
  rw [HW.out]
  go_wp2_with (go_at_call 93; refine (VS.out _ (Kept.refl _ _)).mono ?_)
  rintro e w1 ⟨rfl, k1⟩
  clear e0 e1 e2 e3 e4 f0 f1 f2 f3 f4
  obtain ⟨f0, f1, f2, f3, f4⟩ := L.out w1 k1
  go_wp2_with (go_at_call 94; refine (EX2.out _ k1).mono ?_)
  rintro e w2 ⟨rfl, hk2⟩
  have k2 := k1.trans hk2
  clear hk2 f0 f1 f2 f3 f4
  obtain ⟨f0, f1, f2, f3, f4⟩ := L.out w2 k2
  go_wp2_with (go_at_call 94; refine (EXV.out _ k2).mono ?_)
  rintro e w3 ⟨rfl, hk3⟩
  have k3 := k2.trans hk3
  clear hk3 f0 f1 f2 f3 f4
  obtain ⟨f0, f1, f2, f3, f4⟩ := L.out w3 k3
  go_wp2_with (go_at_call 94; refine (EXM.out _ k3).mono ?_)
  rintro e w4 ⟨rfl, hk4⟩
  have k4 := k3.trans hk4
  clear hk4 f0 f1 f2 f3 f4
  obtain ⟨e0, e1, e2, e3, e4⟩ := K.out w4 k4
  go_wp2_with fail
  clear e0 e1 e2 e3 e4 k1 k2 k3
  go_loopw [17, 18, 19, 71] (fun ve _ _ vi wr => (vi = .int .i64 0 ∧ ve = .slice none 0 0 ∧ Kept [] w4 wr) ∨ (vi = .int .i64 1 ∧ (∃ g c, ve = .slice (some ⟨g, 0, none⟩) 1 c ∧ Row wr 1 ve 1 (ints [6])) ∧ Kept [] w4 wr)) (fun _ _ _ vi _ => 1 - (intOf vi).toNat)
  case atStart => exact Or.inl ⟨rfl, rfl, Kept.refl _ _⟩
  case round =>
    rcases hrel with ⟨rfl, rfl, hkr⟩ | ⟨rfl, ⟨ge, ce, rfl, hrowE⟩, hkr⟩
    · have hown : wr.ownsRow wr.heap.size 3 1 (.slice none 0 0) 0 [] := World.ownsRow_nil _ _ _ _
      have q0 : ∀ w', Kept [] wr w' → w'.cell? ⟨w.heap.size, 0, none⟩ = some (.int .i64 23) := fun w' k => (K.out w' (k4.trans (hkr.trans k))).1
      have q1 : ∀ w', Kept [] wr w' → w'.cell? ⟨w.heap.size, 1, none⟩ = some (.int .i64 11) := fun w' k => (K.out w' (k4.trans (hkr.trans k))).2.1
      have q2 : ∀ w', Kept [] wr w' → w'.cell? ⟨w.heap.size, 2, none⟩ = some (.int .i64 4) := fun w' k => (K.out w' (k4.trans (hkr.trans k))).2.2.1
      have q3 : ∀ w', Kept [] wr w' → w'.cell? ⟨w.heap.size, 3, none⟩ = some (.slice sa 2 sc) := fun w' k => (K.out w' (k4.trans (hkr.trans k))).2.2.2.1
      have q4 : ∀ w', Kept [] wr w' → w'.cell? ⟨w.heap.size, 4, none⟩ = some (.int .i64 12) := fun w' k => (K.out w' (k4.trans (hkr.trans k))).2.2.2.2
      have x0 : wr.cell? ⟨bv, ov, none⟩ = some (.int .i64 5) := VX.out wr (k4.trans hkr)
      have x1 : ∀ w', Kept [] wr w' → w'.cell? ⟨bm, om, none⟩ = some (.int .i64 1) := fun w' k => MX.out w' (k4.trans (hkr.trans k))
      have HC : Hid (∀ w', Kept [] wr w' → Calls Tryz.prog 37 #[.agg #[.int .i64 23, .int .i64 11, .int .i64 4, .slice sa 2 sc, .int .i64 12], .int .i64 5, .int .i64 1] w' fun e w2 => e = .returned (.int .i64 6) ∧ Kept [] w' w2) := fun w' k => CM.out w' (k4.trans (hkr.trans k))
      go_upto_region 8 with (fail)
      clear x0
      go_region_held3 (fun w' => Kept [] wr w') (repeat (first | (with_reducible assumption) | (with_reducible exact Kept.refl _ _) | (with_reducible refine Kept.drew ?_) | (with_reducible refine Kept.alloc ?_ _)))
        (first
          | (go_at_call 37; refine (kept_from (W := wr) (by assumption) (HC.out _ (by assumption))).mono ?_; rintro e w5 ⟨rfl, hk5⟩)
          | (refine step_append_lies _ rfl _ _ 24 rfl wr.heap.size 3 i0 (.int .i64 0) 1 8 Tryz.underlying24 hi hz0 hz1 hz2 rfl (by decide) _ _ _ rfl ((own_kept hown hk5 (by simp)).alloc _) ⟨w5.heap.size, 0, none⟩ 1 1 [.int .i64 6] rfl rfl (cell_one_new _ _ _) (by intro u hu; rw [List.mem_singleton] at hu; subst hu; rfl) (by omega) (by unfold maxLen; omega) (by omega) (by have := hk5.size; simp; omega) _ rfl ?_; intro g cap w6 hown6 hg6 hl6 hlt6; have hk6 : Kept [] wr w6 := (hk5.alloc _).grown hg6 (fun k hk => (by cases hk))))
      rename_i hHeld
      clear hHeld
      have hrow6 := Row.of_own hown6 (by omega)
      go_wp2_with fail
      go_roundw
      case rel => exact Or.inr ⟨rfl, ⟨_, _, rfl, hrow6⟩, hkr.trans hk6⟩
      case measure => simp [intOf]
    · have kr := k4.trans hkr
      have HE := Lib.hid hrowE
      have CF : Hid (∀ w', Kept [] W w' → Calls Tryz.prog 95 #[.slice (some ⟨w'.heap.size + 1, 0, none⟩) 2 2] ((w'.alloc (.cells #[.int .i64 3] 3)).alloc (.cells #[.slice (some ⟨w'.heap.size, 0, none⟩) 1 1, .slice (some ⟨bv, ov, none⟩) 1 cv] 24)) (ConcatP 3 5 w')) := fun w' k => by
        have b1 : Blk ((w'.alloc (.cells #[.int .i64 3] 3)).alloc (.cells #[.slice (some ⟨w'.heap.size, 0, none⟩) 1 1, .slice (some ⟨bv, ov, none⟩) 1 cv] 24)) w'.heap.size 3 #[.int .i64 3] := (Blk.new _ _ _).alloc _
        have b2 : Blk ((w'.alloc (.cells #[.int .i64 3] 3)).alloc (.cells #[.slice (some ⟨w'.heap.size, 0, none⟩) 1 1, .slice (some ⟨bv, ov, none⟩) 1 cv] 24)) (w'.heap.size + 1) 24 #[.slice (some ⟨w'.heap.size, 0, none⟩) 1 1, .slice (some ⟨bv, ov, none⟩) 1 cv] := by
          have := Blk.new (w'.alloc (.cells #[.int .i64 3] 3)) 24 #[.slice (some ⟨w'.heap.size, 0, none⟩) 1 1, .slice (some ⟨bv, ov, none⟩) 1 cv]
          rwa [World.size_alloc] at this
        refine (concat_x 3 5 (.slice (some ⟨w'.heap.size, 0, none⟩) 1 1) (.slice (some ⟨bv, ov, none⟩) 1 cv) _ _ (row_of_blk (cs := [.slice (some ⟨w'.heap.size, 0, none⟩) 1 1, .slice (some ⟨bv, ov, none⟩) 1 cv]) b2 rfl (by decide)) (row_of_blk (cs := ints [3]) b1 rfl (by decide)) (HV.out.kept ((k.alloc _).alloc _))).mono ?_
        rintro e w2 ⟨v, h1, h2, h3⟩
        exact ⟨v, h1, h2, (((Kept.refl [] w').alloc _).alloc _).trans h3⟩
      have CG : Hid (∀ w', Kept [] W w' → Calls Tryz.prog 95 #[.slice (some ⟨w'.heap.size + 1, 0, none⟩) 2 2] ((w'.alloc (.cells #[.int .i64 2] 3)).alloc (.cells #[.slice (some ⟨w'.heap.size, 0, none⟩) 1 1, .slice (some ⟨bm, om, none⟩) 1 cm] 24)) (ConcatP 2 1 w')) := fun w' k => by
        have b1 : Blk ((w'.alloc (.cells #[.int .i64 2] 3)).alloc (.cells #[.slice (some ⟨w'.heap.size, 0, none⟩) 1 1, .slice (some ⟨bm, om, none⟩) 1 cm] 24)) w'.heap.size 3 #[.int .i64 2] := (Blk.new _ _ _).alloc _
        have b2 : Blk ((w'.alloc (.cells #[.int .i64 2] 3)).alloc (.cells #[.slice (some ⟨w'.heap.size, 0, none⟩) 1 1, .slice (some ⟨bm, om, none⟩) 1 cm] 24)) (w'.heap.size + 1) 24 #[.slice (some ⟨w'.heap.size, 0, none⟩) 1 1, .slice (some ⟨bm, om, none⟩) 1 cm] := by
          have := Blk.new (w'.alloc (.cells #[.int .i64 2] 3)) 24 #[.slice (some ⟨w'.heap.size, 0, none⟩) 1 1, .slice (some ⟨bm, om, none⟩) 1 cm]
          rwa [World.size_alloc] at this
        refine (concat_x 2 1 (.slice (some ⟨w'.heap.size, 0, none⟩) 1 1) (.slice (some ⟨bm, om, none⟩) 1 cm) _ _ (row_of_blk (cs := [.slice (some ⟨w'.heap.size, 0, none⟩) 1 1, .slice (some ⟨bm, om, none⟩) 1 cm]) b2 rfl (by decide)) (row_of_blk (cs := ints [2]) b1 rfl (by decide)) (HM.out.kept ((k.alloc _).alloc _))).mono ?_
        rintro e w2 ⟨v, h1, h2, h3⟩
        exact ⟨v, h1, h2, (((Kept.refl [] w').alloc _).alloc _).trans h3⟩
      clear hrowE
      go_wp2_with (go_at_call 95; refine (CF.out _ kr).mono ?_)
      rintro e w5 ⟨vf, rfl, hrf, k5⟩
      have HF := Lib.hid hrf
      obtain ⟨af, cf, rfl, _, _⟩ := hrf.form
      clear hrf
      go_wp2_with (go_at_call 95; refine (CG.out _ (kr.trans k5)).mono ?_)
      rintro e w6 ⟨vg, rfl, hrg, k6⟩
      have HG := Lib.hid hrg
      obtain ⟨ag, cg, rfl, _, _⟩ := hrg.form
      clear hrg
      go_wp2_with fail
      have HF6 := Lib.hid (HF.out.kept k6)
      have AF1 : Hid (∀ w', (∃ g, w6.heap.size ≤ g ∧ Kept [g] w6 w') → Calls Tryz.prog 96 #[.int .i64 11, Value.slice af 2 cf, .int .i64 1] w' fun e w2 => e = .returned (.int .i64 8) ∧ Kept [] w' w2) := fun w' ⟨g, hg, k⟩ => by
        have := at_any 11 1 [z3, z5] _ w' (by omega) (by omega) ⟨by omega, by omega⟩ (HF6.out.keptG hg k) (by decide) (by decide)
        rwa [show atN 11 1 [z3, z5] = 8 by decide] at this
      have AF2 : Hid (∀ w', (∃ g, w6.heap.size ≤ g ∧ Kept [g] w6 w') → Calls Tryz.prog 96 #[.int .i64 11, Value.slice af 2 cf, .int .i64 2] w' fun e w2 => e = .returned (.int .i64 2) ∧ Kept [] w' w2) := fun w' ⟨g, hg, k⟩ => by
        have := at_any 11 2 [z3, z5] _ w' (by omega) (by omega) ⟨by omega, by omega⟩ (HF6.out.keptG hg k) (by decide) (by decide)
        rwa [show atN 11 2 [z3, z5] = 2 by decide] at this
      have AG1 : Hid (∀ w', (∃ g, w6.heap.size ≤ g ∧ Kept [g] w6 w') → Calls Tryz.prog 96 #[.int .i64 11, Value.slice ag 2 cg, .int .i64 1] w' fun e w2 => e = .returned (.int .i64 3) ∧ Kept [] w' w2) := fun w' ⟨g, hg, k⟩ => by
        have := at_any 11 1 [z2, z1] _ w' (by omega) (by omega) ⟨by omega, by omega⟩ (HG.out.keptG hg k) (by decide) (by decide)
        rwa [show atN 11 1 [z2, z1] = 3 by decide] at this
      have AG2 : Hid (∀ w', (∃ g, w6.heap.size ≤ g ∧ Kept [g] w6 w') → Calls Tryz.prog 96 #[.int .i64 11, Value.slice ag 2 cg, .int .i64 2] w' fun e w2 => e = .returned (.int .i64 4) ∧ Kept [] w' w2) := fun w' ⟨g, hg, k⟩ => by
        have := at_any 11 2 [z2, z1] _ w' (by omega) (by omega) ⟨by omega, by omega⟩ (HG.out.keptG hg k) (by decide) (by decide)
        rwa [show atN 11 2 [z2, z1] = 4 by decide] at this
      obtain ⟨p0, hp, hpz, hps, hpb⟩ := info_parts infoPoint
      have k6W : Kept [] W w6 := (kr.trans k5).trans k6
      have hwl : w.heap.size < w6.heap.size := Nat.lt_of_lt_of_le HBL.out k6W.size
      clear hi hz0 hz1 hz2
      go_loopw [22, 23] (fun vp vj wr => (vj = .int .i64 1 ∧ vp = .slice none 0 0 ∧ Kept [] w6 wr) ∨ (vj = .int .i64 2 ∧ (∃ g c, vp = .slice (some ⟨g, 0, none⟩) 1 c ∧ w6.heap.size ≤ g ∧ wr.ownsRow w6.heap.size 71 3 (.slice (some ⟨g, 0, none⟩) 1 c) 1 (ints [1, 8, 3])) ∧ Kept [] w6 wr) ∨
        (vj = .int .i64 3 ∧ (∃ g c, vp = .slice (some ⟨g, 0, none⟩) 2 c ∧ Row wr 3 vp 2 (ints [1, 8, 3, 2, 2, 4])) ∧ Kept [] w6 wr)) (fun _ vj _ => 3 - (intOf vj).toNat)
      case atStart => exact Or.inl ⟨rfl, rfl, Kept.refl _ _⟩
      case round =>
        rcases hrel with ⟨rfl, rfl, hkr2⟩ | ⟨rfl, ⟨g, c, rfl, hgg, hown⟩, hkr2⟩ | ⟨rfl, ⟨g, c, rfl, hrowP⟩, hkr2⟩
        · have q1 : ∀ w', Kept [] wr w' → w'.cell? ⟨w.heap.size, 1, none⟩ = some (.int .i64 11) := fun w' k => (k.cell (p := ⟨w.heap.size, 1, none⟩) (Nat.lt_of_lt_of_le hwl hkr2.size) (by simp)).trans ((K.out wr (k6W.trans hkr2)).2.1)
          have A1 : Hid (∀ w', Kept [] wr w' → Calls Tryz.prog 96 #[.int .i64 11, .slice af 2 cf, .int .i64 1] w' fun e w2 => e = .returned (.int .i64 8) ∧ Kept [] w' w2) := fun w' k => AF1.out w' ⟨w6.heap.size, Nat.le_refl _, (hkr2.mono (by simp)).trans (k.mono (by simp))⟩
          have A2 : Hid (∀ w', Kept [] wr w' → Calls Tryz.prog 96 #[.int .i64 11, .slice ag 2 cg, .int .i64 1] w' fun e w2 => e = .returned (.int .i64 3) ∧ Kept [] w' w2) := fun w' k => AG1.out w' ⟨w6.heap.size, Nat.le_refl _, (hkr2.mono (by simp)).trans (k.mono (by simp))⟩
          have OWN : ∀ w', Kept [] wr w' → w'.ownsRow w6.heap.size 71 3 (.slice none 0 0) 0 [] := fun w' _ => World.ownsRow_nil _ _ _ _
          have hsz6 := hkr2.size
          go_upto_region 15 with (fail)
          go_region_held3 (fun w' => Kept [] wr w') (repeat (first | (with_reducible assumption) | (with_reducible exact Kept.refl _ _) | (with_reducible refine Kept.drew ?_) | (with_reducible refine Kept.alloc ?_ _)))
            (first
              | (go_at_call_of 96 (Value.slice af 2 cf); refine (A1.out _ (by assumption)).mono ?_; rintro e w7 ⟨rfl, hk7⟩; have ht7 : Kept [] wr w7 := ((Kept.refl [] wr).drew).trans hk7; have hs7 : Kept [] wr w7 := ht7.mono (by simp))
              | (go_at_call 96; refine (A2.out _ (by assumption)).mono ?_; rintro e w8 ⟨rfl, hk8⟩; have ht8 : Kept [] wr w8 := ht7.trans hk8; have hs8 : Kept [] wr w8 := ht8.mono (by simp))
              | (refine step_append_lies _ rfl _ _ 31 rfl w6.heap.size 71 p0 (.agg #[.int .i64 0, .int .i64 0, .int .i64 0]) 3 24 Tryz.underlying31 hp hpz hps hpb rfl (by decide) _ _ _ rfl ((OWN w8 ht8).alloc _) ⟨w8.heap.size, 0, none⟩ 1 1 [.int .i64 1, .int .i64 8, .int .i64 3] rfl rfl (cell3_new _ _ _ _ _) (by intro u hu; simp at hu; rcases hu with rfl | rfl | rfl <;> rfl) (by omega) (by unfold maxLen; omega) (by omega) (by have := ht8.size; simp; omega) _ rfl ?_; intro g2 cap w9 hown9 hg9 hl9 hlt9; have hk9 : Kept [] wr w9 := (hs8.alloc _).grown hg9 (fun k hk => (by cases hk))))
          rename_i hHeld
          clear hHeld q1
          have hgg2 : w6.heap.size ≤ g2 := (hown9.lt g2 rfl).1
          go_wp2_with fail
          go_roundw
          case rel => exact Or.inr (Or.inl ⟨rfl, ⟨_, _, rfl, hgg2, hown9⟩, hkr2.trans hk9⟩)
          case measure => simp [intOf]
        · have q1 : ∀ w', Kept [g] wr w' → w'.cell? ⟨w.heap.size, 1, none⟩ = some (.int .i64 11) := fun w' k => (k.cell (p := ⟨w.heap.size, 1, none⟩) (Nat.lt_of_lt_of_le hwl hkr2.size) (by simp; omega)).trans ((K.out wr (k6W.trans hkr2)).2.1)
          have A1 : Hid (∀ w', Kept [g] wr w' → Calls Tryz.prog 96 #[.int .i64 11, .slice af 2 cf, .int .i64 2] w' fun e w2 => e = .returned (.int .i64 2) ∧ Kept [] w' w2) := fun w' k => AF2.out w' ⟨g, hgg, (hkr2.mono (by simp)).trans k⟩
          have A2 : Hid (∀ w', Kept [g] wr w' → Calls Tryz.prog 96 #[.int .i64 11, .slice ag 2 cg, .int .i64 2] w' fun e w2 => e = .returned (.int .i64 4) ∧ Kept [] w' w2) := fun w' k => AG2.out w' ⟨g, hgg, (hkr2.mono (by simp)).trans k⟩
          have OWN : ∀ w', Kept [] wr w' → w'.ownsRow w6.heap.size 71 3 (.slice (some ⟨g, 0, none⟩) 1 c) 1 (ints [1, 8, 3]) := fun w' k => own_kept hown k (by simp)
          have hsz6 := hkr2.size
          go_upto_region 15 with (fail)
          go_region_held3 (fun w' => Kept [g] wr w') (repeat (first | (with_reducible assumption) | (with_reducible exact Kept.refl _ _) | (with_reducible refine Kept.drew ?_) | (with_reducible refine Kept.alloc ?_ _)))
            (first
              | (go_at_call_of 96 (Value.slice af 2 cf); refine (A1.out _ (by assumption)).mono ?_; rintro e w7 ⟨rfl, hk7⟩; have ht7 : Kept [] wr w7 := ((Kept.refl [] wr).drew).trans hk7; have hs7 : Kept [g] wr w7 := ht7.mono (by simp))
              | (go_at_call 96; refine (A2.out _ (by assumption)).mono ?_; rintro e w8 ⟨rfl, hk8⟩; have ht8 : Kept [] wr w8 := ht7.trans hk8; have hs8 : Kept [g] wr w8 := ht8.mono (by simp))
              | (refine step_append_lies _ rfl _ _ 31 rfl w6.heap.size 71 p0 (.agg #[.int .i64 0, .int .i64 0, .int .i64 0]) 3 24 Tryz.underlying31 hp hpz hps hpb rfl (by decide) _ _ _ rfl ((OWN w8 ht8).alloc _) ⟨w8.heap.size, 0, none⟩ 1 1 [.int .i64 2, .int .i64 2, .int .i64 4] rfl rfl (cell3_new _ _ _ _ _) (by intro u hu; simp at hu; rcases hu with rfl | rfl | rfl <;> rfl) (by omega) (by unfold maxLen; omega) (by omega) (by have := ht8.size; simp; omega) _ rfl ?_; intro g2 cap w9 hown9 hg9 hl9 hlt9; have hk9 : Kept [g] wr w9 := (hs8.alloc _).grown hg9 (fun k hk => (by cases hk; exact Or.inl (by simp)))))
          rename_i hHeld
          clear hHeld q1
          have hrow9 := Row.of_own hown9 (by omega)
          go_wp2_with fail
          go_roundw
          case rel => exact Or.inr (Or.inr ⟨rfl, ⟨_, _, rfl, hrow9⟩, hkr2.fresh hk9 (by simpa using hgg)⟩)
          case measure => simp [intOf]
        · have hfin := HE.out.kept ((k5.trans k6).trans hkr2)
          go_wp2_with fail
          go_ret3
          exact ⟨_, _, rfl, hfin, hrowP, hkW.trans (k6W.trans hkr2)⟩
end Go.Proofs.YtabiklpemoijcaaGreatDoor
