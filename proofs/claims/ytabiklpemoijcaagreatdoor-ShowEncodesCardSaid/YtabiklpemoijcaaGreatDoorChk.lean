/- The example's points: CheckPoint. -/
import Derived.Test.YtabiklpemoijcaaGreatDoorDeal
namespace Go.Proofs.YtabiklpemoijcaaGreatDoor
open Go.RowKit

theorem own_ne {w w' : World} {S : List Nat} {B g c : Nat} {e : TypeId} {size n : Nat} {xs : List Value} (h : w.ownsRow B e size (.slice (some ⟨g, 0, none⟩) n c) n xs) (k : Kept S w w') (hg : g ∉ S) :
    w'.ownsRow B e size (.slice (some ⟨g, 0, none⟩) n c) n xs := by
  refine ⟨h.1, ?_⟩
  rcases h.2 with ⟨h1, _⟩ | ⟨g', cap, cur, hv, hB, hb, r⟩
  · cases h1
  · have e1 : g = g' := by injection hv with h1 h2 h3; injection h1 with h4; injection h4
    subst e1
    exact Or.inr ⟨g, cap, cur, hv, hB, (k.block g (Array.getElem?_eq_some_iff.1 hb).1 hg).trans hb, r⟩
theorem Kept.grownSl {S : List Nat} {W Y Z' : World} {g n c : Nat} (h : Kept S W Y) (hg : Y.grownBy Z' (Value.slice (some ⟨g, 0, none⟩) n c).ownBlock) (hS : g ∈ S) : Kept S W Z' :=
  h.grown hg (fun k hk => by cases hk; exact Or.inl hS)
theorem own_of_blk {w : World} {g : Nat} {T : TypeId} {cs : List Value} (h : Blk w g T cs.toArray) (hn : cs.length ≤ maxLen) : w.ownsRow g T 1 (.slice (some ⟨g, 0, none⟩) cs.length cs.length) cs.length cs :=
  ⟨by simp, Or.inr ⟨g, cs.length, cs.toArray, rfl, Nat.le_refl _, h, Nat.le_refl _, hn, by simp, by simp⟩⟩

set_option maxRecDepth 100000 in
set_option maxHeartbeats 4000000 in
theorem check_x (sv ve : Value) (j sh mk : Nat) (w : World) (hs : SetV w sv) (he : Row w 1 ve 1 (ints [6])) (hj : 1 ≤ j) (hj2 : j < 11) (hsh : sh < 11) (hmk : mk < 11) (heq : commitN sh mk = prodX [16, 6] [1, (j : Int)]) :
    Calls Tryz.prog 51 #[sv, .int .i64 16, ve, .agg #[.int .i64 j, .int .i64 sh, .int .i64 mk]] w fun e w' => e = .returned (.bool true) ∧ Kept [] w w' := by
  obtain ⟨sa, sc, rfl, hrow⟩ := hs
  obtain ⟨ae, ce, rfl, _, _⟩ := he.form
  obtain ⟨be, oe, rfl, hce⟩ := he.at_ (by omega)
  obtain ⟨W, hW⟩ : ∃ W, ((w.alloc (.cells (setC (.slice sa 2 sc)) 26)).alloc (.cells #[.int .i64 j, .int .i64 sh, .int .i64 mk] 71)) = W := ⟨_, rfl⟩
  have hb : Blk W w.heap.size 26 (setC (.slice sa 2 sc)) := hW ▸ (Blk.new _ _ _).alloc _
  have hp : Blk W (w.heap.size + 1) 71 #[.int .i64 j, .int .i64 sh, .int .i64 mk] := by
    have := Blk.new (w.alloc (.cells (setC (.slice sa 2 sc)) 26)) 71 #[.int .i64 j, .int .i64 sh, .int .i64 mk]
    rw [World.size_alloc] at this
    exact hW ▸ this
  have hkW : Kept [] w W := hW ▸ ((Kept.refl _ _).alloc _).alloc _
  have hWs : W.heap.size = w.heap.size + 2 := by rw [← hW]; simp only [World.size_alloc]
  have HS : Hid (SetV W (.agg (setC (.slice sa 2 sc)))) := ⟨sa, sc, rfl, hrow.kept hkW⟩
  have HE := Lib.hid (he.kept hkW)
  have EX0 : Hid (∀ w', Kept [] W w' → w'.cell? ⟨be, oe, none⟩ = some (.int .i64 6)) := Kept.cellOf ((hkW.cell (p := ⟨be, oe, none⟩) (World.block_lt_of_cell? w _ (hce 0 _ rfl)) (by simp)).trans (hce 0 _ rfl))
  have K : Hid (∀ w', Kept [] W w' → w'.cell? ⟨w.heap.size, 0, none⟩ = some (.int .i64 23) ∧ w'.cell? ⟨w.heap.size, 1, none⟩ = some (.int .i64 11) ∧ w'.cell? ⟨w.heap.size, 2, none⟩ = some (.int .i64 4) ∧ w'.cell? ⟨w.heap.size, 3, none⟩ = some (.slice sa 2 sc) ∧ w'.cell? ⟨w.heap.size, 4, none⟩ = some (.int .i64 12)) :=
    fun w' k => ⟨(hb.kept k (by simp)).cell 0, (hb.kept k (by simp)).cell 1, (hb.kept k (by simp)).cell 2, (hb.kept k (by simp)).cell 3, (hb.kept k (by simp)).cell 4⟩
  have PK : Hid (∀ w', Kept [] W w' → w'.cell? ⟨w.heap.size + 1, 0, none⟩ = some (.int .i64 j) ∧ w'.cell? ⟨w.heap.size + 1, 1, none⟩ = some (.int .i64 sh) ∧ w'.cell? ⟨w.heap.size + 1, 2, none⟩ = some (.int .i64 mk)) :=
    fun w' k => ⟨(hp.kept k (by simp)).cell 0, (hp.kept k (by simp)).cell 1, (hp.kept k (by simp)).cell 2⟩
  have HW : Hid (((w.alloc (.cells #[.int .i64 23, .int .i64 11, .int .i64 4, .slice sa 2 sc, .int .i64 12] 26)).alloc (.cells #[.int .i64 j, .int .i64 sh, .int .i64 mk] 71)) = W) := hW
  have VS : Hid (∀ w', Kept [] W w' → Calls Tryz.prog 93 #[.agg #[.int .i64 23, .int .i64 11, .int .i64 4, .slice sa 2 sc, .int .i64 12]] w' fun e w2 => e = .returned (.bool true) ∧ Kept [] w' w2) := fun w' k => validSetup_x _ w' (HS.out.kept k)
  have EL : Hid (∀ w', Kept [] W w' → Calls Tryz.prog 112 #[.agg #[.int .i64 23, .int .i64 11, .int .i64 4, .slice sa 2 sc, .int .i64 12], .slice (some ⟨be, oe, none⟩) 1 ce, .int .i64 1] w' fun e w2 => e = .returned (.bool true) ∧ Kept [] w' w2) :=
    fun w' k => elements_x _ _ [6] w' (HS.out.kept k) (HE.out.kept k) (by intro x hx; simp at hx; subst hx; exact ⟨6, rfl, by omega, by omega, by decide⟩)
  have E16 : Hid (∀ w', Calls Tryz.prog 113 #[.agg #[.int .i64 23, .int .i64 11, .int .i64 4], .int .i64 16] w' fun e w2 => e = .returned (.bool true) ∧ Kept [] w' w2) := fun w' => element_x 16 w' (by omega) (by omega) (by decide)
  have EXP : Hid (∀ w', Kept [] W w' → Calls Tryz.prog 94 #[.agg #[.int .i64 23, .int .i64 11, .int .i64 4, .slice sa 2 sc, .int .i64 12], .slice (some ⟨w'.heap.size, 0, none⟩) 2 2, .int .i64 2] (w'.alloc (.cells #[.int .i64 sh, .int .i64 mk] 3)) fun e w2 => e = .returned (.bool true) ∧ Kept [] w' w2) :=
    fun w' k => (exponents_x _ _ [(sh : Int), (mk : Int)] _ (HS.out.kept (k.alloc _)) (row_of_blk (cs := ints [(sh : Int), (mk : Int)]) (Blk.new w' 3 #[.int .i64 sh, .int .i64 mk]) rfl (by simp)) (by intro x hx; simp at hx; rcases hx with rfl | rfl <;> exact ⟨by omega, by omega⟩)).mono
      fun e w2 h => ⟨h.1, ((Kept.refl [] w').alloc _).trans h.2⟩
  have CM : Hid (∀ w', Kept [] W w' → Calls Tryz.prog 37 #[.agg #[.int .i64 23, .int .i64 11, .int .i64 4, .slice sa 2 sc, .int .i64 12], .int .i64 sh, .int .i64 mk] w' fun e w2 => e = .returned (.int .i64 ((prodX [16, 6] [1, (j : Int)] : Nat) : Int)) ∧ Kept [] w' w2) := fun w' k => by
    have := commit_x _ sh mk w' (HS.out.kept k) ⟨by omega, by omega⟩ ⟨by omega, by omega⟩
    rwa [heq] at this
  have hpw : powN 11 (j : Int) 1 = j := by
    unfold powN
    have e1 := res_eq 11 (j : Int) (by omega)
    rw [Int.emod_eq_of_lt (by omega) (by omega)] at e1
    rw [Nat.pow_one, show res 11 (j : Int) = j by omega, Nat.mod_eq_of_lt hj2]
  have PW : Hid (∀ w', Calls Tryz.prog 114 #[.int .i64 11, .int .i64 j, .int .i64 1] w' fun e w2 => e = .returned (.int .i64 j) ∧ Kept [] w' w2) := fun w' => by
    have := fpow_any 11 j 1 w' (by omega) (by omega) ⟨by omega, by omega⟩ (by omega)
    rwa [hpw] at this
  obtain ⟨i0, hi, hz0, hz1, hz2⟩ := info_parts infoInt
  obtain ⟨e0, e1, e2, e3, e4⟩ := K.out W (Kept.refl _ _)
  obtain ⟨p0, p1, p2⟩ := PK.out W (Kept.refl _ _)
  clear hW hb hp hrow he hce heq hpw
  go_enter Tryz.func51, Tryz.ntmps51
  unfold setC
  go_upto_region 1 with (fail)
  rw [HW.out]
  go_region
  obtain ⟨X, hX⟩ : ∃ X, (W.alloc (.cells #[.int .i64 23, .int .i64 11, .int .i64 4, .slice sa 2 sc, .int .i64 12] 130)).drew = X := ⟨_, rfl⟩
  have hkX : Kept [] W X := hX ▸ ((Kept.refl _ _).alloc _).drew
  have hx : Blk X (w.heap.size + 2) 130 (setC (.slice sa 2 sc)) := by
    have := Blk.new W 130 (setC (.slice sa 2 sc))
    rw [hWs] at this
    exact hX ▸ this
  have hXs : X.heap.size = w.heap.size + 3 := by rw [← hX]; simp only [World.drew, World.size_alloc]; omega
  have L : Hid (∀ w', Kept [] X w' → w'.cell? ⟨w.heap.size + 2, 0, none⟩ = some (.int .i64 23) ∧ w'.cell? ⟨w.heap.size + 2, 1, none⟩ = some (.int .i64 11) ∧ w'.cell? ⟨w.heap.size + 2, 2, none⟩ = some (.int .i64 4) ∧ w'.cell? ⟨w.heap.size + 2, 3, none⟩ = some (.slice sa 2 sc) ∧ w'.cell? ⟨w.heap.size + 2, 4, none⟩ = some (.int .i64 12)) :=
    fun w' k => ⟨(hx.kept k (by simp)).cell 0, (hx.kept k (by simp)).cell 1, (hx.kept k (by simp)).cell 2, (hx.kept k (by simp)).cell 3, (hx.kept k (by simp)).cell 4⟩
  rw [hX]
  clear e0 e1 e2 e3 e4 p0 p1 p2 hX hx
  obtain ⟨e0, e1, e2, e3, e4⟩ := K.out X hkX
  go_wp2_with (go_at_call 93; refine (VS.out _ hkX).mono ?_)
  rintro e w1 ⟨rfl, k1⟩
  clear e0 e1 e2 e3 e4
  obtain ⟨f0, f1, f2, f3, f4⟩ := L.out w1 k1
  go_wp2_with (go_at_call 112; refine (EL.out _ (hkX.trans k1)).mono ?_)
  rintro e w2 ⟨rfl, hk2⟩
  have k2 := k1.trans hk2
  clear hk2 f0 f1 f2 f3 f4 k1
  obtain ⟨e0, e1, e2, e3, e4⟩ := K.out w2 (hkX.trans k2)
  go_wp2_with (go_at_call 113; refine (E16.out _).mono ?_)
  rintro e w3 ⟨rfl, hk3⟩
  have k3 := k2.trans hk3
  clear hk3 e0 e1 e2 e3 e4 k2
  obtain ⟨p0, p1, p2⟩ := PK.out w3 (hkX.trans k3)
  obtain ⟨f0, f1, f2, f3, f4⟩ := L.out w3 k3
  have hj1 : decide ((j : Int) < 1) = false := by simp; omega
  have hj3 : decide ((12 : Int) < (j : Int)) = false := by simp; omega
  have hj4 : decide ((11 : Int) ≤ (j : Int)) = false := by simp; omega
  go_wp2_with (go_at_call 94; refine (EXP.out _ (hkX.trans k3)).mono ?_)
  rintro e w4 ⟨rfl, hk4⟩
  have k4 := k3.trans hk4
  clear hk4 f0 f1 f2 f3 f4 p0 p1 p2 k3 hj1 hj3 hj4
  have hs4 := k4.size
  have bB := Blk.new w4 3 #[.int .i64 16]
  have bE := Blk.new (w4.alloc (.cells #[.int .i64 16] 3)) 3 #[.int .i64 1]
  rw [World.size_alloc] at bE
  obtain ⟨W5, hW5⟩ : ∃ X, (w4.alloc (.cells #[.int .i64 16] 3)).alloc (.cells #[.int .i64 1] 3) = X := ⟨_, rfl⟩
  obtain ⟨g1, hg1⟩ : ∃ g, w4.heap.size = g := ⟨_, rfl⟩
  have bB5 : Blk W5 g1 3 #[.int .i64 16] := hg1 ▸ hW5 ▸ bB.alloc _
  have bE5 : Blk W5 (g1 + 1) 3 #[.int .i64 1] := hg1 ▸ hW5 ▸ bE
  have k5 : Kept [] w4 W5 := hW5 ▸ ((Kept.refl _ _).alloc _).alloc _
  have hgw : w.heap.size + 3 ≤ g1 := by omega
  have hg4 : w4.heap.size ≤ g1 := by omega
  clear bB bE
  go_upto_region 8 with (fail)
  have OA : Hid (W5.ownsRow g1 3 1 (.slice (some ⟨g1, 0, none⟩) 1 1) 1 [.int .i64 16]) := own_of_blk (cs := [.int .i64 16]) bB5 (by decide)
  have OB : Hid (W5.ownsRow (g1 + 1) 3 1 (.slice (some ⟨g1 + 1, 0, none⟩) 1 1) 1 [.int .i64 1]) := own_of_blk (cs := [.int .i64 1]) bE5 (by decide)
  have k5X : Kept [] X W5 := k4.trans k5
  have hs5 : g1 + 1 < W5.heap.size := bE5.lt
  clear bB5 bE5 hW5 hg1 hs4
  go_loopw [11, 12, 13, 14, 74] (fun va vb _ _ vi wr => (vi = .int .i64 0 ∧ va = .slice (some ⟨g1, 0, none⟩) 1 1 ∧ vb = .slice (some ⟨g1 + 1, 0, none⟩) 1 1 ∧ wr = W5) ∨
    (vi = .int .i64 1 ∧ (∃ g2 c2 g3 c3, va = .slice (some ⟨g2, 0, none⟩) 2 c2 ∧ vb = .slice (some ⟨g3, 0, none⟩) 2 c3) ∧ Row wr 1 va 2 (ints [16, 6]) ∧ Row wr 1 vb 2 (ints [1, (j : Int)]) ∧ Kept [g1, g1 + 1] W5 wr)) (fun _ _ _ _ vi _ => 1 - (intOf vi).toNat)
  case atStart => exact Or.inl ⟨rfl, rfl, rfl, rfl⟩
  case round =>
    rcases hrel with ⟨rfl, rfl, rfl, hwr⟩ | ⟨rfl, ⟨g2, c2, g3, c3, rfl, rfl⟩, hrA, hrB, hkr⟩
    · subst hwr
      have q6 := EX0.out wr (hkX.trans k5X)
      have qj : ∀ w', Kept [g1, g1 + 1] wr w' → w'.cell? ⟨w.heap.size + 1, 0, none⟩ = some (.int .i64 j) := fun w' k => (k.cell (p := ⟨w.heap.size + 1, 0, none⟩) (by show w.heap.size + 1 < _; omega) (by simp; omega)).trans (PK.out wr (hkX.trans k5X)).1
      have hw1 : IntKind.i64.wrap ((0 : Int) + 1) = 1 := by decide
      have hw2 : IntKind.i64.wrap (1 : Int) = 1 := by decide
      go_upto_region 10 with (fail)
      clear q6
      go_region_held3 (fun w' => Kept [g1, g1 + 1] wr w') (repeat (first | (with_reducible assumption) | (with_reducible exact Kept.refl _ _) | (with_reducible refine Kept.drew ?_) | (with_reducible refine Kept.alloc ?_ _) | (with_reducible refine Kept.trans ?_ (hkP.mono (by simp))) | (with_reducible refine Kept.grownSl ?_ hgA (by simp)) | (with_reducible refine Kept.grownSl ?_ hgB (by simp))))
        (first
          | (go_at_call 114; refine (PW.out _).mono ?_; rintro e wP ⟨rfl, hkP⟩)
          | (refine step_append_lies _ rfl _ _ 24 rfl g1 3 i0 (.int .i64 0) 1 8 Tryz.underlying24 hi hz0 hz1 hz2 rfl (by decide) (.slice (some ⟨g1, 0, none⟩) 1 1) _ _ rfl (own_ne (S := [g1 + 1]) OA.out (by (repeat (first | (with_reducible assumption) | (with_reducible exact Kept.refl _ _) | (with_reducible refine Kept.drew ?_) | (with_reducible refine Kept.alloc ?_ _) | (with_reducible refine Kept.trans ?_ (hkP.mono (by simp))) | (with_reducible refine Kept.grownSl ?_ hgA (by simp)) | (with_reducible refine Kept.grownSl ?_ hgB (by simp))))) (by simp)) _ 1 1 [.int .i64 6] rfl rfl (cell_one_new _ _ _) (by intro u hu; rw [List.mem_singleton] at hu; subst hu; rfl) (by omega) (by unfold maxLen; omega) (by omega) (Nat.le_trans (m := wr.heap.size) (by omega) (Kept.size (S := [g1, g1 + 1]) (w := wr) (by (repeat (first | (with_reducible assumption) | (with_reducible exact Kept.refl _ _) | (with_reducible refine Kept.drew ?_) | (with_reducible refine Kept.alloc ?_ _) | (with_reducible refine Kept.trans ?_ (hkP.mono (by simp))) | (with_reducible refine Kept.grownSl ?_ hgA (by simp)) | (with_reducible refine Kept.grownSl ?_ hgB (by simp))))))) _ rfl ?_; intro gA cA wA hownA hgA hlA hltA)
          | (refine step_append_lies _ rfl _ _ 24 rfl (g1 + 1) 3 i0 (.int .i64 0) 1 8 Tryz.underlying24 hi hz0 hz1 hz2 rfl (by decide) (.slice (some ⟨g1 + 1, 0, none⟩) 1 1) _ _ rfl (own_ne (S := [g1]) OB.out (by (repeat (first | (with_reducible assumption) | (with_reducible exact Kept.refl _ _) | (with_reducible refine Kept.drew ?_) | (with_reducible refine Kept.alloc ?_ _) | (with_reducible refine Kept.trans ?_ (hkP.mono (by simp))) | (with_reducible refine Kept.grownSl ?_ hgA (by simp)) | (with_reducible refine Kept.grownSl ?_ hgB (by simp))))) (by simp)) _ 1 1 [.int .i64 j] rfl rfl (cell_one_new _ _ _) (by intro u hu; rw [List.mem_singleton] at hu; subst hu; rfl) (by omega) (by unfold maxLen; omega) (by omega) (Nat.le_trans (m := wr.heap.size) (by omega) (Kept.size (S := [g1, g1 + 1]) (w := wr) (by (repeat (first | (with_reducible assumption) | (with_reducible exact Kept.refl _ _) | (with_reducible refine Kept.drew ?_) | (with_reducible refine Kept.alloc ?_ _) | (with_reducible refine Kept.trans ?_ (hkP.mono (by simp))) | (with_reducible refine Kept.grownSl ?_ hgA (by simp)) | (with_reducible refine Kept.grownSl ?_ hgB (by simp))))))) _ rfl ?_; intro gB cB wB hownB hgB hlB hltB))
      rename_i hHeld
      have hsA : wr.heap.size ≤ wA.heap.size := Kept.size (S := [g1, g1 + 1]) (w := wr) (by (repeat (first | (with_reducible assumption) | (with_reducible exact Kept.refl _ _) | (with_reducible refine Kept.drew ?_) | (with_reducible refine Kept.alloc ?_ _) | (with_reducible refine Kept.trans ?_ (hkP.mono (by simp))) | (with_reducible refine Kept.grownSl ?_ hgA (by simp)) | (with_reducible refine Kept.grownSl ?_ hgB (by simp)))))
      have hAB : Kept [g1 + 1] wA wB := by (repeat (first | (with_reducible assumption) | (with_reducible exact Kept.refl _ _) | (with_reducible refine Kept.drew ?_) | (with_reducible refine Kept.alloc ?_ _) | (with_reducible refine Kept.trans ?_ (hkP.mono (by simp))) | (with_reducible refine Kept.grownSl ?_ hgA (by simp)) | (with_reducible refine Kept.grownSl ?_ hgB (by simp))))
      have hgA2 : gA ∉ [g1 + 1] := by
        rcases hlA with h | h
        · injection h with h; subst h; simp
        · simp only [World.size_alloc, World.drew] at h; simp; omega
      have hrA : Row wB 1 (.slice (some ⟨gA, 0, none⟩) 2 cA) 2 (ints [16, 6]) := Row.of_own (own_ne hownA hAB hgA2) (by omega)
      have hrB : Row wB 1 (.slice (some ⟨gB, 0, none⟩) 2 cB) 2 (ints [1, (j : Int)]) := Row.of_own hownB (by omega)
      clear hw1 hw2 qj hownA hownB hgA hgB hlA hlB hAB hgA2
      go_wp2_with fail
      go_roundw
      case rel => exact Or.inr ⟨rfl, ⟨_, _, _, _, rfl, rfl⟩, hrA, hrB, hHeld⟩
      case measure => simp [intOf]
    · have kF : Kept [] X wr := k4.trans ((k5.fresh hkr (by simp; omega)))
      obtain ⟨e0, e1, e2, e3, e4⟩ := K.out wr (hkX.trans kF)
      have PR : Hid (Calls Tryz.prog 101 #[.agg #[.int .i64 23, .int .i64 11, .int .i64 4], .slice (some ⟨g2, 0, none⟩) 2 c2, .slice (some ⟨g3, 0, none⟩) 2 c3] wr fun e w' => e = .returned (.tuple #[.int .i64 ((prodX [16, 6] [1, (j : Int)] : Nat) : Int), .bool true]) ∧ Kept [] wr w') :=
        product_x _ _ [16, 6] [1, (j : Int)] wr hrA hrB rfl (by intro x hx; simp at hx; rcases hx with rfl | rfl <;> exact ⟨by omega, by omega⟩) (by intro x hx; simp at hx; rcases hx with rfl | rfl <;> exact ⟨by omega, by omega⟩)
      obtain ⟨q, hq⟩ : ∃ q, prodX [16, 6] [1, (j : Int)] = q := ⟨_, rfl⟩
      rw [hq] at PR CM
      clear hrA hrB hkr hq
      go_wp2_with (go_at_call 101; refine PR.out.mono ?_)
      rintro e w6 ⟨rfl, hk6⟩
      clear e0 e1 e2 e3 e4
      obtain ⟨e0, e1, e2, e3, e4⟩ := K.out w6 (hkX.trans (kF.trans hk6))
      obtain ⟨p0, p1, p2⟩ := PK.out w6 (hkX.trans (kF.trans hk6))
      go_wp2_with (go_at_call 37; refine (CM.out _ (hkX.trans (kF.trans hk6))).mono ?_)
      rintro e w7 ⟨rfl, hk7⟩
      go_wp2_with fail
      go_ret
      exact ⟨by simp, hkW.trans (hkX.trans (kF.trans (hk6.trans hk7)))⟩
end Go.Proofs.YtabiklpemoijcaaGreatDoor
