/- The example's setup: ValidSetup, Commit, exponents, elements. -/
import Derived.Test.YtabiklpemoijcaaGreatDoorFld4
import Derived.Test.YtabiklpemoijcaaGreatDoorApp
namespace Go.Proofs.YtabiklpemoijcaaGreatDoor
open Go.RowKit

/-- the example's setup, its slice of bases given -/
def setC (v : Value) : Array Value := #[.int .i64 23, .int .i64 11, .int .i64 4, v, .int .i64 12]
def SetV (w : World) (v : Value) : Prop := ∃ a c, v = .agg (setC (.slice a 2 c)) ∧ Row w 1 (.slice a 2 c) 2 (ints [16, 18])
theorem SetV.kept {w w' : World} {v : Value} (h : SetV w v) (k : Kept [] w w') : SetV w' v := by
  obtain ⟨a, c, h1, h2⟩ := h
  exact ⟨a, c, h1, h2.kept k⟩

variable {v0 : Value}

set_option maxRecDepth 100000 in
set_option maxHeartbeats 400000 in
theorem clo_exponents (x : Int) (b : Nat) (v : Value) (w : World) (hb : Blk w b 130 (setC v)) (hx : 0 ≤ x ∧ x < 11) :
    Calls Tryz.prog 172 #[.int .i64 x, .pointer (some ⟨b, 0, none⟩)] w fun e w' => e = .returned (.bool false) ∧ Kept [] w w' := by
  have e1 : w.cell? ⟨b, 1, none⟩ = some (.int .i64 11) := hb.cell 1
  obtain ⟨h1, h2⟩ := hx
  clear hb
  go_enter Tryz.func172, Tryz.ntmps172
  go_wp2_with fail
  go_ret
  refine ⟨?_, Kept.refl _ _⟩
  show Ending.returned (Value.bool (decide (x < 0) || decide (11 ≤ x))) = _
  rw [decide_eq_false (by omega), decide_eq_false (by omega)]
  rfl

/-- an element of the example's group -/
def Elt (x : Int) : Prop := ∃ n : Nat, x = n ∧ 1 ≤ n ∧ n < 23 ∧ powN 23 n 11 = 1

set_option maxRecDepth 100000 in
set_option maxHeartbeats 400000 in
theorem clo_elements (x : Int) (b : Nat) (v : Value) (w : World) (hb : Blk w b 130 (setC v)) (hx : Elt x) :
    Calls Tryz.prog 181 #[.int .i64 x, .pointer (some ⟨b, 0, none⟩)] w fun e w' => e = .returned (.bool false) ∧ Kept [] w w' := by
  obtain ⟨n, rfl, h1, h2, hp⟩ := hx
  have e0 : w.cell? ⟨b, 0, none⟩ = some (.int .i64 23) := hb.cell 0
  have e1 : w.cell? ⟨b, 1, none⟩ = some (.int .i64 11) := hb.cell 1
  have e2 : w.cell? ⟨b, 2, none⟩ = some (.int .i64 4) := hb.cell 2
  have HE := Lib.hid (element_x n w h1 h2 hp)
  clear hb
  go_enter Tryz.func181, Tryz.ntmps181
  go_wp2_with (go_at_call 113; refine HE.out.mono ?_; rintro e w1 ⟨rfl, hk⟩)
  go_ret
  exact ⟨rfl, hk⟩

set_option maxRecDepth 100000 in
set_option maxHeartbeats 800000 in
theorem index_exponents (v : Value) (l : List Int) (b : Nat) (w : World) (hv : Row w 1 v l.length (ints l)) (hb : Blk w b 130 (setC v0))
    (hl : ∀ x ∈ l, 0 ≤ x ∧ x < 11) :
    Calls Tryz.prog 169 #[v, .func (.func 172) #[] #[.pointer (some ⟨b, 0, none⟩)]] w fun e w' => e = .returned (.int .i64 (-1)) ∧ Kept [] w w' := by
  obtain ⟨aa, ca, rfl, hla, _⟩ := hv.form
  have HV := Lib.hid hv
  have HL := Lib.hid hl
  have HB := Lib.hid hb
  clear hv hl hb
  go_enter Tryz.func169, Tryz.ntmps169
  go_wp2_with fail
  go_loopw [5, 8] (fun _ i wr => ∃ k : Nat, k ≤ l.length ∧ i = .int .i64 k ∧ Kept [] w wr) (fun _ i _ => l.length - (intOf i).toNat)
  case atStart => exact ⟨0, Nat.zero_le _, rfl, Kept.refl _ _⟩
  case round =>
    obtain ⟨k, hk, rfl, hkr⟩ := hrel
    by_cases hlt : k < l.length
    · obtain ⟨ba, oa, rfl, hca⟩ := (HV.out.kept hkr).at_ (by omega)
      have xa := hca k _ (ints_get hlt)
      have HC := Lib.hid (clo_exponents l[k] b v0 wr (HB.out.kept hkr (by simp)) (HL.out _ (List.getElem_mem hlt)))
      clear hca
      go_wp2_with (go_at_call 172; refine HC.out.mono ?_; rintro e w2 ⟨rfl, hk2⟩)
      go_roundw
      case rel => exact ⟨k + 1, by omega, by go_num, hkr.trans hk2⟩
      case measure => simp [intOf]; omega
    · obtain rfl : k = l.length := by omega
      go_wp2_with fail
      go_ret
      exact ⟨rfl, hkr⟩

set_option maxHeartbeats 400000 in
theorem contains_exponents (v : Value) (l : List Int) (b : Nat) (w : World) (hv : Row w 1 v l.length (ints l)) (hb : Blk w b 130 (setC v0))
    (hl : ∀ x ∈ l, 0 ≤ x ∧ x < 11) :
    Calls Tryz.prog 91 #[v, .func (.func 172) #[] #[.pointer (some ⟨b, 0, none⟩)]] w fun e w' => e = .returned (.bool false) ∧ Kept [] w w' := by
  have HC := Lib.hid (index_exponents v l b w hv hb hl)
  obtain ⟨aa, ca, rfl, hla, _⟩ := hv.form
  clear hv hl hb
  go_enter Tryz.func91, Tryz.ntmps91
  go_wp2_with (go_at_call 169; refine HC.out.mono ?_)
  rintro e w1 ⟨rfl, hk⟩
  go_wp2_with fail
  go_ret
  exact ⟨rfl, hk⟩

set_option maxRecDepth 100000 in
set_option maxHeartbeats 800000 in
/-- all exponents -/
theorem exponents_x (sv v : Value) (l : List Int) (w : World) (hs : SetV w sv) (hv : Row w 1 v l.length (ints l)) (hl : ∀ x ∈ l, 0 ≤ x ∧ x < 11) :
    Calls Tryz.prog 94 #[sv, v, .int .i64 l.length] w fun e w' => e = .returned (.bool true) ∧ Kept [] w w' := by
  obtain ⟨sa, sc, rfl, hrow⟩ := hs
  obtain ⟨W, hW⟩ : ∃ W, w.alloc (.cells (setC (.slice sa 2 sc)) 130) = W := ⟨_, rfl⟩
  have hb : Blk W w.heap.size 130 (setC (.slice sa 2 sc)) := hW ▸ Blk.new _ _ _
  have hkW : Kept [] w W := hW ▸ (Kept.refl _ _).alloc _
  have HC := Lib.hid (contains_exponents (v0 := .slice sa 2 sc) v l w.heap.size W (hv.kept hkW) hb hl)
  obtain ⟨aa, ca, rfl, hla, _⟩ := hv.form
  have HW : Hid (w.alloc (.cells #[.int .i64 23, .int .i64 11, .int .i64 4, .slice sa 2 sc, .int .i64 12] 130) = W) := hW
  have hmf : ∀ (fn : Fn) (first cap : Array Value) (w : World), (Instr.makeFunc fn first cap).run Tryz.prog w = .ok (.func fn first cap) w := fun _ _ _ _ => rfl
  clear hv hl hb hW hrow
  go_enter Tryz.func94, Tryz.ntmps94
  unfold setC
  go_wp2_with fail
  rw [HW.out]
  go_wp2_with (go_at_call 91; refine HC.out.mono ?_)
  rintro e w1 ⟨rfl, hk⟩
  go_wp2_with fail
  go_ret
  exact ⟨rfl, hkW.trans hk⟩

set_option maxRecDepth 100000 in
set_option maxHeartbeats 800000 in
theorem index_elements (v : Value) (l : List Int) (b : Nat) (w : World) (hv : Row w 1 v l.length (ints l)) (hb : Blk w b 130 (setC v0))
    (hl : ∀ x ∈ l, Elt x) :
    Calls Tryz.prog 169 #[v, .func (.func 181) #[] #[.pointer (some ⟨b, 0, none⟩)]] w fun e w' => e = .returned (.int .i64 (-1)) ∧ Kept [] w w' := by
  obtain ⟨aa, ca, rfl, hla, _⟩ := hv.form
  have HV := Lib.hid hv
  have HL := Lib.hid hl
  have HB := Lib.hid hb
  clear hv hl hb
  go_enter Tryz.func169, Tryz.ntmps169
  go_wp2_with fail
  go_loopw [5, 8] (fun _ i wr => ∃ k : Nat, k ≤ l.length ∧ i = .int .i64 k ∧ Kept [] w wr) (fun _ i _ => l.length - (intOf i).toNat)
  case atStart => exact ⟨0, Nat.zero_le _, rfl, Kept.refl _ _⟩
  case round =>
    obtain ⟨k, hk, rfl, hkr⟩ := hrel
    by_cases hlt : k < l.length
    · obtain ⟨ba, oa, rfl, hca⟩ := (HV.out.kept hkr).at_ (by omega)
      have xa := hca k _ (ints_get hlt)
      have HC := Lib.hid (clo_elements l[k] b v0 wr (HB.out.kept hkr (by simp)) (HL.out _ (List.getElem_mem hlt)))
      clear hca
      go_wp2_with (go_at_call 181; refine HC.out.mono ?_; rintro e w2 ⟨rfl, hk2⟩)
      go_roundw
      case rel => exact ⟨k + 1, by omega, by go_num, hkr.trans hk2⟩
      case measure => simp [intOf]; omega
    · obtain rfl : k = l.length := by omega
      go_wp2_with fail
      go_ret
      exact ⟨rfl, hkr⟩

set_option maxHeartbeats 400000 in
theorem contains_elements (v : Value) (l : List Int) (b : Nat) (w : World) (hv : Row w 1 v l.length (ints l)) (hb : Blk w b 130 (setC v0))
    (hl : ∀ x ∈ l, Elt x) :
    Calls Tryz.prog 91 #[v, .func (.func 181) #[] #[.pointer (some ⟨b, 0, none⟩)]] w fun e w' => e = .returned (.bool false) ∧ Kept [] w w' := by
  have HC := Lib.hid (index_elements v l b w hv hb hl)
  obtain ⟨aa, ca, rfl, hla, _⟩ := hv.form
  clear hv hl hb
  go_enter Tryz.func91, Tryz.ntmps91
  go_wp2_with (go_at_call 169; refine HC.out.mono ?_)
  rintro e w1 ⟨rfl, hk⟩
  go_wp2_with fail
  go_ret
  exact ⟨rfl, hk⟩

set_option maxRecDepth 100000 in
set_option maxHeartbeats 800000 in
/-- all elements -/
theorem elements_x (sv v : Value) (l : List Int) (w : World) (hs : SetV w sv) (hv : Row w 1 v l.length (ints l)) (hl : ∀ x ∈ l, Elt x) :
    Calls Tryz.prog 112 #[sv, v, .int .i64 l.length] w fun e w' => e = .returned (.bool true) ∧ Kept [] w w' := by
  obtain ⟨sa, sc, rfl, hrow⟩ := hs
  obtain ⟨W, hW⟩ : ∃ W, w.alloc (.cells (setC (.slice sa 2 sc)) 130) = W := ⟨_, rfl⟩
  have hb : Blk W w.heap.size 130 (setC (.slice sa 2 sc)) := hW ▸ Blk.new _ _ _
  have hkW : Kept [] w W := hW ▸ (Kept.refl _ _).alloc _
  have HC := Lib.hid (contains_elements (v0 := .slice sa 2 sc) v l w.heap.size W (hv.kept hkW) hb hl)
  obtain ⟨aa, ca, rfl, hla, _⟩ := hv.form
  have HW : Hid (w.alloc (.cells #[.int .i64 23, .int .i64 11, .int .i64 4, .slice sa 2 sc, .int .i64 12] 130) = W) := hW
  have hmf : ∀ (fn : Fn) (first cap : Array Value) (w : World), (Instr.makeFunc fn first cap).run Tryz.prog w = .ok (.func fn first cap) w := fun _ _ _ _ => rfl
  clear hv hl hb hW hrow
  go_enter Tryz.func112, Tryz.ntmps112
  unfold setC
  go_wp2_with fail
  rw [HW.out]
  go_wp2_with (go_at_call 91; refine HC.out.mono ?_)
  rintro e w1 ⟨rfl, hk⟩
  go_wp2_with fail
  go_ret
  exact ⟨rfl, hkW.trans hk⟩

set_option maxRecDepth 100000 in
set_option maxHeartbeats 400000 in
theorem clo_other (n : Nat) (b : Nat) (v : Value) (w : World) (hb : Blk w b 26 (setC v)) (h1 : 1 < n) (h2 : n < 23) (hp : powN 23 n 11 = 1) :
    Calls Tryz.prog 171 #[.int .i64 n, .pointer (some ⟨b, 0, none⟩)] w fun e w' => e = .returned (.bool true) ∧ Kept [] w w' := by
  have e0 : w.cell? ⟨b, 0, none⟩ = some (.int .i64 23) := hb.cell 0
  have e1 : w.cell? ⟨b, 1, none⟩ = some (.int .i64 11) := hb.cell 1
  have e2 : w.cell? ⟨b, 2, none⟩ = some (.int .i64 4) := hb.cell 2
  have HE := Lib.hid (element_x n w (by omega) h2 hp)
  have hne : ((n : Int) != 1) = true := by simp; omega
  clear hb
  go_enter Tryz.func171, Tryz.ntmps171
  go_wp2_with (go_at_call 113; refine HE.out.mono ?_; rintro e w1 ⟨rfl, hk⟩)
  go_ret
  exact ⟨rfl, hk⟩

set_option maxRecDepth 100000 in
set_option maxHeartbeats 1000000 in
theorem validSetup_x (v : Value) (w : World) (h : SetV w v) : Calls Tryz.prog 93 #[v] w fun e w' => e = .returned (.bool true) ∧ Kept [] w w' := by
  obtain ⟨a, c, rfl, hrow⟩ := h
  obtain ⟨W, hW⟩ : ∃ W, w.alloc (.cells (setC (.slice a 2 c)) 26) = W := ⟨_, rfl⟩
  have hb : Blk W w.heap.size 26 (setC (.slice a 2 c)) := hW ▸ Blk.new _ _ _
  have hkW : Kept [] w W := hW ▸ (Kept.refl _ _).alloc _
  have HR := Lib.hid (hrow.kept hkW)
  have HB := Lib.hid hb
  have K0 : Hid (∀ w', Kept [] W w' → w'.cell? ⟨w.heap.size, 0, none⟩ = some (.int .i64 23)) := Kept.cellOf (hb.cell 0)
  have K1 : Hid (∀ w', Kept [] W w' → w'.cell? ⟨w.heap.size, 1, none⟩ = some (.int .i64 11)) := Kept.cellOf (hb.cell 1)
  have K2 : Hid (∀ w', Kept [] W w' → w'.cell? ⟨w.heap.size, 2, none⟩ = some (.int .i64 4)) := Kept.cellOf (hb.cell 2)
  have K3 : Hid (∀ w', Kept [] W w' → w'.cell? ⟨w.heap.size, 3, none⟩ = some (.slice a 2 c)) := Kept.cellOf (hb.cell 3)
  have K4 : Hid (∀ w', Kept [] W w' → w'.cell? ⟨w.heap.size, 4, none⟩ = some (.int .i64 12)) := Kept.cellOf (hb.cell 4)
  have e0 := K0.out W (Kept.refl _ _)
  have e1 := K1.out W (Kept.refl _ _)
  have e2 := K2.out W (Kept.refl _ _)
  have HW : Hid (w.alloc (.cells #[.int .i64 23, .int .i64 11, .int .i64 4, .slice a 2 c, .int .i64 12] 26) = W) := hW
  have hmf : ∀ (fn : Fn) (first cap : Array Value) (w : World), (Instr.makeFunc fn first cap).run Tryz.prog w = .ok (.func fn first cap) w := fun _ _ _ _ => rfl
  have C16 : Hid (∀ w', Kept [] W w' → Calls Tryz.prog 171 #[.int .i64 16, .pointer (some ⟨w.heap.size, 0, none⟩)] w' fun e w2 => e = .returned (.bool true) ∧ Kept [] w' w2) :=
    fun w' k => clo_other 16 _ _ w' (HB.out.kept k (by simp)) (by omega) (by omega) (by decide)
  have C18 : Hid (∀ w', Kept [] W w' → Calls Tryz.prog 171 #[.int .i64 18, .pointer (some ⟨w.heap.size, 0, none⟩)] w' fun e w2 => e = .returned (.bool true) ∧ Kept [] w' w2) :=
    fun w' k => clo_other 18 _ _ w' (HB.out.kept k (by simp)) (by omega) (by omega) (by decide)
  have C12 : Hid (∀ w', Kept [] W w' → Calls Tryz.prog 171 #[.int .i64 12, .pointer (some ⟨w.heap.size, 0, none⟩)] w' fun e w2 => e = .returned (.bool true) ∧ Kept [] w' w2) :=
    fun w' k => clo_other 12 _ _ w' (HB.out.kept k (by simp)) (by omega) (by omega) (by decide)
  clear hb hW hrow
  go_enter Tryz.func93, Tryz.ntmps93
  unfold setC
  go_wp2_with fail
  rw [HW.out]
  go_wp2_with (go_at_call 89; with_reducible refine (validGroup_x _).mono ?_)
  rintro e w1 ⟨rfl, k1⟩
  clear e0 e1 e2
  have e3 := K3.out w1 k1
  go_wp2_with fail
  clear e3
  go_loopw [5, 26] (fun _ i wr => ∃ k : Nat, k ≤ 2 ∧ i = .int .i64 k ∧ Kept [] W wr) (fun _ i _ => 2 - (intOf i).toNat)
  case atStart => exact ⟨0, Nat.zero_le _, rfl, k1⟩
  case round =>
    obtain ⟨k, hk, rfl, hkr⟩ := hrel
    obtain ⟨ba, oa, rfl, hca⟩ := (HR.out.kept hkr).at_ (by omega)
    rcases (by omega : k = 0 ∨ k = 1 ∨ k = 2) with rfl | rfl | rfl
    · have xa : wr.cell? ⟨ba, oa, none⟩ = some (.int .i64 16) := hca 0 _ rfl
      have HC := Lib.hid (C16.out wr hkr)
      clear hca
      go_wp2_with (go_at_call 171; refine HC.out.mono ?_; rintro e w2 ⟨rfl, hk2⟩)
      go_roundw
      case rel => exact ⟨1, by omega, rfl, hkr.trans hk2⟩
      case measure => simp [intOf]
    · have xa : wr.cell? ⟨ba, oa + 1, none⟩ = some (.int .i64 18) := hca 1 _ rfl
      have HC := Lib.hid (C18.out wr hkr)
      clear hca
      go_wp2_with (go_at_call 171; refine HC.out.mono ?_; rintro e w2 ⟨rfl, hk2⟩)
      go_roundw
      case rel => exact ⟨2, by omega, rfl, hkr.trans hk2⟩
      case measure => simp [intOf]
    · have e4 := K4.out wr hkr
      have HC := Lib.hid (C12.out wr hkr)
      clear hca
      go_wp2_with (go_at_call 171; refine HC.out.mono ?_; rintro e w2 ⟨rfl, hk2⟩)
      go_ret
      exact ⟨rfl, hkW.trans (hkr.trans hk2)⟩

/-- a commitment in the example's setup -/
def commitN (v r : Int) : Nat := prodX [4, 12] [v, r]

set_option maxRecDepth 100000 in
set_option maxHeartbeats 1000000 in
theorem commit_x (sv : Value) (v r : Int) (w : World) (h : SetV w sv) (hv : Wire.I64 v) (hr : Wire.I64 r) :
    Calls Tryz.prog 37 #[sv, .int .i64 v, .int .i64 r] w fun e w' => e = .returned (.int .i64 ((commitN v r : Nat) : Int)) ∧ Kept [] w w' := by
  obtain ⟨a, c, rfl, hrow⟩ := h
  obtain ⟨W, hW⟩ : ∃ W, w.alloc (.cells (setC (.slice a 2 c)) 26) = W := ⟨_, rfl⟩
  have hb : Blk W w.heap.size 26 (setC (.slice a 2 c)) := hW ▸ Blk.new _ _ _
  have hkW : Kept [] w W := hW ▸ (Kept.refl _ _).alloc _
  have HV := Lib.hid (validSetup_x _ W ⟨a, c, rfl, hrow.kept hkW⟩)
  have K0 : Hid (∀ w', Kept [] W w' → w'.cell? ⟨w.heap.size, 0, none⟩ = some (.int .i64 23)) := Kept.cellOf (hb.cell 0)
  have K1 : Hid (∀ w', Kept [] W w' → w'.cell? ⟨w.heap.size, 1, none⟩ = some (.int .i64 11)) := Kept.cellOf (hb.cell 1)
  have K2 : Hid (∀ w', Kept [] W w' → w'.cell? ⟨w.heap.size, 2, none⟩ = some (.int .i64 4)) := Kept.cellOf (hb.cell 2)
  have K3 : Hid (∀ w', Kept [] W w' → w'.cell? ⟨w.heap.size, 3, none⟩ = some (.slice a 2 c)) := Kept.cellOf (hb.cell 3)
  have K4 : Hid (∀ w', Kept [] W w' → w'.cell? ⟨w.heap.size, 4, none⟩ = some (.int .i64 12)) := Kept.cellOf (hb.cell 4)
  have e0 := K0.out W (Kept.refl _ _)
  have e1 := K1.out W (Kept.refl _ _)
  have e2 := K2.out W (Kept.refl _ _)
  have e3 := K3.out W (Kept.refl _ _)
  have e4 := K4.out W (Kept.refl _ _)
  have HW : Hid (w.alloc (.cells #[.int .i64 23, .int .i64 11, .int .i64 4, .slice a 2 c, .int .i64 12] 26) = W) := hW
  have HP : Hid (∀ w', Calls Tryz.prog 101 #[.agg #[.int .i64 23, .int .i64 11, .int .i64 4], .slice (some ⟨w'.heap.size, 0, none⟩) 2 2, .slice (some ⟨w'.heap.size + 1, 0, none⟩) 2 2]
      ((w'.alloc (.cells #[.int .i64 4, .int .i64 12] 3)).alloc (.cells #[.int .i64 v, .int .i64 r] 3)) fun e w2 => e = .returned (.tuple #[.int .i64 ((commitN v r : Nat) : Int), .bool true]) ∧ Kept [] w' w2) := fun w' => by
    have hk : Kept [] w' ((w'.alloc (.cells #[.int .i64 4, .int .i64 12] 3)).alloc (.cells #[.int .i64 v, .int .i64 r] 3)) := ((Kept.refl _ _).alloc _).alloc _
    have r1 : Row ((w'.alloc (.cells #[.int .i64 4, .int .i64 12] 3)).alloc (.cells #[.int .i64 v, .int .i64 r] 3)) 1 (.slice (some ⟨w'.heap.size, 0, none⟩) 2 2) [(4 : Int), 12].length (ints [4, 12]) :=
      row_of_blk ((Blk.new w' 3 #[.int .i64 4, .int .i64 12]).alloc _) rfl (by decide)
    have r2 : Row ((w'.alloc (.cells #[.int .i64 4, .int .i64 12] 3)).alloc (.cells #[.int .i64 v, .int .i64 r] 3)) 1 (.slice (some ⟨w'.heap.size + 1, 0, none⟩) 2 2) [v, r].length (ints [v, r]) := by
      have := Blk.new (w'.alloc (.cells #[.int .i64 4, .int .i64 12] 3)) 3 #[.int .i64 v, .int .i64 r]
      rw [World.size_alloc] at this
      exact row_of_blk this rfl (by decide)
    exact (product_x _ _ [4, 12] [v, r] _ r1 r2 rfl (by intro x hx; simp at hx; rcases hx with rfl | rfl <;> exact ⟨by omega, by omega⟩) (by intro x hx; simp at hx; rcases hx with rfl | rfl <;> assumption)).mono
      fun e w2 h => ⟨h.1, hk.trans h.2⟩
  obtain ⟨q, hq⟩ : ∃ q, commitN v r = q := ⟨_, rfl⟩
  rw [hq] at HP ⊢
  clear hb hW hrow hq
  go_enter Tryz.func37, Tryz.ntmps37
  unfold setC
  go_wp2_with fail
  rw [HW.out]
  go_wp2_with (go_at_call 93; refine HV.out.mono ?_)
  rintro e w1 ⟨rfl, k1⟩
  clear e0 e1 e2 e3 e4
  have e0 := K0.out w1 k1
  have e1 := K1.out w1 k1
  have e2 := K2.out w1 k1
  have e3 := K3.out w1 k1
  have e4 := K4.out w1 k1
  go_wp2_with (go_at_call 101; refine (HP.out w1).mono ?_)
  rintro e w2 ⟨rfl, k2⟩
  go_wp2_with fail
  go_ret
  exact ⟨rfl, hkW.trans (k1.trans k2)⟩
end Go.Proofs.YtabiklpemoijcaaGreatDoor
