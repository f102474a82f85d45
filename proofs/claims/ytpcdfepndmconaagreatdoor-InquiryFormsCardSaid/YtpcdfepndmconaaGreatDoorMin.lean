/- inquiry.Minutes, ReadMinutes; cloakref10.SameOpening. -/
import Derived.Test.YtpcdfepndmconaaGreatDoorEnc
import Derived.Deep.RegionHeld3
namespace Go.Proofs.YtpcdfepndmconaaGreatDoor
open Go.RowKit

structure Opening where
  version : Int
  gate : Int
  no : Int
  reason : List UInt8
  jurors : List Int
  holder : Int

/-- an opening's value: its ints fit, its list is read -/
structure OpenV (w : World) (v : Value) (o : Opening) : Prop where
  form : ∃ js, v = .agg #[.int .i64 o.version, .int .i64 o.gate, .int .i64 o.no, .string ⟨o.reason.toArray⟩, js, .int .i64 o.holder] ∧ Row w 1 js o.jurors.length (ints o.jurors)
  h0 : Wire.I64 o.version
  h1 : Wire.I64 o.gate
  h2 : Wire.I64 o.no
  h5 : Wire.I64 o.holder
  h4 : ∀ x ∈ o.jurors, Wire.I64 x
  l3 : o.reason.length ≤ 100000000
  l4 : o.jurors.length ≤ 100000001

theorem OpenV.kept {w w' : World} {v : Value} {o : Opening} (h : OpenV w v o) (k : Kept [] w w') : OpenV w' v o := by
  obtain ⟨⟨js, hv, hr⟩, a, b, c, d, e, f, g⟩ := h
  exact ⟨⟨js, hv, hr.kept k⟩, a, b, c, d, e, f, g⟩

def minutesE (o : Opening) : List UInt8 := Wire.numsE [o.version, o.gate, o.no] ++ (Wire.textE o.reason ++ (Wire.numsE o.jurors ++ Wire.intE o.holder))

theorem row3 (w : World) (x y z : Int) (T : TypeId) : Row (w.alloc (.cells #[.int .i64 x, .int .i64 y, .int .i64 z] T)) 1 (.slice (some ⟨w.heap.size, 0, none⟩) 3 3) 3 (ints [x, y, z]) := by
  refine ⟨rfl, by omega, _, _, rfl, by omega, fun _ => ⟨_, _, rfl, fun k u hu => ?_⟩⟩
  rw [Nat.zero_add]
  have := (Blk.new w T #[.int .i64 x, .int .i64 y, .int .i64 z]).cell k
  rw [this]
  simpa [ints] using hu

def cellsO (o : Opening) (js : Value) : Array Value := #[.int .i64 o.version, .int .i64 o.gate, .int .i64 o.no, .string ⟨o.reason.toArray⟩, js, .int .i64 o.holder]

set_option maxHeartbeats 1000000 in
theorem minutes_any (v : Value) (o : Opening) (w : World) (h : OpenV w v o) (hE : Env w) :
    Calls Tryz.prog 24 #[v] w fun e w' => e = .returned (.string ⟨(minutesE o).toArray⟩) ∧ Kept [] w w' := by
  obtain ⟨js, rfl, hrow⟩ := h.form
  obtain ⟨W, hW⟩ : ∃ W, w.alloc (.cells (cellsO o js) 37) = W := ⟨_, rfl⟩
  have hb : Blk W w.heap.size 37 (cellsO o js) := hW ▸ Blk.new _ _ _
  have hkW : Kept [] w W := hW ▸ (Kept.refl _ _).alloc _
  have hEW := hE.kept0 hkW
  have k0 : ∀ w', Kept [] W w' → w'.cell? ⟨w.heap.size, 0, none⟩ = some (.int .i64 o.version) := Kept.cellOf (hb.cell 0)
  have k1 : ∀ w', Kept [] W w' → w'.cell? ⟨w.heap.size, 1, none⟩ = some (.int .i64 o.gate) := Kept.cellOf (hb.cell 1)
  have k2 : ∀ w', Kept [] W w' → w'.cell? ⟨w.heap.size, 2, none⟩ = some (.int .i64 o.no) := Kept.cellOf (hb.cell 2)
  have k3 : ∀ w', Kept [] W w' → w'.cell? ⟨w.heap.size, 3, none⟩ = some (.string ⟨o.reason.toArray⟩) := Kept.cellOf (hb.cell 3)
  have k4 : ∀ w', Kept [] W w' → w'.cell? ⟨w.heap.size, 4, none⟩ = some (js) := Kept.cellOf (hb.cell 4)
  have k5 : ∀ w', Kept [] W w' → w'.cell? ⟨w.heap.size, 5, none⟩ = some (.int .i64 o.holder) := Kept.cellOf (hb.cell 5)
  have hrowW := hrow.kept hkW
  have h3 : ∀ x ∈ [o.version, o.gate, o.no], Wire.I64 x := by
    intro x hx
    simp only [List.mem_cons, List.not_mem_nil, or_false] at hx
    rcases hx with rfl | rfl | rfl
    · exact h.h0
    · exact h.h1
    · exact h.h2
  have l0 := numsE_len [o.version, o.gate, o.no] h3 (by simp)
  have l1 := textE_len o.reason h.l3
  have l2 := numsE_len o.jurors h.h4 h.l4
  have l3 := intE_len o.holder h.h5
  have s1 : ¬ 9223372036854775807 < (Wire.numsE [o.version, o.gate, o.no]).length + (Wire.textE o.reason).length := by omega
  have s2 : ¬ 9223372036854775807 < (Wire.numsE [o.version, o.gate, o.no]).length + (Wire.textE o.reason).length + (Wire.numsE o.jurors).length := by omega
  have s3 : ¬ 9223372036854775807 < (Wire.numsE [o.version, o.gate, o.no]).length + ((Wire.textE o.reason).length + (Wire.numsE o.jurors).length) + (Wire.intE o.holder).length := by omega
  clear l0 l1 l2 l3
  have hcat := bcat
  have HW := Lib.hid hW
  go_enter Tryz.func24, Tryz.ntmps24
  go_wp2_with fail
  have hW' : w.alloc (.cells #[.int .i64 o.version, .int .i64 o.gate, .int .i64 o.no, .string ⟨o.reason.toArray⟩, js, .int .i64 o.holder] 37) = W := HW.out
  rw [hW']
  clear hW hW'
  go_region_held3 (fun w' => Kept [] W w') (first | assumption | exact (Kept.refl _ _).drew | exact Kept.alloc (by assumption) _)
    (first
      | (go_at_call_of 71 js; refine (kept_from (W := W) (by assumption) (nums_any js o.jurors _ (by exact hrowW.kept (by assumption)) (by exact hEW.kept0 (by assumption)) h.l4 h.h4)).mono ?_; rintro e w2 ⟨rfl, hk2⟩)
      | (go_at_call 71; refine (kept_from (W := W) (by assumption) (nums_any _ [o.version, o.gate, o.no] _ (by exact (row3 _ _ _ _ _).drew) (by exact hEW.kept0 (by assumption)) (by simp) (by exact h3))).mono ?_; rintro e w2 ⟨rfl, hk2⟩)
      | (go_at_call 72; refine (kept_from (W := W) (by assumption) (text_any o.reason _ h.l3 (by exact hEW.kept0 (by assumption)))).mono ?_; rintro e w2 ⟨rfl, hk2⟩)
      | (go_at_call 75; refine (kept_from (W := W) (by assumption) (int_any o.holder _ h.h5 (by exact hEW.kept0 (by assumption)))).mono ?_; rintro e w3 ⟨rfl, hk3⟩))
  go_wp2
  go_ret
  exact ⟨by simp [minutesE], hkW.trans hk3⟩

def zeroO : Opening := ⟨0, 0, 0, [], [], 0⟩
def zerosO : Array Value := #[.int .i64 0, .int .i64 0, .int .i64 0, .string ⟨#[]⟩, .slice none 0 0, .int .i64 0]

def readMinutes (s : List UInt8) : Opening × Bool :=
  if (!(Wire.number 59 (-9223372036854775808) (Wire.nums (Wire.text (Wire.nums ⟨s, false⟩).2).2).2).2.bad &&
      (Wire.number 59 (-9223372036854775808) (Wire.nums (Wire.text (Wire.nums ⟨s, false⟩).2).2).2).2.rest.isEmpty) = true ∧ (Wire.nums ⟨s, false⟩).1.length = 3 then
    (⟨(Wire.nums ⟨s, false⟩).1.getD 0 0, (Wire.nums ⟨s, false⟩).1.getD 1 0, (Wire.nums ⟨s, false⟩).1.getD 2 0, (Wire.text (Wire.nums ⟨s, false⟩).2).1,
      (Wire.nums (Wire.text (Wire.nums ⟨s, false⟩).2).2).1, (Wire.number 59 (-9223372036854775808) (Wire.nums (Wire.text (Wire.nums ⟨s, false⟩).2).2).2).1⟩, true)
  else (zeroO, false)

theorem readMinutes_eq {s reason : List UInt8} {head jurors : List Int} {holder : Int} {r1 r2 r3 r4 : Wire.Rd}
    (h1 : Wire.nums ⟨s, false⟩ = (head, r1)) (h2 : Wire.text r1 = (reason, r2)) (h3 : Wire.nums r2 = (jurors, r3)) (h4 : Wire.number 59 (-9223372036854775808) r3 = (holder, r4)) :
    readMinutes s = if (!r4.bad && r4.rest.isEmpty) = true ∧ head.length = 3 then (⟨head.getD 0 0, head.getD 1 0, head.getD 2 0, reason, jurors, holder⟩, true) else (zeroO, false) := by
  unfold readMinutes
  simp only [h1, h2, h3, h4]

/-- how ReadMinutes ends -/
def RM (s : List UInt8) (w : World) (e : Ending) (w' : World) : Prop :=
  ∃ v, e = .returned (.tuple #[v, .bool (readMinutes s).2]) ∧ OpenV w' v (readMinutes s).1 ∧ Kept [] w w'

theorem Row.none_ (w : World) (size : Nat) : Row w size (.slice none 0 0) 0 [] := ⟨by simp, by omega, none, 0, rfl, by omega, fun h => absurd h (by omega)⟩

theorem openV_mk {w : World} {a b c h : Int} {l : List Int} {s : List UInt8} {js : Value} (h0 : Wire.I64 a) (h1 : Wire.I64 b) (h2 : Wire.I64 c) (h5 : Wire.I64 h) (h4 : ∀ x ∈ l, Wire.I64 x)
    (l3 : s.length ≤ 100000000) (l4 : l.length ≤ 100000001) (hrow : Row w 1 js l.length (ints l)) :
    OpenV w (.agg #[.int .i64 a, .int .i64 b, .int .i64 c, .string ⟨s.toArray⟩, js, .int .i64 h]) ⟨a, b, c, s, l, h⟩ :=
  ⟨⟨js, rfl, hrow⟩, h0, h1, h2, h5, h4, l3, l4⟩

theorem openV_zero (w : World) : OpenV w (.agg zerosO) zeroO :=
  ⟨⟨_, rfl, by simpa [zeroO, ints] using Row.none_ w 1⟩, ⟨by decide, by decide⟩, ⟨by decide, by decide⟩, ⟨by decide, by decide⟩, ⟨by decide, by decide⟩, by simp [zeroO], by simp [zeroO], by simp [zeroO]⟩

theorem Fits.of_len {s : List UInt8} (h : s.length ≤ 100000000) : Fits ⟨s, false⟩ := h

set_option maxHeartbeats 1000000 in
theorem readMinutes_walk (s reason : List UInt8) (head jurors : List Int) (holder : Int) (r1 r2 r3 r4 : Wire.Rd) (w : World) (hE : Env w) (hs : s.length ≤ 100000000)
    (h1 : Hid (Wire.nums ⟨s, false⟩ = (head, r1))) (h2 : Hid (Wire.text r1 = (reason, r2))) (h3 : Hid (Wire.nums r2 = (jurors, r3))) (h4 : Hid (Wire.number 59 (-9223372036854775808) r3 = (holder, r4))) :
    Calls Tryz.prog 16 #[.string ⟨s.toArray⟩] w (RM s w) := by
  have HQ := Lib.hid (readMinutes_eq h1.out h2.out h3.out h4.out)
  go_enter Tryz.func16, Tryz.ntmps16
  go_wp2_with (go_at_call 59; refine (rd_open s _ (by exact hE.alloc _)).mono ?_; rintro e w1 ⟨rfl, hr1, hk1⟩)
  have hz1 : Blk w1 w.heap.size 37 zerosO := (Blk.new w _ _).kept hk1 (by simp)
  rw [World.size_alloc] at hr1
  have hkw1 : Kept [] w w1 := ((Kept.refl [] w).alloc _).trans hk1
  have hE1 := hE.kept0 hkw1
  have f1 : Fits r1 := fits_nums' h1.out hs
  have f2 : Fits r2 := fits_text' h2.out f1
  have f3 : Fits r3 := fits_nums' h3.out f2
  have C2 := Lib.hid (rd_nums' (w.heap.size + 1) ⟨s, false⟩ h1.out w1 hr1 hE1 hs)
  clear hk1
  go_wp2_with (go_at_call 60; refine C2.out.mono ?_)
  rintro e w2 ⟨v2, rfl, ho2, hr2, hk2⟩
  obtain ⟨a2, c2, rfl⟩ := own_form ho2
  have hz2 := hz1.kept hk2 (by simp)
  have hE2 := hE1.keptR hr1 hk2
  have C3 := Lib.hid (rd_text' (w.heap.size + 1) r1 h2.out w2 hr2 hE2 f1)
  clear C2
  go_wp2_with (go_at_call 61; refine C3.out.mono ?_)
  rintro e w3 ⟨rfl, hr3, hk3⟩
  have hz3 := hz2.kept hk3 (by simp)
  have hE3 := hE2.keptR hr2 hk3
  clear C3
  have hlt3 := hr3.2.lt
  have hr4 : RdAt (w3.alloc (.cells #[.int .i64 0, .int .i64 0, .int .i64 0, .string ⟨reason.toArray⟩, .slice none 0 0, .int .i64 0] 37)) (w.heap.size + 1) r2 := ⟨hr3.1, hr3.2.alloc _⟩
  have C4 := Lib.hid (rd_nums' (w.heap.size + 1) r2 h3.out _ hr4 (hE3.alloc _) f2)
  go_wp2_with (go_at_call 60; refine C4.out.mono ?_)
  rintro e w5 ⟨v4, rfl, ho4, hr5, hk5⟩
  obtain ⟨a4, c4, rfl⟩ := own_form ho4
  have hy5 : Blk w5 w3.heap.size 37 #[.int .i64 0, .int .i64 0, .int .i64 0, .string ⟨reason.toArray⟩, .slice none 0 0, .int .i64 0] := (Blk.new w3 _ _).kept hk5 (by simp; omega)
  have hz5 := (hz3.alloc (.cells #[.int .i64 0, .int .i64 0, .int .i64 0, .string ⟨reason.toArray⟩, .slice none 0 0, .int .i64 0] 37)).kept hk5 (by simp)
  have hE5 := (hE3.alloc (.cells #[.int .i64 0, .int .i64 0, .int .i64 0, .string ⟨reason.toArray⟩, .slice none 0 0, .int .i64 0] 37)).keptR hr4 hk5
  have hlt5 := hz3.lt
  have d4 : w5.cell? ⟨w3.heap.size, 4, none⟩ = some (.slice none 0 0) := hy5.cell 4
  have g4 := hy5.frozen 4
  clear C4
  have hr6 : RdAt (w5.setCell ⟨w3.heap.size, 4, none⟩ (.slice a4 jurors.length c4)) (w.heap.size + 1) r3 := ⟨hr5.1, hr5.2.far (p := ⟨w3.heap.size, 4, none⟩) (by simp; omega) _⟩
  have hy6 := hy5.set_ 4 (.slice a4 jurors.length c4)
  have hz6 := hz5.far (p := ⟨w3.heap.size, 4, none⟩) (by simp; omega) (.slice a4 jurors.length c4)
  have hk6 : Kept [w3.heap.size] w5 (w5.setCell ⟨w3.heap.size, 4, none⟩ (.slice a4 jurors.length c4)) := (Kept.refl _ _).setCell (by simp) _
  have hE6 := hE5.kept hk6 (by intro x hx; rw [List.mem_singleton] at hx; subst hx; exact hE3.size)
  have C5 := Lib.hid (rd_int' (w.heap.size + 1) r3 h4.out _ hr6 hE6 f3)
  go_wp2_with (go_at_call 62; refine C5.out.mono ?_)
  rintro e w7 ⟨rfl, hr7, hk7⟩
  have hy7 := hy6.kept hk7 (by simp; omega)
  have hz7 := hz6.kept hk7 (by simp)
  have hE7 := hE6.keptR hr6 hk7
  have d5 : w7.cell? ⟨w3.heap.size, 5, none⟩ = some (.int .i64 0) := hy7.cell 5
  have g5 := hy7.frozen 5
  have hr8 : RdAt (w7.setCell ⟨w3.heap.size, 5, none⟩ (.int .i64 holder)) (w.heap.size + 1) r4 := ⟨hr7.1, hr7.2.far (p := ⟨w3.heap.size, 5, none⟩) (by simp; omega) _⟩
  have hz8 := hz7.far (p := ⟨w3.heap.size, 5, none⟩) (by simp; omega) (.int .i64 holder)
  have C6 := Lib.hid (rd_done (w.heap.size + 1) r4 _ hr8)
  have hw5 : Kept [] w w5 := ((((hkw1.fresh hk2 (by simp)).fresh hk3 (by simp)).alloc _).fresh hk5 (by simp))
  have hw7 : Kept [] w w7 := (hw5.setCell (Or.inr (by simp; omega)) _).fresh hk7 (by simp)
  clear C5
  obtain ⟨d, hd⟩ : ∃ d, (!r4.bad && r4.rest.isEmpty) = d := ⟨_, rfl⟩
  rw [hd] at C6
  have HD := Lib.hid hd
  clear hd
  by_cases hyes : d = true ∧ head.length = 3
  · obtain ⟨rfl, h3len⟩ := hyes
    obtain ⟨x0, x1, x2, rfl⟩ : ∃ x0 x1 x2, head = [x0, x1, x2] := by
      rcases head with _ | ⟨x0, _ | ⟨x1, _ | ⟨x2, _ | ⟨x3, t⟩⟩⟩⟩
      · cases h3len
      · cases h3len
      · cases h3len
      · exact ⟨_, _, _, rfl⟩
      · simp at h3len
    have hyq : readMinutes s = (⟨x0, x1, x2, reason, jurors, holder⟩, true) := by rw [HQ.out, HD.out, if_pos ⟨rfl, h3len⟩]; rfl
    have HY := Lib.hid hyq
    have hI : ∀ x ∈ [x0, x1, x2], Wire.I64 x := by have := nums_i64 ⟨s, false⟩; rw [h1.out] at this; exact this
    have HI0 := Lib.hid (hI x0 (by simp))
    have HI1 := Lib.hid (hI x1 (by simp))
    have HI2 := Lib.hid (hI x2 (by simp))
    have HI3 : Hid (∀ x ∈ jurors, Wire.I64 x) := by have := nums_i64 r2; rw [h3.out] at this; exact this
    have HI4 : Hid (Wire.I64 holder) := by have := Wire.number_bounds 59 (-9223372036854775808) r3; rw [h4.out] at this; exact this
    have HL3 : reason.length ≤ 100000000 := by have := (fits_text f1).2; rw [h2.out] at this; exact this
    have HL4 : jurors.length ≤ 100000001 := by have := nums_len r2 f2; rw [h3.out] at this; exact this
    clear hyq h3len hI
    have hb1 := hr1.2.lt
    have o3 := own_kept ho2 hk3 (by simpa using hb1)
    have r3w := Row.of_own o3 (by simp)
    obtain ⟨g, off, rfl, hcell⟩ := r3w.at_ (by simp)
    have hg := o3.lt g rfl
    have hgy : g ≠ w3.heap.size := by omega
    have hgz : g ≠ w.heap.size + 1 := by omega
    go_wp2_with (go_at_call 63; refine C6.out.mono ?_)
    rintro e w9 ⟨rfl, hk9⟩
    have hz9 := hz8.kept hk9 (by simp)
    have hy9 := (hy7.set_ 5 (.int .i64 holder)).kept hk9 (by simp)
    have hk39 : Kept [w.heap.size + 1] w3 w9 := ((((((Kept.refl [w.heap.size + 1] w3).alloc _).trans hk5).setCell (Or.inr (by simp)) _).trans hk7).setCell (Or.inr (by simp)) _).trans (hk9.mono (by simp))
    have q0 : w9.cell? ⟨g, off, none⟩ = some (.int .i64 x0) := (hk39.cell (p := ⟨g, off, none⟩) hg.2 (by simpa using hgz)).trans (hcell 0 _ rfl)
    have q1 : w9.cell? ⟨g, off + 1, none⟩ = some (.int .i64 x1) := (hk39.cell (p := ⟨g, off + 1, none⟩) hg.2 (by simpa using hgz)).trans (hcell 1 _ rfl)
    have q2 : w9.cell? ⟨g, off + 2, none⟩ = some (.int .i64 x2) := (hk39.cell (p := ⟨g, off + 2, none⟩) hg.2 (by simpa using hgz)).trans (hcell 2 _ rfl)
    have e0 : w9.cell? ⟨w3.heap.size, 0, none⟩ = some (.int .i64 0) := hy9.cell 0
    have e1 : w9.cell? ⟨w3.heap.size, 1, none⟩ = some (.int .i64 0) := hy9.cell 1
    have e2 : w9.cell? ⟨w3.heap.size, 2, none⟩ = some (.int .i64 0) := hy9.cell 2
    have e3 : w9.cell? ⟨w3.heap.size, 3, none⟩ = some (.string ⟨reason.toArray⟩) := hy9.cell 3
    have e4 : w9.cell? ⟨w3.heap.size, 4, none⟩ = some (.slice a4 jurors.length c4) := hy9.cell 4
    have e5 : w9.cell? ⟨w3.heap.size, 5, none⟩ = some (.int .i64 holder) := hy9.cell 5
    have i0 := hy9.frozen 0
    have i1 := hy9.frozen 1
    have i2 := hy9.frozen 2
    clear hcell hy9 d4 g4 d5 g5
    go_wp2_with fail
    have K0 : ∀ w', Kept [w3.heap.size] w9 w' → w'.cell? ⟨g, off, none⟩ = some (.int .i64 x0) := fun w' k => (k.cell (p := ⟨g, off, none⟩) (World.block_lt_of_cell? w9 _ q0) (by simpa using hgy)).trans q0
    have K1 : ∀ w', Kept [w3.heap.size] w9 w' → w'.cell? ⟨g, off + 1, none⟩ = some (.int .i64 x1) := fun w' k => (k.cell (p := ⟨g, off + 1, none⟩) (World.block_lt_of_cell? w9 _ q1) (by simpa using hgy)).trans q1
    have K2 : ∀ w', Kept [w3.heap.size] w9 w' → w'.cell? ⟨g, off + 2, none⟩ = some (.int .i64 x2) := fun w' k => (k.cell (p := ⟨g, off + 2, none⟩) (World.block_lt_of_cell? w9 _ q2) (by simpa using hgy)).trans q2
    go_region_held3 (fun w' => Kept [w3.heap.size] w9 w') (repeat (first | assumption | (with_reducible exact Kept.refl _ _) | (with_reducible refine Kept.drew ?_) | (with_reducible refine Kept.setCell ?_ (Or.inl (by simp)) _))) (fail)
    have z0 : w9.cell? ⟨w.heap.size, 0, none⟩ = some (.int .i64 0) := hz9.cell 0
    have z1 : w9.cell? ⟨w.heap.size, 1, none⟩ = some (.int .i64 0) := hz9.cell 1
    have z2 : w9.cell? ⟨w.heap.size, 2, none⟩ = some (.int .i64 0) := hz9.cell 2
    have z3 : w9.cell? ⟨w.heap.size, 3, none⟩ = some (.string ⟨#[]⟩) := hz9.cell 3
    have z4 : w9.cell? ⟨w.heap.size, 4, none⟩ = some (.slice none 0 0) := hz9.cell 4
    have z5 : w9.cell? ⟨w.heap.size, 5, none⟩ = some (.int .i64 0) := hz9.cell 5
    have y0 := hz9.frozen 0
    have y1 := hz9.frozen 1
    have y2 := hz9.frozen 2
    have y3 := hz9.frozen 3
    have y4 := hz9.frozen 4
    have y5 := hz9.frozen 5
    have hzy : w.heap.size ≠ w3.heap.size := by omega
    have hyz : w3.heap.size ≠ w.heap.size := by omega
    go_wp2
    have hw9 : Kept [] w w9 := (hw7.setCell (Or.inr (by simp; omega)) _).trans hk9
    have hle : w.heap.size ≤ w3.heap.size := by omega
    have hk59 : Kept [w.heap.size + 1, w3.heap.size] w5 w9 := ((((Kept.refl [w.heap.size + 1, w3.heap.size] w5).setCell (Or.inl (by simp)) _).trans (hk7.mono (by intro k _ hk; simp only [List.mem_cons, List.not_mem_nil, or_false] at hk ⊢; exact Or.inl hk))).setCell (Or.inl (by simp)) _).trans (hk9.mono (by simp))
    rw [World.size_alloc] at ho4
    have o9 := own_kept ho4 hk59 (by intro x hx; simp only [List.mem_cons, List.not_mem_nil, or_false] at hx; rcases hx with rfl | rfl <;> omega)
    refine bodyPost_ret (v := .tuple #[.agg #[.int .i64 x0, .int .i64 x1, .int .i64 x2, .string ⟨reason.toArray⟩, .slice a4 jurors.length c4, .int .i64 holder], .bool true])
      (by simp [results, Tryz.results16, go_sem, z0, z1, z2, z3, z4, z5]) rfl ⟨_, by rw [HY.out], ?_, ?_⟩
    · rw [HY.out]
      refine openV_mk HI0.out HI1.out HI2.out HI4.out HI3.out HL3 HL4 (Row.of_own (own_kept (S := [w.heap.size, w3.heap.size]) o9 ?_ ?_) (by omega))
      · repeat (first | (with_reducible exact Kept.refl _ _) | (with_reducible refine Kept.drew ?_) | (with_reducible refine Kept.setCell ?_ (Or.inl (by simp)) _))
      · intro x hx; simp only [List.mem_cons, List.not_mem_nil, or_false] at hx; rcases hx with rfl | rfl <;> omega
    · repeat (first | (with_reducible exact hw9) | (with_reducible refine Kept.drew ?_) | (with_reducible refine Kept.setCell ?_ (Or.inr (by first | exact Nat.le_refl _ | exact hle)) _))
  · have hno : readMinutes s = (zeroO, false) := by rw [HQ.out, HD.out, if_neg hyes]
    have HN := Lib.hid hno
    clear hno
    have fin : ∀ w9, Kept [] (w7.setCell ⟨w3.heap.size, 5, none⟩ (.int .i64 holder)) w9 →
        Kept [] w (((((((w9.setCell ⟨w.heap.size, 0, none⟩ (.int .i64 0)).setCell ⟨w.heap.size, 1, none⟩ (.int .i64 0)).setCell ⟨w.heap.size, 2, none⟩ (.int .i64 0)).setCell ⟨w.heap.size, 3, none⟩ (.string ⟨#[]⟩)).setCell ⟨w.heap.size, 4, none⟩ (.slice none 0 0)).setCell ⟨w.heap.size, 5, none⟩ (.int .i64 0))) := by
      intro w9 hk9
      have hw9 : Kept [] w w9 := (hw7.setCell (Or.inr (by simp; omega)) _).trans hk9
      exact (((((hw9.setCell (Or.inr (by simp)) _).setCell (Or.inr (by simp)) _).setCell (Or.inr (by simp)) _).setCell (Or.inr (by simp)) _).setCell (Or.inr (by simp)) _).setCell (Or.inr (by simp)) _
    have FIN := Lib.hid fin
    clear fin
    cases d
    · clear hyes
      go_wp2_with (go_at_call 63; refine C6.out.mono ?_)
      rintro e w9 ⟨rfl, hk9⟩
      have hz9 := hz8.kept hk9 (by simp)
      have z0 : w9.cell? ⟨w.heap.size, 0, none⟩ = some (.int .i64 0) := hz9.cell 0
      have z1 : w9.cell? ⟨w.heap.size, 1, none⟩ = some (.int .i64 0) := hz9.cell 1
      have z2 : w9.cell? ⟨w.heap.size, 2, none⟩ = some (.int .i64 0) := hz9.cell 2
      have z3 : w9.cell? ⟨w.heap.size, 3, none⟩ = some (.string ⟨#[]⟩) := hz9.cell 3
      have z4 : w9.cell? ⟨w.heap.size, 4, none⟩ = some (.slice none 0 0) := hz9.cell 4
      have z5 : w9.cell? ⟨w.heap.size, 5, none⟩ = some (.int .i64 0) := hz9.cell 5
      have y0 := hz9.frozen 0
      have y1 := hz9.frozen 1
      have y2 := hz9.frozen 2
      have y3 := hz9.frozen 3
      have y4 := hz9.frozen 4
      have y5 := hz9.frozen 5
      go_wp2
      exact bodyPost_ret (v := .tuple #[.agg zerosO, .bool false]) (by simp [results, Tryz.results16, go_sem, z0, z1, z2, z3, z4, z5, zerosO]) rfl
        ⟨_, by rw [HN.out], by rw [HN.out]; exact openV_zero _, FIN.out w9 hk9⟩
    · have hne : ((head.length : Int) != 3) = true := by
        rw [bne_iff_ne]; intro h; exact hyes ⟨rfl, by omega⟩
      clear hyes
      go_wp2_with (go_at_call 63; refine C6.out.mono ?_)
      rintro e w9 ⟨rfl, hk9⟩
      have hz9 := hz8.kept hk9 (by simp)
      have z0 : w9.cell? ⟨w.heap.size, 0, none⟩ = some (.int .i64 0) := hz9.cell 0
      have z1 : w9.cell? ⟨w.heap.size, 1, none⟩ = some (.int .i64 0) := hz9.cell 1
      have z2 : w9.cell? ⟨w.heap.size, 2, none⟩ = some (.int .i64 0) := hz9.cell 2
      have z3 : w9.cell? ⟨w.heap.size, 3, none⟩ = some (.string ⟨#[]⟩) := hz9.cell 3
      have z4 : w9.cell? ⟨w.heap.size, 4, none⟩ = some (.slice none 0 0) := hz9.cell 4
      have z5 : w9.cell? ⟨w.heap.size, 5, none⟩ = some (.int .i64 0) := hz9.cell 5
      have y0 := hz9.frozen 0
      have y1 := hz9.frozen 1
      have y2 := hz9.frozen 2
      have y3 := hz9.frozen 3
      have y4 := hz9.frozen 4
      have y5 := hz9.frozen 5
      go_wp2
      exact bodyPost_ret (v := .tuple #[.agg zerosO, .bool false]) (by simp [results, Tryz.results16, go_sem, z0, z1, z2, z3, z4, z5, zerosO]) rfl
        ⟨_, by rw [HN.out], by rw [HN.out]; exact openV_zero _, FIN.out w9 hk9⟩

theorem readMinutes_any (s : List UInt8) (w : World) (hE : Env w) (hs : s.length ≤ 100000000) :
    Calls Tryz.prog 16 #[.string ⟨s.toArray⟩] w (RM s w) := by
  obtain ⟨head, r1, h1⟩ : ∃ a b, Wire.nums ⟨s, false⟩ = (a, b) := ⟨_, _, rfl⟩
  obtain ⟨reason, r2, h2⟩ : ∃ a b, Wire.text r1 = (a, b) := ⟨_, _, rfl⟩
  obtain ⟨jurors, r3, h3⟩ : ∃ a b, Wire.nums r2 = (a, b) := ⟨_, _, rfl⟩
  obtain ⟨holder, r4, h4⟩ : ∃ a b, Wire.number 59 (-9223372036854775808) r3 = (a, b) := ⟨_, _, rfl⟩
  exact readMinutes_walk s reason head jurors holder r1 r2 r3 r4 w hE hs h1 h2 h3 h4
end Go.Proofs.YtpcdfepndmconaaGreatDoor
