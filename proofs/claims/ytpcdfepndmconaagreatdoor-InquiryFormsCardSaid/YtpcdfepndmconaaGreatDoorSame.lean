/- SameOpening. -/
import Derived.Test.YtpcdfepndmconaaGreatDoorGov
import Derived.Test.YtpcdfepndmconaaGreatDoorMin
import Derived.Test.YtpcdfepndmconaaGreatDoorBallot
/- JOINED: Gov2 Few Same -/
/- Governs, the example statute, a list of one statute. -/
namespace Go.Proofs.YtpcdfepndmconaaGreatDoor
open Go.RowKit

def cellsT (ver most dare quorum jurors : Int) (qs ps rv : Value) : Array Value := #[.int .i64 ver, qs, ps, .int .i64 most, rv, .int .i64 dare, .int .i64 quorum, .int .i64 jurors]

set_option maxRecDepth 100000 in
set_option maxHeartbeats 400000 in
theorem governs_any (v : Value) (l : List Statute) (ver quorum jurors most dare : Int) (qs ps rv : Value) (w : World) (h : StatsV w v l) (hs : Short l) :
    Calls Tryz.prog 20 #[v, .agg (cellsT ver most dare quorum jurors qs ps rv)] w fun e w' => e = .returned (.bool (governing l ver quorum jurors).2) ∧ Kept [] w w' := by
  obtain ⟨cells, hrow, hcc⟩ := h.row
  obtain ⟨a, c, rfl, hl, _⟩ := hrow.form
  obtain ⟨W, hW⟩ : ∃ W, w.alloc (.cells #[.int .i64 ver, qs, ps, .int .i64 most, rv, .int .i64 dare, .int .i64 quorum, .int .i64 jurors] 30) = W := ⟨_, rfl⟩
  have hkW : Kept [] w W := hW ▸ (Kept.refl [] w).alloc _
  have hb : Blk W w.heap.size 30 #[.int .i64 ver, qs, ps, .int .i64 most, rv, .int .i64 dare, .int .i64 quorum, .int .i64 jurors] := hW ▸ Blk.new w _ _
  have c0 : W.cell? ⟨w.heap.size, 0, none⟩ = some (.int .i64 ver) := hb.cell 0
  have c1 : W.cell? ⟨w.heap.size, 1, none⟩ = some qs := hb.cell 1
  have c2 : W.cell? ⟨w.heap.size, 2, none⟩ = some ps := hb.cell 2
  have c3 : W.cell? ⟨w.heap.size, 3, none⟩ = some (.int .i64 most) := hb.cell 3
  have c4 : W.cell? ⟨w.heap.size, 4, none⟩ = some rv := hb.cell 4
  have c5 : W.cell? ⟨w.heap.size, 5, none⟩ = some (.int .i64 dare) := hb.cell 5
  have c6 : W.cell? ⟨w.heap.size, 6, none⟩ = some (.int .i64 quorum) := hb.cell 6
  have c7 : W.cell? ⟨w.heap.size, 7, none⟩ = some (.int .i64 jurors) := hb.cell 7
  have HC := Lib.hid (governing_any _ l ver quorum jurors most dare qs ps rv W (h.kept hkW) hs)
  have HW := Lib.hid hW
  clear hW hb hrow hcc h hs hl
  show Calls _ _ #[.slice a l.length c, .agg #[.int .i64 ver, qs, ps, .int .i64 most, rv, .int .i64 dare, .int .i64 quorum, .int .i64 jurors]] _ _
  go_enter Tryz.func20, Tryz.ntmps20
  go_wp2_with fail
  have hW' : w.alloc (.cells #[.int .i64 ver, qs, ps, .int .i64 most, rv, .int .i64 dare, .int .i64 quorum, .int .i64 jurors] 30) = W := HW.out
  rw [hW']
  clear hW'
  go_wp2_with (go_at_call 69; refine HC.out.mono ?_)
  rintro e w1 ⟨v, rfl, hst, hk⟩
  obtain ⟨rs, ws, rfl, hr, hw⟩ := hst.form
  obtain ⟨ra, rc, rfl, _⟩ := hr.form
  obtain ⟨wa, wc, rfl, _⟩ := hw.form
  clear hst hr hw
  go_wp2
  go_ret
  exact ⟨rfl, (hkW.trans hk).alloc _⟩

/-- the example statute -/
def exS : Statute := ⟨[[116, 104, 101, 102, 116]], 2, [1, 0, 2]⟩

theorem Row.of_blk {w : World} {b : Nat} {T : TypeId} {size n : Nat} {cs : List Value} (h : Blk w b T cs.toArray) (hl : cs.length = n * size) (hn : n ≤ 9223372036854775807) :
    Row w size (.slice (some ⟨b, 0, none⟩) n n) n cs := by
  refine ⟨hl, hn, _, _, rfl, Nat.le_refl _, fun _ => ⟨_, _, rfl, fun k u hu => ?_⟩⟩
  rw [Nat.zero_add, h.cell k]
  simpa using hu

theorem exS_new {w : World} {a b : Nat} {S T : TypeId} (h1 : Blk w a S #[.string ⟨#[116, 104, 101, 102, 116]⟩]) (h2 : Blk w b T #[.int .i64 1, .int .i64 0, .int .i64 2]) :
    StatV w (.agg #[.slice (some ⟨a, 0, none⟩) 1 1, .int .i64 2, .slice (some ⟨b, 0, none⟩) 3 3]) exS :=
  ⟨⟨_, _, rfl, Row.of_blk h1 rfl (by decide), Row.of_blk h2 rfl (by decide)⟩, ⟨by decide, by decide⟩, by unfold exS Wire.I64; decide⟩

set_option maxRecDepth 100000 in
theorem statute_any (w : World) : Calls Tryz.prog 48 #[] w fun e w' => ∃ v, e = .returned v ∧ StatV w' v exS ∧ Kept [] w w' := by
  go_enter Tryz.func48, Tryz.ntmps48
  go_wp2
  refine bodyPost_ret (v := .agg #[.slice (some ⟨w.heap.size + 1 + 1, 0, none⟩) 1 1, .int .i64 2, .slice (some ⟨w.heap.size + 1, 0, none⟩) 3 3]) (by simp [results, Tryz.results48, go_sem]) rfl ⟨_, rfl, ?_, ?_⟩
  · refine exS_new (a := w.heap.size + 1 + 1) (b := w.heap.size + 1) (S := 9) (T := 3) ?_ ?_
    · have h := Blk.new ((w.alloc (.cells #[.slice (some ⟨w.heap.size + 1 + 1, 0, none⟩) 1 1, .int .i64 2, .slice (some ⟨w.heap.size + 1, 0, none⟩) 3 3] 46)).alloc (.cells #[.int .i64 1, .int .i64 0, .int .i64 2] 3)) 9 #[.string ⟨#[116, 104, 101, 102, 116]⟩]
      rw [World.size_alloc, World.size_alloc] at h
      exact h
    · have h := Blk.new (w.alloc (.cells #[.slice (some ⟨w.heap.size + 1 + 1, 0, none⟩) 1 1, .int .i64 2, .slice (some ⟨w.heap.size + 1, 0, none⟩) 3 3] 46)) 3 #[.int .i64 1, .int .i64 0, .int .i64 2]
      rw [World.size_alloc] at h
      exact h.alloc _
  · repeat (first | (with_reducible exact Kept.refl _ _) | (with_reducible refine Kept.alloc ?_ _) | (with_reducible refine Kept.drew ?_) | (with_reducible refine Kept.setCell ?_ (Or.inr (by simp)) _))

/-- a list of one statute in a new block -/
theorem StatsV.one {w : World} {rs ws : Value} {q : Int} {x : Statute} (h : StatV w (.agg #[rs, .int .i64 q, ws]) x) (T : TypeId) :
    StatsV (w.alloc (.cells #[rs, .int .i64 q, ws] T)) (.slice (some ⟨w.heap.size, 0, none⟩) 1 1) [x] := by
  have hq : q = x.quorum := by
    obtain ⟨rs', ws', hv, _, _⟩ := h.form
    injection hv with hv
    have := congrArg (fun a : Array Value => a[1]?) hv
    simpa using this
  subst hq
  refine ⟨[rs, .int .i64 x.quorum, ws], ⟨rfl, by simp, _, _, rfl, by simp, fun _ => ⟨_, _, rfl, fun k u hu => ?_⟩⟩, fun i y hy => ?_⟩
  · rw [Nat.zero_add, (Blk.new w T #[rs, .int .i64 x.quorum, ws]).cell k]
    simpa using hu
  · rcases i with _ | i
    · simp at hy; subst hy
      exact ⟨rs, ws, rfl, rfl, rfl, h.kept ((Kept.refl [] _).alloc _)⟩
    · simp at hy
end Go.Proofs.YtpcdfepndmconaaGreatDoor
/- The documents' bounds on statutes: FewStatutes. -/
namespace Go.Proofs.YtpcdfepndmconaaGreatDoor
open Go.RowKit

def fewAt (x : Statute) : Bool := decide (x.reasons.length ≤ 18 ∧ x.weights.length ≤ 14) && x.reasons.all (fun r => decide (r.length ≤ 30))
def fewS (l : List Statute) : Bool := decide (l.length ≤ 18) && l.all fewAt

theorem all_no {α : Type} {p : α → Bool} {l : List α} {x : α} (h : x ∈ l) (hp : p x = false) : l.all p = false := by
  rw [Bool.eq_false_iff]; intro h2; rw [List.all_eq_true] at h2; have := h2 x h; rw [hp] at this; cases this
theorem take_all {α : Type} {p : α → Bool} {l : List α} {k : Nat} {x : α} (h : (l.take k).all p = true) (hx : l[k]? = some x) (hp : p x = true) : (l.take (k + 1)).all p = true := by
  have hk := (List.getElem?_eq_some_iff.1 hx).1
  have h1 := List.take_succ_eq_append_getElem hk
  rw [(List.getElem?_eq_some_iff.1 hx).2] at h1
  rw [h1, List.all_append, h]; simp [hp]
theorem fewS_no {l : List Statute} {x : Statute} (h : x ∈ l) (hp : fewAt x = false) : fewS l = false := by unfold fewS; rw [all_no h hp]; simp

set_option maxRecDepth 100000 in
set_option maxHeartbeats 2000000 in
theorem few_any (v : Value) (l : List Statute) (w : World) (h : StatsV w v l) (hs : ∀ x ∈ l, ∀ r ∈ x.reasons, r.length ≤ 9223372036854775807) :
    Calls Tryz.prog 6 #[v] w fun e w' => e = .returned (.bool (fewS l)) ∧ w = w' := by
  obtain ⟨cells, hrow, hcc⟩ := h.row
  obtain ⟨a, c, rfl, hl, _⟩ := hrow.form
  have H := Lib.hid h
  have HLl := Lib.hid hs
  clear h hrow hcc hs
  go_enter Tryz.func6, Tryz.ntmps6
  go_wp2_with fail
  go_loop [3] (fun i => ∃ k : Nat, k ≤ l.length ∧ k ≤ 19 ∧ i = .int .i64 k ∧ (l.take k).all fewAt = true) (fun i => l.length - (intOf i).toNat)
  case atStart => exact ⟨0, Nat.zero_le _, by omega, rfl, by simp⟩
  case round =>
    obtain ⟨k, hk, hk19, rfl, hall⟩ := hrel
    have HA := Lib.hid hall
    clear hall
    by_cases hlt : k < l.length
    · by_cases h18 : k ≤ 18
      · obtain ⟨x, hx⟩ : ∃ x, l[k]? = some x := ⟨_, List.getElem?_eq_getElem hlt⟩
        obtain ⟨b, off, ra, rc, wa, wc, rfl, x0, x1, x2, hst⟩ := H.out.at_ hx
        have hxm := List.mem_of_getElem? hx
        have HX := Lib.hid hx
        have HM := Lib.hid hxm
        obtain ⟨hr, hw⟩ := hst.rows
        obtain ⟨ra', rc', e1, hlr, _⟩ := hr.form
        obtain ⟨wa', wc', e2, hlw, _⟩ := hw.form
        have HR := Lib.hid hr
        have HL : Hid (∀ r ∈ x.reasons, r.length ≤ 9223372036854775807) := fun r hr => HLl.out x HM.out r hr
        clear e1 e2 hx hxm hst hw hr
        by_cases hr18 : x.reasons.length ≤ 18
        · by_cases hw14 : x.weights.length ≤ 14
          · go_wp2_with fail
            go_loop [4] (fun i => ∃ m : Nat, m ≤ x.reasons.length ∧ i = .int .i64 m ∧ (x.reasons.take m).all (fun r => decide (r.length ≤ 30)) = true) (fun i => x.reasons.length - (intOf i).toNat)
            case atStart => exact ⟨0, Nat.zero_le _, rfl, by simp⟩
            case round =>
              obtain ⟨m, hm, rfl, hms⟩ := hrel
              have HS := Lib.hid hms
              clear hms
              by_cases hml : m < x.reasons.length
              · obtain ⟨rb, ro, rfl, hcell⟩ := HR.out.at_ (by omega)
                have xm := hcell m _ (strs_get hml)
                have hrm : x.reasons[m]? = some x.reasons[m] := List.getElem?_eq_getElem hml
                have HRM := Lib.hid hrm
                have hlen := HL.out _ (List.getElem_mem hml)
                clear hcell hrm
                by_cases h30 : x.reasons[m].length ≤ 30
                · have HT := Lib.hid (take_all HS.out HRM.out (decide_eq_true h30))
                  go_wp2_with fail
                  go_round
                  case rel => exact ⟨m + 1, by omega, by go_num, HT.out⟩
                  case measure => simp [intOf]; omega
                · have HF := Lib.hid (fewS_no HM.out (by unfold fewAt; rw [all_no (List.getElem_mem hml) (decide_eq_false h30)]; simp))
                  go_wp2_with fail
                  go_ret
                  exact ⟨by rw [HF.out]; rfl, rfl⟩
              · obtain rfl : m = x.reasons.length := by omega
                rw [List.take_length] at HS
                have HT := Lib.hid (take_all HA.out HX.out (by unfold fewAt; rw [HS.out, decide_eq_true ⟨hr18, hw14⟩]; rfl))
                go_wp2_with fail
                go_round
                case rel => exact ⟨k + 1, by omega, by omega, by go_num, HT.out⟩
                case measure => simp [intOf]; omega
          · have HF := Lib.hid (fewS_no HM.out (by unfold fewAt; rw [decide_eq_false (by omega)]; rfl))
            go_wp2_with fail
            go_ret
            exact ⟨by rw [HF.out]; rfl, rfl⟩
        · have HF := Lib.hid (fewS_no HM.out (by unfold fewAt; rw [decide_eq_false (by omega)]; rfl))
          go_wp2_with fail
          go_ret
          exact ⟨by rw [HF.out]; rfl, rfl⟩
      · have HF : Hid (fewS l = false) := by show fewS l = false; unfold fewS; rw [decide_eq_false (by omega)]; rfl
        go_wp2_with fail
        go_ret
        exact ⟨by rw [HF.out]; simp; omega, rfl⟩
    · obtain rfl : k = l.length := by omega
      rw [List.take_length] at HA
      go_wp2_with fail
      go_ret
      exact ⟨by unfold fewS; rw [HA.out]; simp; omega, rfl⟩
end Go.Proofs.YtpcdfepndmconaaGreatDoor
namespace Go.Proofs.YtpcdfepndmconaaGreatDoor
open Go.RowKit

def sameO (a b : Opening) : Bool := decide (a.version = b.version) && (decide (a.gate = b.gate) && (decide (a.no = b.no) && (decide (a.reason = b.reason) && (decide (a.holder = b.holder) && decide (a.jurors = b.jurors)))))

set_option maxRecDepth 100000 in
set_option maxHeartbeats 2000000 in
theorem same_any (va vb : Value) (a b : Opening) (w : World) (ha : OpenV w va a) (hb : OpenV w vb b) :
    Calls Tryz.prog 19 #[va, vb] w fun e w' => e = .returned (.bool (sameO a b)) ∧ Kept [] w w' := by
  obtain ⟨ja, rfl, hra⟩ := ha.form
  obtain ⟨jb, rfl, hrb⟩ := hb.form
  obtain ⟨aa, ca, rfl, hla, _⟩ := hra.form
  obtain ⟨ab, cb, rfl, hlb, _⟩ := hrb.form
  obtain ⟨W, hW⟩ : ∃ W, (w.alloc (.cells (cellsO a (.slice aa a.jurors.length ca)) 37)).alloc (.cells (cellsO b (.slice ab b.jurors.length cb)) 37) = W := ⟨_, rfl⟩
  have hkW : Kept [] w W := hW ▸ ((Kept.refl [] w).alloc _).alloc _
  have h1 : Blk W w.heap.size 37 (cellsO a (.slice aa a.jurors.length ca)) := hW ▸ (Blk.new w _ _).alloc _
  have h2 : Blk W (w.heap.size + 1) 37 (cellsO b (.slice ab b.jurors.length cb)) := by
    have := Blk.new (w.alloc (.cells (cellsO a (.slice aa a.jurors.length ca)) 37)) 37 (cellsO b (.slice ab b.jurors.length cb))
    rw [hW, World.size_alloc] at this
    exact this
  have a0 : W.cell? ⟨w.heap.size, 0, none⟩ = some (.int .i64 a.version) := h1.cell 0
  have a1 : W.cell? ⟨w.heap.size, 1, none⟩ = some (.int .i64 a.gate) := h1.cell 1
  have a2 : W.cell? ⟨w.heap.size, 2, none⟩ = some (.int .i64 a.no) := h1.cell 2
  have a3 : W.cell? ⟨w.heap.size, 3, none⟩ = some (.string ⟨a.reason.toArray⟩) := h1.cell 3
  have a4 : W.cell? ⟨w.heap.size, 4, none⟩ = some (.slice aa a.jurors.length ca) := h1.cell 4
  have a5 : W.cell? ⟨w.heap.size, 5, none⟩ = some (.int .i64 a.holder) := h1.cell 5
  have b0 : W.cell? ⟨w.heap.size + 1, 0, none⟩ = some (.int .i64 b.version) := h2.cell 0
  have b1 : W.cell? ⟨w.heap.size + 1, 1, none⟩ = some (.int .i64 b.gate) := h2.cell 1
  have b2 : W.cell? ⟨w.heap.size + 1, 2, none⟩ = some (.int .i64 b.no) := h2.cell 2
  have b3 : W.cell? ⟨w.heap.size + 1, 3, none⟩ = some (.string ⟨b.reason.toArray⟩) := h2.cell 3
  have b4 : W.cell? ⟨w.heap.size + 1, 4, none⟩ = some (.slice ab b.jurors.length cb) := h2.cell 4
  have b5 : W.cell? ⟨w.heap.size + 1, 5, none⟩ = some (.int .i64 b.holder) := h2.cell 5
  have HC := Lib.hid (sameNums_any _ _ a.jurors b.jurors W (hra.kept hkW) (hrb.kept hkW))
  have HW := Lib.hid hW
  have HS : Hid (sameO a b = ((a.version == b.version) && ((a.gate == b.gate) && ((a.no == b.no) && ((a.reason == b.reason) && ((a.holder == b.holder) && decide (a.jurors = b.jurors))))))) := by
    show sameO a b = _
    unfold sameO
    simp [Bool.beq_eq_decide_eq]
  clear hW h1 h2 hra hrb ha hb
  cases e0 : (a.version == b.version)
  · rw [e0] at HS
    go_enter Tryz.func19, Tryz.ntmps19
    go_wp2_with fail
    have hW' : (w.alloc (.cells #[.int .i64 a.version, .int .i64 a.gate, .int .i64 a.no, .string ⟨a.reason.toArray⟩, .slice aa a.jurors.length ca, .int .i64 a.holder] 37)).alloc (.cells #[.int .i64 b.version, .int .i64 b.gate, .int .i64 b.no, .string ⟨b.reason.toArray⟩, .slice ab b.jurors.length cb, .int .i64 b.holder] 37) = W := HW.out
    rw [hW']
    clear hW'
    go_wp2_with fail
    go_ret
    exact ⟨by rw [HS.out]; rfl, hkW⟩
  · rw [e0] at HS
    cases e1 : (a.gate == b.gate)
    · rw [e1] at HS
      go_enter Tryz.func19, Tryz.ntmps19
      go_wp2_with fail
      have hW' : (w.alloc (.cells #[.int .i64 a.version, .int .i64 a.gate, .int .i64 a.no, .string ⟨a.reason.toArray⟩, .slice aa a.jurors.length ca, .int .i64 a.holder] 37)).alloc (.cells #[.int .i64 b.version, .int .i64 b.gate, .int .i64 b.no, .string ⟨b.reason.toArray⟩, .slice ab b.jurors.length cb, .int .i64 b.holder] 37) = W := HW.out
      rw [hW']
      clear hW'
      go_wp2_with fail
      go_ret
      exact ⟨by rw [HS.out]; rfl, hkW⟩
    · rw [e1] at HS
      cases e2 : (a.no == b.no)
      · rw [e2] at HS
        go_enter Tryz.func19, Tryz.ntmps19
        go_wp2_with fail
        have hW' : (w.alloc (.cells #[.int .i64 a.version, .int .i64 a.gate, .int .i64 a.no, .string ⟨a.reason.toArray⟩, .slice aa a.jurors.length ca, .int .i64 a.holder] 37)).alloc (.cells #[.int .i64 b.version, .int .i64 b.gate, .int .i64 b.no, .string ⟨b.reason.toArray⟩, .slice ab b.jurors.length cb, .int .i64 b.holder] 37) = W := HW.out
        rw [hW']
        clear hW'
        go_wp2_with fail
        go_ret
        exact ⟨by rw [HS.out]; rfl, hkW⟩
      · rw [e2] at HS
        cases e3 : (a.reason == b.reason)
        · rw [e3] at HS
          go_enter Tryz.func19, Tryz.ntmps19
          go_wp2_with fail
          have hW' : (w.alloc (.cells #[.int .i64 a.version, .int .i64 a.gate, .int .i64 a.no, .string ⟨a.reason.toArray⟩, .slice aa a.jurors.length ca, .int .i64 a.holder] 37)).alloc (.cells #[.int .i64 b.version, .int .i64 b.gate, .int .i64 b.no, .string ⟨b.reason.toArray⟩, .slice ab b.jurors.length cb, .int .i64 b.holder] 37) = W := HW.out
          rw [hW']
          clear hW'
          go_wp2_with fail
          go_ret
          exact ⟨by rw [HS.out]; rfl, hkW⟩
        · rw [e3] at HS
          cases e5 : (a.holder == b.holder)
          · rw [e5] at HS
            go_enter Tryz.func19, Tryz.ntmps19
            go_wp2_with fail
            have hW' : (w.alloc (.cells #[.int .i64 a.version, .int .i64 a.gate, .int .i64 a.no, .string ⟨a.reason.toArray⟩, .slice aa a.jurors.length ca, .int .i64 a.holder] 37)).alloc (.cells #[.int .i64 b.version, .int .i64 b.gate, .int .i64 b.no, .string ⟨b.reason.toArray⟩, .slice ab b.jurors.length cb, .int .i64 b.holder] 37) = W := HW.out
            rw [hW']
            clear hW'
            go_wp2_with fail
            go_ret
            exact ⟨by rw [HS.out]; rfl, hkW⟩
          · rw [e5] at HS
            go_enter Tryz.func19, Tryz.ntmps19
            go_wp2_with fail
            have hW' : (w.alloc (.cells #[.int .i64 a.version, .int .i64 a.gate, .int .i64 a.no, .string ⟨a.reason.toArray⟩, .slice aa a.jurors.length ca, .int .i64 a.holder] 37)).alloc (.cells #[.int .i64 b.version, .int .i64 b.gate, .int .i64 b.no, .string ⟨b.reason.toArray⟩, .slice ab b.jurors.length cb, .int .i64 b.holder] 37) = W := HW.out
            rw [hW']
            clear hW'
            go_wp2_with (go_at_call 11; refine HC.out.mono ?_)
            rintro e w1 ⟨rfl, hk⟩
            go_wp2
            go_ret
            exact ⟨by rw [HS.out]; simp, hkW.trans hk⟩
end Go.Proofs.YtpcdfepndmconaaGreatDoor
