/- SameOpening. -/
import Derived.Test.YtabiklpemoijcaaDoorMin
import Derived.Test.YtabiklpemoijcaaDoorNums
namespace Go.Proofs.YtabiklpemoijcaaDoor
open Go.RowKit

def sameO (a b : Opening) : Bool := decide (a.version = b.version) && (decide (a.gate = b.gate) && (decide (a.no = b.no) && (decide (a.reason = b.reason) && (decide (a.holder = b.holder) && decide (a.jurors = b.jurors)))))

set_option maxRecDepth 100000 in
set_option maxHeartbeats 2000000 in
theorem same_any (va vb : Value) (a b : Opening) (w : World) (ha : OpenV w va a) (hb : OpenV w vb b) :
    Calls Tryd.prog 35 #[va, vb] w fun e w' => e = .returned (.bool (sameO a b)) ∧ Kept [] w w' := by
  obtain ⟨ja, rfl, hra⟩ := ha.form
  obtain ⟨jb, rfl, hrb⟩ := hb.form
  obtain ⟨aa, ca, rfl, hla, _⟩ := hra.form
  obtain ⟨ab, cb, rfl, hlb, _⟩ := hrb.form
  obtain ⟨W, hW⟩ : ∃ W, (w.alloc (.cells (cellsO a (.slice aa a.jurors.length ca)) 71)).alloc (.cells (cellsO b (.slice ab b.jurors.length cb)) 71) = W := ⟨_, rfl⟩
  have hkW : Kept [] w W := hW ▸ ((Kept.refl [] w).alloc _).alloc _
  have h1 : Blk W w.heap.size 71 (cellsO a (.slice aa a.jurors.length ca)) := hW ▸ (Blk.new w _ _).alloc _
  have h2 : Blk W (w.heap.size + 1) 71 (cellsO b (.slice ab b.jurors.length cb)) := by
    have := Blk.new (w.alloc (.cells (cellsO a (.slice aa a.jurors.length ca)) 71)) 71 (cellsO b (.slice ab b.jurors.length cb))
    rw [hW, World.size_alloc] at this
    exact this
  have a0 : W.cell? ⟨w.heap.size, 0, none⟩ = some (.int .i64 a.version) := h1.cell 0
  have a1 : W.cell? ⟨w.heap.size, 1, none⟩ = some (.int .i64 a.gate) := h1.cell 1
  have a2 : W.cell? ⟨w.heap.size, 2, none⟩ = some (.int .i64 a.no) := h1.cell 2
  have a3 : W.cell? ⟨w.heap.size, 3, none⟩ = some (.string ⟨a.reason.toArray⟩) := h1.cell 3
  have a4 : W.cell? ⟨w.heap.size, 4, none⟩ = some (.slice aa a.jurors.length ca) := h1.cell 4
  have a5 : W.cell? ⟨w.heap.size, 5, none⟩ = some (.int .i64 a.holder) := h1.cell 5
  have b0 : W.cell? ⟨w.heap.size + 1, 0, none⟩ = some (.int .i64 b.version) := h2.cell 0
  have b1 : W.cell? ⟨w.heap.size + 1, 1, none⟩ = some (.int .i64 b.gate) := h2.cell 1
  have b2 : W.cell? ⟨w.heap.size + 1, 2, none⟩ = some (.int .i64 b.no) := h2.cell 2
  have b3 : W.cell? ⟨w.heap.size + 1, 3, none⟩ = some (.string ⟨b.reason.toArray⟩) := h2.cell 3
  have b4 : W.cell? ⟨w.heap.size + 1, 4, none⟩ = some (.slice ab b.jurors.length cb) := h2.cell 4
  have b5 : W.cell? ⟨w.heap.size + 1, 5, none⟩ = some (.int .i64 b.holder) := h2.cell 5
  have HC := Lib.hid (sameNums_any _ _ a.jurors b.jurors W (hra.kept hkW) (hrb.kept hkW))
  have HW := Lib.hid hW
  have HS : Hid (sameO a b = ((a.version == b.version) && ((a.gate == b.gate) && ((a.no == b.no) && ((a.reason == b.reason) && ((a.holder == b.holder) && decide (a.jurors = b.jurors))))))) := by
    show sameO a b = _
    unfold sameO
    simp [Bool.beq_eq_decide_eq]
  clear hW h1 h2 hra hrb ha hb
  cases e0 : (a.version == b.version)
  · rw [e0] at HS
    go_enter Tryd.func35, Tryd.ntmps35
    go_wp2_with fail
    have hW' : (w.alloc (.cells #[.int .i64 a.version, .int .i64 a.gate, .int .i64 a.no, .string ⟨a.reason.toArray⟩, .slice aa a.jurors.length ca, .int .i64 a.holder] 71)).alloc (.cells #[.int .i64 b.version, .int .i64 b.gate, .int .i64 b.no, .string ⟨b.reason.toArray⟩, .slice ab b.jurors.length cb, .int .i64 b.holder] 71) = W := HW.out
    rw [hW']
    clear hW'
    go_wp2_with fail
    go_ret
    exact ⟨by rw [HS.out]; rfl, hkW⟩
  · rw [e0] at HS
    cases e1 : (a.gate == b.gate)
    · rw [e1] at HS
      go_enter Tryd.func35, Tryd.ntmps35
      go_wp2_with fail
      have hW' : (w.alloc (.cells #[.int .i64 a.version, .int .i64 a.gate, .int .i64 a.no, .string ⟨a.reason.toArray⟩, .slice aa a.jurors.length ca, .int .i64 a.holder] 71)).alloc (.cells #[.int .i64 b.version, .int .i64 b.gate, .int .i64 b.no, .string ⟨b.reason.toArray⟩, .slice ab b.jurors.length cb, .int .i64 b.holder] 71) = W := HW.out
      rw [hW']
      clear hW'
      go_wp2_with fail
      go_ret
      exact ⟨by rw [HS.out]; rfl, hkW⟩
    · rw [e1] at HS
      cases e2 : (a.no == b.no)
      · rw [e2] at HS
        go_enter Tryd.func35, Tryd.ntmps35
        go_wp2_with fail
        have hW' : (w.alloc (.cells #[.int .i64 a.version, .int .i64 a.gate, .int .i64 a.no, .string ⟨a.reason.toArray⟩, .slice aa a.jurors.length ca, .int .i64 a.holder] 71)).alloc (.cells #[.int .i64 b.version, .int .i64 b.gate, .int .i64 b.no, .string ⟨b.reason.toArray⟩, .slice ab b.jurors.length cb, .int .i64 b.holder] 71) = W := HW.out
        rw [hW']
        clear hW'
        go_wp2_with fail
        go_ret
        exact ⟨by rw [HS.out]; rfl, hkW⟩
      · rw [e2] at HS
        cases e3 : (a.reason == b.reason)
        · rw [e3] at HS
          go_enter Tryd.func35, Tryd.ntmps35
          go_wp2_with fail
          have hW' : (w.alloc (.cells #[.int .i64 a.version, .int .i64 a.gate, .int .i64 a.no, .string ⟨a.reason.toArray⟩, .slice aa a.jurors.length ca, .int .i64 a.holder] 71)).alloc (.cells #[.int .i64 b.version, .int .i64 b.gate, .int .i64 b.no, .string ⟨b.reason.toArray⟩, .slice ab b.jurors.length cb, .int .i64 b.holder] 71) = W := HW.out
          rw [hW']
          clear hW'
          go_wp2_with fail
          go_ret
          exact ⟨by rw [HS.out]; rfl, hkW⟩
        · rw [e3] at HS
          cases e5 : (a.holder == b.holder)
          · rw [e5] at HS
            go_enter Tryd.func35, Tryd.ntmps35
            go_wp2_with fail
            have hW' : (w.alloc (.cells #[.int .i64 a.version, .int .i64 a.gate, .int .i64 a.no, .string ⟨a.reason.toArray⟩, .slice aa a.jurors.length ca, .int .i64 a.holder] 71)).alloc (.cells #[.int .i64 b.version, .int .i64 b.gate, .int .i64 b.no, .string ⟨b.reason.toArray⟩, .slice ab b.jurors.length cb, .int .i64 b.holder] 71) = W := HW.out
            rw [hW']
            clear hW'
            go_wp2_with fail
            go_ret
            exact ⟨by rw [HS.out]; rfl, hkW⟩
          · rw [e5] at HS
            go_enter Tryd.func35, Tryd.ntmps35
            go_wp2_with fail
            have hW' : (w.alloc (.cells #[.int .i64 a.version, .int .i64 a.gate, .int .i64 a.no, .string ⟨a.reason.toArray⟩, .slice aa a.jurors.length ca, .int .i64 a.holder] 71)).alloc (.cells #[.int .i64 b.version, .int .i64 b.gate, .int .i64 b.no, .string ⟨b.reason.toArray⟩, .slice ab b.jurors.length cb, .int .i64 b.holder] 71) = W := HW.out
            rw [hW']
            clear hW'
            go_wp2_with (go_at_call 57; refine HC.out.mono ?_)
            rintro e w1 ⟨rfl, hk⟩
            go_wp2
            go_ret
            exact ⟨by rw [HS.out]; simp, hkW.trans hk⟩
end Go.Proofs.YtabiklpemoijcaaDoor
