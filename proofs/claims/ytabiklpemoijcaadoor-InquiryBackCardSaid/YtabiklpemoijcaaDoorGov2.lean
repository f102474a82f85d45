/- Governs, the example statute, a list of one statute. -/
import Derived.Test.YtabiklpemoijcaaDoorGov
namespace Go.Proofs.YtabiklpemoijcaaDoor
open Go.RowKit

def cellsT (ver most dare quorum jurors : Int) (qs ps rv : Value) : Array Value := #[.int .i64 ver, qs, ps, .int .i64 most, rv, .int .i64 dare, .int .i64 quorum, .int .i64 jurors]

set_option maxRecDepth 100000 in
set_option maxHeartbeats 400000 in
theorem governs_any (v : Value) (l : List Statute) (ver quorum jurors most dare : Int) (qs ps rv : Value) (w : World) (h : StatsV w v l) (hs : Short l) :
    Calls Tryd.prog 31 #[v, .agg (cellsT ver most dare quorum jurors qs ps rv)] w fun e w' => e = .returned (.bool (governing l ver quorum jurors).2) ∧ Kept [] w w' := by
  obtain ⟨cells, hrow, hcc⟩ := h.row
  obtain ⟨a, c, rfl, hl, _⟩ := hrow.form
  obtain ⟨W, hW⟩ : ∃ W, w.alloc (.cells #[.int .i64 ver, qs, ps, .int .i64 most, rv, .int .i64 dare, .int .i64 quorum, .int .i64 jurors] 63) = W := ⟨_, rfl⟩
  have hkW : Kept [] w W := hW ▸ (Kept.refl [] w).alloc _
  have hb : Blk W w.heap.size 63 #[.int .i64 ver, qs, ps, .int .i64 most, rv, .int .i64 dare, .int .i64 quorum, .int .i64 jurors] := hW ▸ Blk.new w _ _
  have c0 : W.cell? ⟨w.heap.size, 0, none⟩ = some (.int .i64 ver) := hb.cell 0
  have c1 : W.cell? ⟨w.heap.size, 1, none⟩ = some qs := hb.cell 1
  have c2 : W.cell? ⟨w.heap.size, 2, none⟩ = some ps := hb.cell 2
  have c3 : W.cell? ⟨w.heap.size, 3, none⟩ = some (.int .i64 most) := hb.cell 3
  have c4 : W.cell? ⟨w.heap.size, 4, none⟩ = some rv := hb.cell 4
  have c5 : W.cell? ⟨w.heap.size, 5, none⟩ = some (.int .i64 dare) := hb.cell 5
  have c6 : W.cell? ⟨w.heap.size, 6, none⟩ = some (.int .i64 quorum) := hb.cell 6
  have c7 : W.cell? ⟨w.heap.size, 7, none⟩ = some (.int .i64 jurors) := hb.cell 7
  have HC := Lib.hid (governing_any _ l ver quorum jurors most dare qs ps rv W (h.kept hkW) hs)
  have HW := Lib.hid hW
  clear hW hb hrow hcc h hs hl
  show Calls _ _ #[.slice a l.length c, .agg #[.int .i64 ver, qs, ps, .int .i64 most, rv, .int .i64 dare, .int .i64 quorum, .int .i64 jurors]] _ _
  go_enter Tryd.func31, Tryd.ntmps31
  go_wp2_with fail
  have hW' : w.alloc (.cells #[.int .i64 ver, qs, ps, .int .i64 most, rv, .int .i64 dare, .int .i64 quorum, .int .i64 jurors] 63) = W := HW.out
  rw [hW']
  clear hW'
  go_wp2_with (go_at_call 62; refine HC.out.mono ?_)
  rintro e w1 ⟨v, rfl, hst, hk⟩
  obtain ⟨rs, ws, rfl, hr, hw⟩ := hst.form
  obtain ⟨ra, rc, rfl, _⟩ := hr.form
  obtain ⟨wa, wc, rfl, _⟩ := hw.form
  clear hst hr hw
  go_wp2
  go_ret
  exact ⟨rfl, (hkW.trans hk).alloc _⟩

/-- the example statute -/
def exS : Statute := ⟨[[116, 104, 101, 102, 116]], 2, [1, 0, 2]⟩

theorem Row.of_blk {w : World} {b : Nat} {T : TypeId} {size n : Nat} {cs : List Value} (h : Blk w b T cs.toArray) (hl : cs.length = n * size) (hn : n ≤ 9223372036854775807) :
    Row w size (.slice (some ⟨b, 0, none⟩) n n) n cs := by
  refine ⟨hl, hn, _, _, rfl, Nat.le_refl _, fun _ => ⟨_, _, rfl, fun k u hu => ?_⟩⟩
  rw [Nat.zero_add, h.cell k]
  simpa using hu

theorem exS_new {w : World} {a b : Nat} {S T : TypeId} (h1 : Blk w a S #[.string ⟨#[116, 104, 101, 102, 116]⟩]) (h2 : Blk w b T #[.int .i64 1, .int .i64 0, .int .i64 2]) :
    StatV w (.agg #[.slice (some ⟨a, 0, none⟩) 1 1, .int .i64 2, .slice (some ⟨b, 0, none⟩) 3 3]) exS :=
  ⟨⟨_, _, rfl, Row.of_blk h1 rfl (by decide), Row.of_blk h2 rfl (by decide)⟩, ⟨by decide, by decide⟩, by unfold exS Wire.I64; decide⟩

set_option maxRecDepth 100000 in
theorem statute_any (w : World) : Calls Tryd.prog 56 #[] w fun e w' => ∃ v, e = .returned v ∧ StatV w' v exS ∧ Kept [] w w' := by
  go_enter Tryd.func56, Tryd.ntmps56
  go_wp2
  refine bodyPost_ret (v := .agg #[.slice (some ⟨w.heap.size + 1 + 1, 0, none⟩) 1 1, .int .i64 2, .slice (some ⟨w.heap.size + 1, 0, none⟩) 3 3]) (by simp [results, Tryd.results56, go_sem]) rfl ⟨_, rfl, ?_, ?_⟩
  · refine exS_new (a := w.heap.size + 1 + 1) (b := w.heap.size + 1) (S := 9) (T := 3) ?_ ?_
    · have h := Blk.new ((w.alloc (.cells #[.slice (some ⟨w.heap.size + 1 + 1, 0, none⟩) 1 1, .int .i64 2, .slice (some ⟨w.heap.size + 1, 0, none⟩) 3 3] 60)).alloc (.cells #[.int .i64 1, .int .i64 0, .int .i64 2] 3)) 9 #[.string ⟨#[116, 104, 101, 102, 116]⟩]
      rw [World.size_alloc, World.size_alloc] at h
      exact h
    · have h := Blk.new (w.alloc (.cells #[.slice (some ⟨w.heap.size + 1 + 1, 0, none⟩) 1 1, .int .i64 2, .slice (some ⟨w.heap.size + 1, 0, none⟩) 3 3] 60)) 3 #[.int .i64 1, .int .i64 0, .int .i64 2]
      rw [World.size_alloc] at h
      exact h.alloc _
  · repeat (first | (with_reducible exact Kept.refl _ _) | (with_reducible refine Kept.alloc ?_ _) | (with_reducible refine Kept.drew ?_) | (with_reducible refine Kept.setCell ?_ (Or.inr (by simp)) _))

/-- a list of one statute in a new block -/
theorem StatsV.one {w : World} {rs ws : Value} {q : Int} {x : Statute} (h : StatV w (.agg #[rs, .int .i64 q, ws]) x) (T : TypeId) :
    StatsV (w.alloc (.cells #[rs, .int .i64 q, ws] T)) (.slice (some ⟨w.heap.size, 0, none⟩) 1 1) [x] := by
  have hq : q = x.quorum := by
    obtain ⟨rs', ws', hv, _, _⟩ := h.form
    injection hv with hv
    have := congrArg (fun a : Array Value => a[1]?) hv
    simpa using this
  subst hq
  refine ⟨[rs, .int .i64 x.quorum, ws], ⟨rfl, by simp, _, _, rfl, by simp, fun _ => ⟨_, _, rfl, fun k u hu => ?_⟩⟩, fun i y hy => ?_⟩
  · rw [Nat.zero_add, (Blk.new w T #[rs, .int .i64 x.quorum, ws]).cell k]
    simpa using hu
  · rcases i with _ | i
    · simp at hy; subst hy
      exact ⟨rs, ws, rfl, rfl, rfl, h.kept ((Kept.refl [] _).alloc _)⟩
    · simp at hy
end Go.Proofs.YtabiklpemoijcaaDoor
