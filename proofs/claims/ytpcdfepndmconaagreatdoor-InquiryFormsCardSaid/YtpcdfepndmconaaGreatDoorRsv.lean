/- The reference's SameVote, of two equal votes. -/
import Derived.Test.YtpcdfepndmconaaGreatDoorKnu
import Derived.Test.YtpcdfepndmconaaGreatDoorRj6
namespace Go.Proofs.YtpcdfepndmconaaGreatDoor
open Go.RowKit

set_option maxRecDepth 100000 in
set_option maxHeartbeats 4000000 in
theorem rsameVote_any (va vb : Value) (x : Vote) (c s : Int) (w : World) (ha : VoteX w va x c s) (hb : VoteX w vb x c s) (hr : x.reason.length ≤ 1000000) (hp : x.pts.length ≤ 900000) :
    Calls Tryz.prog 18 #[va, vb] w fun e w' => e = .returned (.bool true) ∧ Kept [] w w' := by
  obtain ⟨ps, pn, rfl, hpr⟩ := ha.form
  obtain ⟨pa, pc, rfl, _⟩ := hpr.form
  obtain ⟨qs, qn, rfl, hqr⟩ := hb.form
  obtain ⟨qa, qc, rfl, _⟩ := hqr.form
  obtain ⟨W, hW⟩ : ∃ W, (w.alloc (.cells #[.int .i64 x.juror, .int .i64 x.version, .int .i64 x.gate, .int .i64 x.no, .string ⟨x.reason.toArray⟩, .slice pa pn pc, .int .i64 c, .int .i64 s] 35)).alloc (.cells #[.int .i64 x.juror, .int .i64 x.version, .int .i64 x.gate, .int .i64 x.no, .string ⟨x.reason.toArray⟩, .slice qa qn qc, .int .i64 c, .int .i64 s] 35) = W := ⟨_, rfl⟩
  have hbA : Blk W w.heap.size 35 #[.int .i64 x.juror, .int .i64 x.version, .int .i64 x.gate, .int .i64 x.no, .string ⟨x.reason.toArray⟩, .slice pa pn pc, .int .i64 c, .int .i64 s] := hW ▸ (Blk.new _ _ _).alloc _
  have hbB : Blk W (w.heap.size + 1) 35 #[.int .i64 x.juror, .int .i64 x.version, .int .i64 x.gate, .int .i64 x.no, .string ⟨x.reason.toArray⟩, .slice qa qn qc, .int .i64 c, .int .i64 s] := by
    have := Blk.new (w.alloc (.cells #[.int .i64 x.juror, .int .i64 x.version, .int .i64 x.gate, .int .i64 x.no, .string ⟨x.reason.toArray⟩, .slice pa pn pc, .int .i64 c, .int .i64 s] 35)) 35 #[.int .i64 x.juror, .int .i64 x.version, .int .i64 x.gate, .int .i64 x.no, .string ⟨x.reason.toArray⟩, .slice qa qn qc, .int .i64 c, .int .i64 s]
    rw [World.size_alloc] at this
    exact hW ▸ this
  have hkW : Kept [] w W := hW ▸ ((Kept.refl _ _).alloc _).alloc _
  have p0 : ∀ w', Kept [] W w' → w'.cell? ⟨w.heap.size, 0, none⟩ = some (.int .i64 x.juror) := Kept.cellOf (hbA.cell 0)
  have p1 : ∀ w', Kept [] W w' → w'.cell? ⟨w.heap.size, 1, none⟩ = some (.int .i64 x.version) := Kept.cellOf (hbA.cell 1)
  have p2 : ∀ w', Kept [] W w' → w'.cell? ⟨w.heap.size, 2, none⟩ = some (.int .i64 x.gate) := Kept.cellOf (hbA.cell 2)
  have p3 : ∀ w', Kept [] W w' → w'.cell? ⟨w.heap.size, 3, none⟩ = some (.int .i64 x.no) := Kept.cellOf (hbA.cell 3)
  have p4 : ∀ w', Kept [] W w' → w'.cell? ⟨w.heap.size, 4, none⟩ = some (.string ⟨x.reason.toArray⟩) := Kept.cellOf (hbA.cell 4)
  have p5 : ∀ w', Kept [] W w' → w'.cell? ⟨w.heap.size, 5, none⟩ = some (.slice pa pn pc) := Kept.cellOf (hbA.cell 5)
  have p6 : ∀ w', Kept [] W w' → w'.cell? ⟨w.heap.size, 6, none⟩ = some (.int .i64 c) := Kept.cellOf (hbA.cell 6)
  have p7 : ∀ w', Kept [] W w' → w'.cell? ⟨w.heap.size, 7, none⟩ = some (.int .i64 s) := Kept.cellOf (hbA.cell 7)
  have q0 : ∀ w', Kept [] W w' → w'.cell? ⟨w.heap.size + 1, 0, none⟩ = some (.int .i64 x.juror) := Kept.cellOf (hbB.cell 0)
  have q1 : ∀ w', Kept [] W w' → w'.cell? ⟨w.heap.size + 1, 1, none⟩ = some (.int .i64 x.version) := Kept.cellOf (hbB.cell 1)
  have q2 : ∀ w', Kept [] W w' → w'.cell? ⟨w.heap.size + 1, 2, none⟩ = some (.int .i64 x.gate) := Kept.cellOf (hbB.cell 2)
  have q3 : ∀ w', Kept [] W w' → w'.cell? ⟨w.heap.size + 1, 3, none⟩ = some (.int .i64 x.no) := Kept.cellOf (hbB.cell 3)
  have q4 : ∀ w', Kept [] W w' → w'.cell? ⟨w.heap.size + 1, 4, none⟩ = some (.string ⟨x.reason.toArray⟩) := Kept.cellOf (hbB.cell 4)
  have q5 : ∀ w', Kept [] W w' → w'.cell? ⟨w.heap.size + 1, 5, none⟩ = some (.slice qa qn qc) := Kept.cellOf (hbB.cell 5)
  have q6 : ∀ w', Kept [] W w' → w'.cell? ⟨w.heap.size + 1, 6, none⟩ = some (.int .i64 c) := Kept.cellOf (hbB.cell 6)
  have q7 : ∀ w', Kept [] W w' → w'.cell? ⟨w.heap.size + 1, 7, none⟩ = some (.int .i64 s) := Kept.cellOf (hbB.cell 7)
  have CA : Hid (∀ w', Kept [] W w' → Calls Tryz.prog 23 #[.agg #[.int .i64 x.juror, .int .i64 x.version, .int .i64 x.gate, .int .i64 x.no, .string ⟨x.reason.toArray⟩, .slice pa pn pc, .int .i64 c, .int .i64 s]] w' fun e w2 => e = .returned (.string ⟨(ballotE x).toArray⟩) ∧ Kept [] w' w2) := fun w' kk => rballot_any _ x w' (ha.v.kept (hkW.trans kk)) (by omega) hp
  have CB : Hid (∀ w', Kept [] W w' → Calls Tryz.prog 23 #[.agg #[.int .i64 x.juror, .int .i64 x.version, .int .i64 x.gate, .int .i64 x.no, .string ⟨x.reason.toArray⟩, .slice qa qn qc, .int .i64 c, .int .i64 s]] w' fun e w2 => e = .returned (.string ⟨(ballotE x).toArray⟩) ∧ Kept [] w' w2) := fun w' kk => rballot_any _ x w' (hb.v.kept (hkW.trans kk)) (by omega) hp
  obtain ⟨E, hE⟩ : ∃ E, ballotE x = E := ⟨_, rfl⟩
  rw [hE] at CA CB
  have HW := Lib.hid hW
  have q9 : (E == E) = true := by simp
  clear hE hW hbA hbB hpr hqr ha hb
  go_enter Tryz.func18, Tryz.ntmps18
  go_upto_region 1 with (fail)
  have hW' : (w.alloc (.cells #[.int .i64 x.juror, .int .i64 x.version, .int .i64 x.gate, .int .i64 x.no, .string ⟨x.reason.toArray⟩, .slice pa pn pc, .int .i64 c, .int .i64 s] 35)).alloc (.cells #[.int .i64 x.juror, .int .i64 x.version, .int .i64 x.gate, .int .i64 x.no, .string ⟨x.reason.toArray⟩, .slice qa qn qc, .int .i64 c, .int .i64 s] 35) = W := HW.out
  rw [hW']
  clear hW'
  go_region_held3 (fun w' => Kept [] W w') (first | (with_reducible assumption) | exact (Kept.refl _ _).drew)
    (first
      | (go_at_call 23; with_reducible refine (CA.out _ (by first | (with_reducible assumption) | exact (Kept.refl _ _).drew)).mono ?_; rintro e w2 ⟨rfl, hkx⟩; have hk2 : Kept [] W w2 := Kept.trans (by first | (with_reducible assumption) | exact (Kept.refl _ _).drew) hkx)
      | (go_at_call 23; with_reducible refine (CB.out _ (by first | (with_reducible assumption) | exact (Kept.refl _ _).drew)).mono ?_; rintro e w3 ⟨rfl, hkx⟩; have hk3 : Kept [] W w3 := Kept.trans (by first | (with_reducible assumption) | exact (Kept.refl _ _).drew) hkx)
      | fail)
  go_wp2_with fail
  go_ret
  exact ⟨rfl, hkW.trans hk3⟩
end Go.Proofs.YtpcdfepndmconaaGreatDoor
