/- The law on encodings and contexts: the walk of ShowEncodes. -/
import Derived.Test.YtabiklpemoijcaaGreatDoorLaw9
import Derived.Outline
namespace Go.Proofs.YtabiklpemoijcaaGreatDoor
open Go.RowKit Tape

def encS (r : Rec) : List UInt8 := if r.proof.shaped then recE r else []
theorem encRes_eq (r : Rec) : encRes r = .tuple #[.string ⟨(encS r).toArray⟩, .bool (decide r.proof.shaped)] := by
  unfold encRes encS
  by_cases h : r.proof.shaped
  · rw [if_pos h, if_pos h, decide_eq_true h]
  · rw [if_neg h, if_neg h, decide_eq_false h]

theorem ctx_from {X w : World} (k : Kept [] X w) (t : Tsk) (pa va : Value) (tk sp lk cm ch bt es da an : Value) (r : Rec) (hT : TskS X pa va t) (hR : RecS X tk sp lk cm ch bt es da an r) (hE : Env X) (hB : CtxB t) (hBR : EncB r.bare) :
    Calls Tryz.prog 59 #[.agg #[.int .i64 t.version, .string ⟨t.question.toArray⟩, pa, .int .i64 t.most, va, .int .i64 t.dare, .int .i64 t.quorum, .int .i64 t.jurors], .agg #[tk, sp, lk, cm, ch, bt, es, da, an]] w fun e w' => e = .returned (.string ⟨(ctxE t r).toArray⟩) ∧ Kept [] X w' :=
  (ctx_any t pa va tk sp lk cm ch bt es da an r w (hT.kept k) (hR.kept k) (hE.kept0 k) hB hBR).mono fun _ _ ⟨he, hk⟩ => ⟨he, k.trans hk⟩
theorem cell_of {w : World} {b : Nat} {T : TypeId} {cs : Array Value} (h : Blk w b T cs) (i : Nat) (v : Value) (hv : cs[i]? = some v) : w.cell? ⟨b, i, none⟩ = some v := (h.cell i).trans hv
theorem barebox {x : World} {b : Nat} {T : TypeId} {cs : Array Value} (h : Blk x b T cs) : ∃ Z, (x.setCell ⟨b, 7, none⟩ (.slice none 0 0)).setCell ⟨b, 8, none⟩ (.slice none 0 0) = Z ∧ Kept [b] x Z ∧ Blk Z b T ((cs.setIfInBounds 7 (.slice none 0 0)).setIfInBounds 8 (.slice none 0 0)) :=
  ⟨_, rfl, ((Kept.refl _ _).setCell (by simp) _).setCell (by simp) _, (h.set_ 7 _).set_ 8 _⟩
theorem ctxB_of {t : Tsk} (hi : TskI t) (hf : FewT t) : CtxB t := ⟨hf, hi.h5, hi.pub, hi.gs, hi.rv⟩

set_option maxRecDepth 100000 in
set_option maxHeartbeats 32000000 in
theorem law9_any (t u : Tsk) (pt' vt' pu' vu' vr vy : Value) (r y : Rec) (text : List UInt8) (w : World) (hT : TskS w pt' vt' t) (hU : TskS w pu' vu' u) (hR : RecV w vr r) (hY : RecV w vy y) (hE : Env w)
    (iT : TskI t) (iU : TskI u) (iR : RecI r) (iY : RecI y) (ht : text.length ≤ 9223372036854775807) (qt : t.question.length ≤ 9223372036854775807) (qu : u.question.length ≤ 9223372036854775807)
    (nt : ∀ p ∈ t.passes, p.name.length ≤ 9223372036854775807 ∧ ∀ a ∈ p.attrs, a.length ≤ 9223372036854775807) (nu : ∀ p ∈ u.passes, p.name.length ≤ 9223372036854775807 ∧ ∀ a ∈ p.attrs, a.length ≤ 9223372036854775807)
    (lr : ∀ l ∈ r.links, ∀ x ∈ l, x.2.length ≤ 9223372036854775807) (ly : ∀ l ∈ y.links, ∀ x ∈ l, x.2.length ≤ 9223372036854775807) :
    Calls Tryz.prog 6 #[.agg #[.int .i64 t.version, .string ⟨t.question.toArray⟩, pt', .int .i64 t.most, vt', .int .i64 t.dare, .int .i64 t.quorum, .int .i64 t.jurors], .agg #[.int .i64 u.version, .string ⟨u.question.toArray⟩, pu', .int .i64 u.most, vu', .int .i64 u.dare, .int .i64 u.quorum, .int .i64 u.jurors], vr, vy, .string ⟨text.toArray⟩] w (Ret (.bool true) w) := by
  obtain ⟨pt, ct, rfl, _, _⟩ := hT.ps.form
  obtain ⟨vt, dt, rfl, _, _⟩ := hT.rv.form
  obtain ⟨pu, cu, rfl, _, _⟩ := hU.ps.form
  obtain ⟨vu, du, rfl, _, _⟩ := hU.rv.form
  obtain ⟨_, _, _, _, _, _, _, _, _, rfl, hrs⟩ := hR
  obtain ⟨_, _, _, _, _, _, _, _, _, rfl, hys⟩ := hY
  obtain ⟨s0, d0, rfl, _, _⟩ := hrs.tk.form
  obtain ⟨s1, d1, rfl, _, _⟩ := hrs.sp.form
  obtain ⟨s2, d2, rfl, _, _⟩ := hrs.lk.form
  obtain ⟨s3, d3, rfl, _, _⟩ := hrs.cm.form
  obtain ⟨s4, d4, rfl, _, _⟩ := hrs.ch.form
  obtain ⟨s5, d5, rfl, _, _⟩ := hrs.bt.form
  obtain ⟨s6, d6, rfl, _, _⟩ := hrs.es.form
  obtain ⟨s7, d7, rfl, _, _⟩ := hrs.da.form
  obtain ⟨s8, d8, rfl, _, _⟩ := hrs.an.form
  obtain ⟨p0, q0, rfl, _, _⟩ := hys.tk.form
  obtain ⟨p1, q1, rfl, _, _⟩ := hys.sp.form
  obtain ⟨p2, q2, rfl, _, _⟩ := hys.lk.form
  obtain ⟨p3, q3, rfl, _, _⟩ := hys.cm.form
  obtain ⟨p4, q4, rfl, _, _⟩ := hys.ch.form
  obtain ⟨p5, q5, rfl, _, _⟩ := hys.bt.form
  obtain ⟨p6, q6, rfl, _, _⟩ := hys.es.form
  obtain ⟨p7, q7, rfl, _, _⟩ := hys.da.form
  obtain ⟨p8, q8, rfl, _, _⟩ := hys.an.form
  obtain ⟨W, hW⟩ : ∃ W, (((w.alloc (.cells #[.int .i64 t.version, .string ⟨t.question.toArray⟩, .slice pt t.passes.length ct, .int .i64 t.most, .slice vt t.revoked.length dt, .int .i64 t.dare, .int .i64 t.quorum, .int .i64 t.jurors] 30)).alloc (.cells #[.int .i64 u.version, .string ⟨u.question.toArray⟩, .slice pu u.passes.length cu, .int .i64 u.most, .slice vu u.revoked.length du, .int .i64 u.dare, .int .i64 u.quorum, .int .i64 u.jurors] 30)).alloc (.cells #[.slice s0 r.tickets.length d0, .slice s1 r.spends.length d1, .slice s2 r.links.length d2, .slice s3 r.commits.length d3, .slice s4 r.chain.length d4, .slice s5 r.bits.length d5, .slice s6 r.escrow.length d6, .slice s7 r.proof.dares.length d7, .slice s8 r.proof.answers.length d8] 88)).alloc (.cells #[.slice p0 y.tickets.length q0, .slice p1 y.spends.length q1, .slice p2 y.links.length q2, .slice p3 y.commits.length q3, .slice p4 y.chain.length q4, .slice p5 y.bits.length q5, .slice p6 y.escrow.length q6, .slice p7 y.proof.dares.length q7, .slice p8 y.proof.answers.length q8] 88) = W := ⟨_, rfl⟩
  have hkW : Kept [] w W := hW ▸ ((((Kept.refl _ _).alloc _).alloc _).alloc _).alloc _
  have hb0 : Blk W w.heap.size 30 #[.int .i64 t.version, .string ⟨t.question.toArray⟩, .slice pt t.passes.length ct, .int .i64 t.most, .slice vt t.revoked.length dt, .int .i64 t.dare, .int .i64 t.quorum, .int .i64 t.jurors] := hW ▸ (((Blk.new w _ _).alloc _).alloc _).alloc _
  have hb1 : Blk W (w.heap.size + 1) 30 #[.int .i64 u.version, .string ⟨u.question.toArray⟩, .slice pu u.passes.length cu, .int .i64 u.most, .slice vu u.revoked.length du, .int .i64 u.dare, .int .i64 u.quorum, .int .i64 u.jurors] := by
    have := (((Blk.new (w.alloc (.cells #[.int .i64 t.version, .string ⟨t.question.toArray⟩, .slice pt t.passes.length ct, .int .i64 t.most, .slice vt t.revoked.length dt, .int .i64 t.dare, .int .i64 t.quorum, .int .i64 t.jurors] 30)) 30 #[.int .i64 u.version, .string ⟨u.question.toArray⟩, .slice pu u.passes.length cu, .int .i64 u.most, .slice vu u.revoked.length du, .int .i64 u.dare, .int .i64 u.quorum, .int .i64 u.jurors]).alloc (.cells #[.slice s0 r.tickets.length d0, .slice s1 r.spends.length d1, .slice s2 r.links.length d2, .slice s3 r.commits.length d3, .slice s4 r.chain.length d4, .slice s5 r.bits.length d5, .slice s6 r.escrow.length d6, .slice s7 r.proof.dares.length d7, .slice s8 r.proof.answers.length d8] 88)).alloc (.cells #[.slice p0 y.tickets.length q0, .slice p1 y.spends.length q1, .slice p2 y.links.length q2, .slice p3 y.commits.length q3, .slice p4 y.chain.length q4, .slice p5 y.bits.length q5, .slice p6 y.escrow.length q6, .slice p7 y.proof.dares.length q7, .slice p8 y.proof.answers.length q8] 88))
    rw [hW, World.size_alloc] at this
    exact this
  have hb2 : Blk W (w.heap.size + 1 + 1) 88 #[.slice s0 r.tickets.length d0, .slice s1 r.spends.length d1, .slice s2 r.links.length d2, .slice s3 r.commits.length d3, .slice s4 r.chain.length d4, .slice s5 r.bits.length d5, .slice s6 r.escrow.length d6, .slice s7 r.proof.dares.length d7, .slice s8 r.proof.answers.length d8] := by
    have := (Blk.new ((w.alloc (.cells #[.int .i64 t.version, .string ⟨t.question.toArray⟩, .slice pt t.passes.length ct, .int .i64 t.most, .slice vt t.revoked.length dt, .int .i64 t.dare, .int .i64 t.quorum, .int .i64 t.jurors] 30)).alloc (.cells #[.int .i64 u.version, .string ⟨u.question.toArray⟩, .slice pu u.passes.length cu, .int .i64 u.most, .slice vu u.revoked.length du, .int .i64 u.dare, .int .i64 u.quorum, .int .i64 u.jurors] 30)) 88 #[.slice s0 r.tickets.length d0, .slice s1 r.spends.length d1, .slice s2 r.links.length d2, .slice s3 r.commits.length d3, .slice s4 r.chain.length d4, .slice s5 r.bits.length d5, .slice s6 r.escrow.length d6, .slice s7 r.proof.dares.length d7, .slice s8 r.proof.answers.length d8]).alloc (.cells #[.slice p0 y.tickets.length q0, .slice p1 y.spends.length q1, .slice p2 y.links.length q2, .slice p3 y.commits.length q3, .slice p4 y.chain.length q4, .slice p5 y.bits.length q5, .slice p6 y.escrow.length q6, .slice p7 y.proof.dares.length q7, .slice p8 y.proof.answers.length q8] 88)
    rw [hW, World.size_alloc, World.size_alloc] at this
    exact this
  have hb3 : Blk W (w.heap.size + 1 + 1 + 1) 88 #[.slice p0 y.tickets.length q0, .slice p1 y.spends.length q1, .slice p2 y.links.length q2, .slice p3 y.commits.length q3, .slice p4 y.chain.length q4, .slice p5 y.bits.length q5, .slice p6 y.escrow.length q6, .slice p7 y.proof.dares.length q7, .slice p8 y.proof.answers.length q8] := by
    have := Blk.new (((w.alloc (.cells #[.int .i64 t.version, .string ⟨t.question.toArray⟩, .slice pt t.passes.length ct, .int .i64 t.most, .slice vt t.revoked.length dt, .int .i64 t.dare, .int .i64 t.quorum, .int .i64 t.jurors] 30)).alloc (.cells #[.int .i64 u.version, .string ⟨u.question.toArray⟩, .slice pu u.passes.length cu, .int .i64 u.most, .slice vu u.revoked.length du, .int .i64 u.dare, .int .i64 u.quorum, .int .i64 u.jurors] 30)).alloc (.cells #[.slice s0 r.tickets.length d0, .slice s1 r.spends.length d1, .slice s2 r.links.length d2, .slice s3 r.commits.length d3, .slice s4 r.chain.length d4, .slice s5 r.bits.length d5, .slice s6 r.escrow.length d6, .slice s7 r.proof.dares.length d7, .slice s8 r.proof.answers.length d8] 88)) 88 #[.slice p0 y.tickets.length q0, .slice p1 y.spends.length q1, .slice p2 y.links.length q2, .slice p3 y.commits.length q3, .slice p4 y.chain.length q4, .slice p5 y.bits.length q5, .slice p6 y.escrow.length q6, .slice p7 y.proof.dares.length q7, .slice p8 y.proof.answers.length q8]
    rw [hW, World.size_alloc, World.size_alloc, World.size_alloc] at this
    exact this
  have Kt0 : Hid (∀ w', Kept [] W w' → w'.cell? ⟨w.heap.size, 0, none⟩ = some (.int .i64 t.version)) := Kept.cellOf (hb0.cell 0)
  have Kt1 : Hid (∀ w', Kept [] W w' → w'.cell? ⟨w.heap.size, 1, none⟩ = some (.string ⟨t.question.toArray⟩)) := Kept.cellOf (hb0.cell 1)
  have Kt2 : Hid (∀ w', Kept [] W w' → w'.cell? ⟨w.heap.size, 2, none⟩ = some (.slice pt t.passes.length ct)) := Kept.cellOf (hb0.cell 2)
  have Kt3 : Hid (∀ w', Kept [] W w' → w'.cell? ⟨w.heap.size, 3, none⟩ = some (.int .i64 t.most)) := Kept.cellOf (hb0.cell 3)
  have Kt4 : Hid (∀ w', Kept [] W w' → w'.cell? ⟨w.heap.size, 4, none⟩ = some (.slice vt t.revoked.length dt)) := Kept.cellOf (hb0.cell 4)
  have Kt5 : Hid (∀ w', Kept [] W w' → w'.cell? ⟨w.heap.size, 5, none⟩ = some (.int .i64 t.dare)) := Kept.cellOf (hb0.cell 5)
  have Kt6 : Hid (∀ w', Kept [] W w' → w'.cell? ⟨w.heap.size, 6, none⟩ = some (.int .i64 t.quorum)) := Kept.cellOf (hb0.cell 6)
  have Kt7 : Hid (∀ w', Kept [] W w' → w'.cell? ⟨w.heap.size, 7, none⟩ = some (.int .i64 t.jurors)) := Kept.cellOf (hb0.cell 7)
  have Ku0 : Hid (∀ w', Kept [] W w' → w'.cell? ⟨w.heap.size + 1, 0, none⟩ = some (.int .i64 u.version)) := Kept.cellOf (hb1.cell 0)
  have Ku1 : Hid (∀ w', Kept [] W w' → w'.cell? ⟨w.heap.size + 1, 1, none⟩ = some (.string ⟨u.question.toArray⟩)) := Kept.cellOf (hb1.cell 1)
  have Ku2 : Hid (∀ w', Kept [] W w' → w'.cell? ⟨w.heap.size + 1, 2, none⟩ = some (.slice pu u.passes.length cu)) := Kept.cellOf (hb1.cell 2)
  have Ku3 : Hid (∀ w', Kept [] W w' → w'.cell? ⟨w.heap.size + 1, 3, none⟩ = some (.int .i64 u.most)) := Kept.cellOf (hb1.cell 3)
  have Ku4 : Hid (∀ w', Kept [] W w' → w'.cell? ⟨w.heap.size + 1, 4, none⟩ = some (.slice vu u.revoked.length du)) := Kept.cellOf (hb1.cell 4)
  have Ku5 : Hid (∀ w', Kept [] W w' → w'.cell? ⟨w.heap.size + 1, 5, none⟩ = some (.int .i64 u.dare)) := Kept.cellOf (hb1.cell 5)
  have Ku6 : Hid (∀ w', Kept [] W w' → w'.cell? ⟨w.heap.size + 1, 6, none⟩ = some (.int .i64 u.quorum)) := Kept.cellOf (hb1.cell 6)
  have Ku7 : Hid (∀ w', Kept [] W w' → w'.cell? ⟨w.heap.size + 1, 7, none⟩ = some (.int .i64 u.jurors)) := Kept.cellOf (hb1.cell 7)
  have Kr0 : Hid (∀ w', Kept [] W w' → w'.cell? ⟨w.heap.size + 1 + 1, 0, none⟩ = some (.slice s0 r.tickets.length d0)) := Kept.cellOf (hb2.cell 0)
  have Kr1 : Hid (∀ w', Kept [] W w' → w'.cell? ⟨w.heap.size + 1 + 1, 1, none⟩ = some (.slice s1 r.spends.length d1)) := Kept.cellOf (hb2.cell 1)
  have Kr2 : Hid (∀ w', Kept [] W w' → w'.cell? ⟨w.heap.size + 1 + 1, 2, none⟩ = some (.slice s2 r.links.length d2)) := Kept.cellOf (hb2.cell 2)
  have Kr3 : Hid (∀ w', Kept [] W w' → w'.cell? ⟨w.heap.size + 1 + 1, 3, none⟩ = some (.slice s3 r.commits.length d3)) := Kept.cellOf (hb2.cell 3)
  have Kr4 : Hid (∀ w', Kept [] W w' → w'.cell? ⟨w.heap.size + 1 + 1, 4, none⟩ = some (.slice s4 r.chain.length d4)) := Kept.cellOf (hb2.cell 4)
  have Kr5 : Hid (∀ w', Kept [] W w' → w'.cell? ⟨w.heap.size + 1 + 1, 5, none⟩ = some (.slice s5 r.bits.length d5)) := Kept.cellOf (hb2.cell 5)
  have Kr6 : Hid (∀ w', Kept [] W w' → w'.cell? ⟨w.heap.size + 1 + 1, 6, none⟩ = some (.slice s6 r.escrow.length d6)) := Kept.cellOf (hb2.cell 6)
  have Kr7 : Hid (∀ w', Kept [] W w' → w'.cell? ⟨w.heap.size + 1 + 1, 7, none⟩ = some (.slice s7 r.proof.dares.length d7)) := Kept.cellOf (hb2.cell 7)
  have Kr8 : Hid (∀ w', Kept [] W w' → w'.cell? ⟨w.heap.size + 1 + 1, 8, none⟩ = some (.slice s8 r.proof.answers.length d8)) := Kept.cellOf (hb2.cell 8)
  have Ky0 : Hid (∀ w', Kept [] W w' → w'.cell? ⟨w.heap.size + 1 + 1 + 1, 0, none⟩ = some (.slice p0 y.tickets.length q0)) := Kept.cellOf (hb3.cell 0)
  have Ky1 : Hid (∀ w', Kept [] W w' → w'.cell? ⟨w.heap.size + 1 + 1 + 1, 1, none⟩ = some (.slice p1 y.spends.length q1)) := Kept.cellOf (hb3.cell 1)
  have Ky2 : Hid (∀ w', Kept [] W w' → w'.cell? ⟨w.heap.size + 1 + 1 + 1, 2, none⟩ = some (.slice p2 y.links.length q2)) := Kept.cellOf (hb3.cell 2)
  have Ky3 : Hid (∀ w', Kept [] W w' → w'.cell? ⟨w.heap.size + 1 + 1 + 1, 3, none⟩ = some (.slice p3 y.commits.length q3)) := Kept.cellOf (hb3.cell 3)
  have Ky4 : Hid (∀ w', Kept [] W w' → w'.cell? ⟨w.heap.size + 1 + 1 + 1, 4, none⟩ = some (.slice p4 y.chain.length q4)) := Kept.cellOf (hb3.cell 4)
  have Ky5 : Hid (∀ w', Kept [] W w' → w'.cell? ⟨w.heap.size + 1 + 1 + 1, 5, none⟩ = some (.slice p5 y.bits.length q5)) := Kept.cellOf (hb3.cell 5)
  have Ky6 : Hid (∀ w', Kept [] W w' → w'.cell? ⟨w.heap.size + 1 + 1 + 1, 6, none⟩ = some (.slice p6 y.escrow.length q6)) := Kept.cellOf (hb3.cell 6)
  have Ky7 : Hid (∀ w', Kept [] W w' → w'.cell? ⟨w.heap.size + 1 + 1 + 1, 7, none⟩ = some (.slice p7 y.proof.dares.length q7)) := Kept.cellOf (hb3.cell 7)
  have Ky8 : Hid (∀ w', Kept [] W w' → w'.cell? ⟨w.heap.size + 1 + 1 + 1, 8, none⟩ = some (.slice p8 y.proof.answers.length q8)) := Kept.cellOf (hb3.cell 8)
  have HB0 := Lib.hid hb0
  have HB1 := Lib.hid hb1
  have HT0 := Lib.hid hT
  have HU0 := Lib.hid hU
  have HR0 := Lib.hid hrs
  have HY0 := Lib.hid hys
  have HT := Lib.hid (hT.kept hkW)
  have HU := Lib.hid (hU.kept hkW)
  have HR := Lib.hid (hrs.kept hkW)
  have HY := Lib.hid (hys.kept hkW)
  have HE := Lib.hid (hE.kept0 hkW)
  have HW := Lib.hid hW
  have HK := Lib.hid hkW
  have HB2 := Lib.hid hb2
  have HB3 := Lib.hid hb3
  have IT := Lib.hid iT
  have IU := Lib.hid iU
  have IR := Lib.hid iR
  have IY := Lib.hid iY
  have NT := Lib.hid nt
  have NU := Lib.hid nu
  have LR := Lib.hid lr
  have LY := Lib.hid ly
  have HL := Lib.hid (less_any W)
  clear hb0 hb1 hb2 hb3 hT hU hrs hys hE hW hkW iT iU iR iY nt nu lr ly
  go_enter Tryz.func6, Tryz.ntmps6
  go_upto_region 1 with (fail)
  rw [HW.out]
  go_wp2_with (go_at_call 39; refine HL.out.mono ?_)
  rintro e w1 ⟨rfl, K1⟩
  clear HL HW
  have HF1 := Lib.hid (fewTask_any t _ _ w1 (HT.out.kept K1) qt NT.out)
  have tc0 := Kt0.out w1 K1
  have tc1 := Kt1.out w1 K1
  have tc2 := Kt2.out w1 K1
  have tc3 := Kt3.out w1 K1
  have tc4 := Kt4.out w1 K1
  have tc5 := Kt5.out w1 K1
  have tc6 := Kt6.out w1 K1
  have tc7 := Kt7.out w1 K1
  go_wp2_with (go_at_call 9; refine HF1.out.mono ?_)
  rintro e w2 ⟨bb, rfl, hbb, k2⟩
  have K2 := K1.trans k2
  clear HF1 k2
  clear tc0 tc1 tc2 tc3 tc4 tc5 tc6 tc7
  cases bb
  · go_wp2_with fail
    go_ret
    exact ⟨rfl, HK.out.trans K2⟩
  · have B1 := Lib.hid (hbb rfl)
    clear hbb
    have HF2 := Lib.hid (fewTask_any u _ _ w2 (HU.out.kept K2) qu NU.out)
    have uc0 := Ku0.out w2 K2
    have uc1 := Ku1.out w2 K2
    have uc2 := Ku2.out w2 K2
    have uc3 := Ku3.out w2 K2
    have uc4 := Ku4.out w2 K2
    have uc5 := Ku5.out w2 K2
    have uc6 := Ku6.out w2 K2
    have uc7 := Ku7.out w2 K2
    go_wp2_with (go_at_call 9; refine HF2.out.mono ?_)
    rintro e w3 ⟨bb, rfl, hbb, k3⟩
    have K3 := K2.trans k3
    clear HF2 k3
    clear uc0 uc1 uc2 uc3 uc4 uc5 uc6 uc7
    cases bb
    · go_wp2_with fail
      go_ret
      exact ⟨rfl, HK.out.trans K3⟩
    · have B2 := Lib.hid (hbb rfl)
      clear hbb
      have HF3 := Lib.hid (fewRecord_any _ r w3 ⟨_, _, _, _, _, _, _, _, _, rfl, HR.out.kept K3⟩ LR.out)
      have rc0 := Kr0.out w3 K3
      have rc1 := Kr1.out w3 K3
      have rc2 := Kr2.out w3 K3
      have rc3 := Kr3.out w3 K3
      have rc4 := Kr4.out w3 K3
      have rc5 := Kr5.out w3 K3
      have rc6 := Kr6.out w3 K3
      have rc7 := Kr7.out w3 K3
      have rc8 := Kr8.out w3 K3
      go_wp2_with (go_at_call 41; refine HF3.out.mono ?_)
      rintro e w4 ⟨bb, rfl, hbb, k4⟩
      have K4 := K3.trans k4
      clear HF3 k4
      clear rc0 rc1 rc2 rc3 rc4 rc5 rc6 rc7 rc8
      cases bb
      · go_wp2_with fail
        go_ret
        exact ⟨rfl, HK.out.trans K4⟩
      · have B3 := Lib.hid (hbb rfl)
        clear hbb
        have HF4 := Lib.hid (fewRecord_any _ y w4 ⟨_, _, _, _, _, _, _, _, _, rfl, HY.out.kept K4⟩ LY.out)
        have yc0 := Ky0.out w4 K4
        have yc1 := Ky1.out w4 K4
        have yc2 := Ky2.out w4 K4
        have yc3 := Ky3.out w4 K4
        have yc4 := Ky4.out w4 K4
        have yc5 := Ky5.out w4 K4
        have yc6 := Ky6.out w4 K4
        have yc7 := Ky7.out w4 K4
        have yc8 := Ky8.out w4 K4
        go_wp2_with (go_at_call 41; refine HF4.out.mono ?_)
        rintro e w5 ⟨bb, rfl, hbb, k5⟩
        have K5 := K4.trans k5
        clear HF4 k5
        clear yc0 yc1 yc2 yc3 yc4 yc5 yc6 yc7 yc8
        cases bb
        · go_wp2_with fail
          go_ret
          exact ⟨rfl, HK.out.trans K5⟩
        · have B4 := Lib.hid (hbb rfl)
          clear hbb
          by_cases h600 : text.length ≤ 600
          · skip
            have HC := Lib.hid (encR_any _ _ _ _ _ _ _ _ _ r w5 (HR.out.kept K5) (HE.out.kept0 K5) (encB_of IR.out B3.out))
            rw [encRes_eq] at HC
            obtain ⟨A, hA⟩ : ∃ A, encS r = A := ⟨_, rfl⟩
            obtain ⟨ok, hok⟩ : ∃ ok, decide r.proof.shaped = ok := ⟨_, rfl⟩
            rw [hA, hok] at HC
            have hAl : A.length ≤ 100000000 := by
              rw [← hA]; unfold encS; split
              · exact recE_small IR.out B3.out
              · simp
            have HA : Hid (ok = true → readR A = (r, true)) := fun h => by
              rw [← hok] at h
              have h := of_decide_eq_true h
              rw [← hA]; unfold encS; rw [if_pos h]
              exact law_fwd IR.out B3.out h
            clear hA hok
            have rc0 := Kr0.out w5 K5
            have rc1 := Kr1.out w5 K5
            have rc2 := Kr2.out w5 K5
            have rc3 := Kr3.out w5 K5
            have rc4 := Kr4.out w5 K5
            have rc5 := Kr5.out w5 K5
            have rc6 := Kr6.out w5 K5
            have rc7 := Kr7.out w5 K5
            have rc8 := Kr8.out w5 K5
            go_wp2_with (go_at_call 54; refine HC.out.mono ?_)
            rintro e w6 ⟨rfl, k6⟩
            have K6 := K5.trans k6
            clear HC k6
            clear rc0 rc1 rc2 rc3 rc4 rc5 rc6 rc7 rc8
            have HD := Lib.hid (dec_any A w6 (HE.out.kept0 K6) hAl)
            obtain ⟨b, is, hb⟩ : ∃ b is, readR A = (b, is) := ⟨_, _, rfl⟩
            rw [hb] at HD HA
            have HAb := HA
            clear HA hb
            go_wp2_with (go_at_call 56; refine HD.out.mono ?_)
            rintro e w7 ⟨_, rfl, ⟨_, _, _, _, _, _, _, _, _, rfl, hbs⟩, k7⟩
            obtain ⟨m0, n0, rfl, _, _⟩ := hbs.tk.form
            obtain ⟨m1, n1, rfl, _, _⟩ := hbs.sp.form
            obtain ⟨m2, n2, rfl, _, _⟩ := hbs.lk.form
            obtain ⟨m3, n3, rfl, _, _⟩ := hbs.cm.form
            obtain ⟨m4, n4, rfl, _, _⟩ := hbs.ch.form
            obtain ⟨m5, n5, rfl, _, _⟩ := hbs.bt.form
            obtain ⟨m6, n6, rfl, _, _⟩ := hbs.es.form
            obtain ⟨m7, n7, rfl, _, _⟩ := hbs.da.form
            obtain ⟨m8, n8, rfl, _, _⟩ := hbs.an.form
            have K7 := K6.trans k7
            have HBS := Lib.hid hbs
            clear HD k7 hbs
            go_upto_region 6 with (fail)
            obtain ⟨w8, hw8⟩ : ∃ x, w7.alloc (.cells #[.slice m0 b.tickets.length n0, .slice m1 b.spends.length n1, .slice m2 b.links.length n2, .slice m3 b.commits.length n3, .slice m4 b.chain.length n4, .slice m5 b.bits.length n5, .slice m6 b.escrow.length n6, .slice m7 b.proof.dares.length n7, .slice m8 b.proof.answers.length n8] 88) = x := ⟨_, rfl⟩
            have k8 : Kept [] w7 w8 := hw8 ▸ (Kept.refl _ _).alloc _
            have hbB : Blk w8 w7.heap.size 88 #[.slice m0 b.tickets.length n0, .slice m1 b.spends.length n1, .slice m2 b.links.length n2, .slice m3 b.commits.length n3, .slice m4 b.chain.length n4, .slice m5 b.bits.length n5, .slice m6 b.escrow.length n6, .slice m7 b.proof.dares.length n7, .slice m8 b.proof.answers.length n8] := hw8 ▸ Blk.new _ _ _
            rw [hw8]
            obtain ⟨bb, hbb⟩ : ∃ bb, w7.heap.size = bb := ⟨_, rfl⟩
            rw [hbb] at hbB ⊢
            have Kb0 : Hid (∀ w', Kept [] w8 w' → w'.cell? ⟨bb, 0, none⟩ = some (.slice m0 b.tickets.length n0)) := Kept.cellOf (hbB.cell 0)
            have Kb1 : Hid (∀ w', Kept [] w8 w' → w'.cell? ⟨bb, 1, none⟩ = some (.slice m1 b.spends.length n1)) := Kept.cellOf (hbB.cell 1)
            have Kb2 : Hid (∀ w', Kept [] w8 w' → w'.cell? ⟨bb, 2, none⟩ = some (.slice m2 b.links.length n2)) := Kept.cellOf (hbB.cell 2)
            have Kb3 : Hid (∀ w', Kept [] w8 w' → w'.cell? ⟨bb, 3, none⟩ = some (.slice m3 b.commits.length n3)) := Kept.cellOf (hbB.cell 3)
            have Kb4 : Hid (∀ w', Kept [] w8 w' → w'.cell? ⟨bb, 4, none⟩ = some (.slice m4 b.chain.length n4)) := Kept.cellOf (hbB.cell 4)
            have Kb5 : Hid (∀ w', Kept [] w8 w' → w'.cell? ⟨bb, 5, none⟩ = some (.slice m5 b.bits.length n5)) := Kept.cellOf (hbB.cell 5)
            have Kb6 : Hid (∀ w', Kept [] w8 w' → w'.cell? ⟨bb, 6, none⟩ = some (.slice m6 b.escrow.length n6)) := Kept.cellOf (hbB.cell 6)
            have Kb7 : Hid (∀ w', Kept [] w8 w' → w'.cell? ⟨bb, 7, none⟩ = some (.slice m7 b.proof.dares.length n7)) := Kept.cellOf (hbB.cell 7)
            have Kb8 : Hid (∀ w', Kept [] w8 w' → w'.cell? ⟨bb, 8, none⟩ = some (.slice m8 b.proof.answers.length n8)) := Kept.cellOf (hbB.cell 8)
            have K8 := K7.trans k8
            have HB8 := Lib.hid (HBS.out.kept k8)
            clear hbB hw8 hbb k8 HBS K7
            have HD := Lib.hid (dec_any text w8 (HE.out.kept0 K8) (by omega))
            obtain ⟨c, can, hc⟩ : ∃ c can, readR text = (c, can) := ⟨_, _, rfl⟩
            have HEC := Lib.hid (encB_read hc h600)
            have HCT : Hid (can = true → c.proof.shaped ∧ recE c = text) := fun h => by subst h; exact readR_inv text c hc
            rw [hc] at HD
            clear hc
            go_wp2_with (go_at_call 56; refine HD.out.mono ?_)
            rintro e w9 ⟨_, rfl, ⟨_, _, _, _, _, _, _, _, _, rfl, hcs⟩, k9⟩
            obtain ⟨g0, h0, rfl, _, _⟩ := hcs.tk.form
            obtain ⟨g1, h1, rfl, _, _⟩ := hcs.sp.form
            obtain ⟨g2, h2, rfl, _, _⟩ := hcs.lk.form
            obtain ⟨g3, h3, rfl, _, _⟩ := hcs.cm.form
            obtain ⟨g4, h4, rfl, _, _⟩ := hcs.ch.form
            obtain ⟨g5, h5, rfl, _, _⟩ := hcs.bt.form
            obtain ⟨g6, h6, rfl, _, _⟩ := hcs.es.form
            obtain ⟨g7, h7, rfl, _, _⟩ := hcs.da.form
            obtain ⟨g8, h8, rfl, _, _⟩ := hcs.an.form
            have K9 := K8.trans k9
            have HCS := Lib.hid hcs
            have HK89 := Lib.hid k9
            clear HD k9 hcs
            go_upto_region 7 with (fail)
            obtain ⟨wA, hwA⟩ : ∃ x, w9.alloc (.cells #[.slice g0 c.tickets.length h0, .slice g1 c.spends.length h1, .slice g2 c.links.length h2, .slice g3 c.commits.length h3, .slice g4 c.chain.length h4, .slice g5 c.bits.length h5, .slice g6 c.escrow.length h6, .slice g7 c.proof.dares.length h7, .slice g8 c.proof.answers.length h8] 88) = x := ⟨_, rfl⟩
            have kA : Kept [] w9 wA := hwA ▸ (Kept.refl _ _).alloc _
            have hbC : Blk wA w9.heap.size 88 #[.slice g0 c.tickets.length h0, .slice g1 c.spends.length h1, .slice g2 c.links.length h2, .slice g3 c.commits.length h3, .slice g4 c.chain.length h4, .slice g5 c.bits.length h5, .slice g6 c.escrow.length h6, .slice g7 c.proof.dares.length h7, .slice g8 c.proof.answers.length h8] := hwA ▸ Blk.new _ _ _
            rw [hwA]
            have KA := K9.trans kA
            have K8A := Lib.hid (HK89.out.trans kA)
            have HC := Lib.hid (encR_any _ _ _ _ _ _ _ _ _ c wA (HCS.out.kept kA) (HE.out.kept0 KA) HEC.out)
            rw [encRes_eq] at HC
            obtain ⟨cb, hcb⟩ : ∃ bb, w9.heap.size = bb := ⟨_, rfl⟩
            rw [hcb] at hbC ⊢
            have cc0 := hbC.cell 0
            have cc1 := hbC.cell 1
            have cc2 := hbC.cell 2
            have cc3 := hbC.cell 3
            have cc4 := hbC.cell 4
            have cc5 := hbC.cell 5
            have cc6 := hbC.cell 6
            have cc7 := hbC.cell 7
            have cc8 := hbC.cell 8
            obtain ⟨D, hD⟩ : ∃ A, encS c = A := ⟨_, rfl⟩
            obtain ⟨may, hmay⟩ : ∃ ok, decide c.proof.shaped = ok := ⟨_, rfl⟩
            have HDT : Hid (can = true → may = true ∧ D = text) := fun h => by
              obtain ⟨h1, h2⟩ := HCT.out h
              refine ⟨by rw [← hmay]; exact decide_eq_true h1, ?_⟩
              rw [← hD]; unfold encS; rw [if_pos h1, h2]
            rw [hD, hmay] at HC
            clear hD hmay HEC HCT hbC hwA kA K9 HK89 hcb
            go_wp2_with (go_at_call 54; refine HC.out.mono ?_)
            rintro e wB ⟨rfl, kB⟩
            have KB := KA.trans kB
            have K8B := Lib.hid (K8A.out.trans kB)
            clear HC KA K8A kB
            clear cc0 cc1 cc2 cc3 cc4 cc5 cc6 cc7 cc8
            go_upto_region 8 with (fail)
            cases ok
            · cases can
              · skip
                go_upto_region 10 with (fail)
                have tc0 : ∀ w', Kept [] wB w' → w'.cell? ⟨w.heap.size, 0, none⟩ = some (.int .i64 t.version) := fun w' k => Kt0.out w' (KB.trans k)
                have tc1 : ∀ w', Kept [] wB w' → w'.cell? ⟨w.heap.size, 1, none⟩ = some (.string ⟨t.question.toArray⟩) := fun w' k => Kt1.out w' (KB.trans k)
                have tc2 : ∀ w', Kept [] wB w' → w'.cell? ⟨w.heap.size, 2, none⟩ = some (.slice pt t.passes.length ct) := fun w' k => Kt2.out w' (KB.trans k)
                have tc3 : ∀ w', Kept [] wB w' → w'.cell? ⟨w.heap.size, 3, none⟩ = some (.int .i64 t.most) := fun w' k => Kt3.out w' (KB.trans k)
                have tc4 : ∀ w', Kept [] wB w' → w'.cell? ⟨w.heap.size, 4, none⟩ = some (.slice vt t.revoked.length dt) := fun w' k => Kt4.out w' (KB.trans k)
                have tc5 : ∀ w', Kept [] wB w' → w'.cell? ⟨w.heap.size, 5, none⟩ = some (.int .i64 t.dare) := fun w' k => Kt5.out w' (KB.trans k)
                have tc6 : ∀ w', Kept [] wB w' → w'.cell? ⟨w.heap.size, 6, none⟩ = some (.int .i64 t.quorum) := fun w' k => Kt6.out w' (KB.trans k)
                have tc7 : ∀ w', Kept [] wB w' → w'.cell? ⟨w.heap.size, 7, none⟩ = some (.int .i64 t.jurors) := fun w' k => Kt7.out w' (KB.trans k)
                have uc0 : ∀ w', Kept [] wB w' → w'.cell? ⟨w.heap.size + 1, 0, none⟩ = some (.int .i64 u.version) := fun w' k => Ku0.out w' (KB.trans k)
                have uc1 : ∀ w', Kept [] wB w' → w'.cell? ⟨w.heap.size + 1, 1, none⟩ = some (.string ⟨u.question.toArray⟩) := fun w' k => Ku1.out w' (KB.trans k)
                have uc2 : ∀ w', Kept [] wB w' → w'.cell? ⟨w.heap.size + 1, 2, none⟩ = some (.slice pu u.passes.length cu) := fun w' k => Ku2.out w' (KB.trans k)
                have uc3 : ∀ w', Kept [] wB w' → w'.cell? ⟨w.heap.size + 1, 3, none⟩ = some (.int .i64 u.most) := fun w' k => Ku3.out w' (KB.trans k)
                have uc4 : ∀ w', Kept [] wB w' → w'.cell? ⟨w.heap.size + 1, 4, none⟩ = some (.slice vu u.revoked.length du) := fun w' k => Ku4.out w' (KB.trans k)
                have uc5 : ∀ w', Kept [] wB w' → w'.cell? ⟨w.heap.size + 1, 5, none⟩ = some (.int .i64 u.dare) := fun w' k => Ku5.out w' (KB.trans k)
                have uc6 : ∀ w', Kept [] wB w' → w'.cell? ⟨w.heap.size + 1, 6, none⟩ = some (.int .i64 u.quorum) := fun w' k => Ku6.out w' (KB.trans k)
                have uc7 : ∀ w', Kept [] wB w' → w'.cell? ⟨w.heap.size + 1, 7, none⟩ = some (.int .i64 u.jurors) := fun w' k => Ku7.out w' (KB.trans k)
                have rc0 : ∀ w', Kept [] wB w' → w'.cell? ⟨w.heap.size + 1 + 1, 0, none⟩ = some (.slice s0 r.tickets.length d0) := fun w' k => Kr0.out w' (KB.trans k)
                have rc1 : ∀ w', Kept [] wB w' → w'.cell? ⟨w.heap.size + 1 + 1, 1, none⟩ = some (.slice s1 r.spends.length d1) := fun w' k => Kr1.out w' (KB.trans k)
                have rc2 : ∀ w', Kept [] wB w' → w'.cell? ⟨w.heap.size + 1 + 1, 2, none⟩ = some (.slice s2 r.links.length d2) := fun w' k => Kr2.out w' (KB.trans k)
                have rc3 : ∀ w', Kept [] wB w' → w'.cell? ⟨w.heap.size + 1 + 1, 3, none⟩ = some (.slice s3 r.commits.length d3) := fun w' k => Kr3.out w' (KB.trans k)
                have rc4 : ∀ w', Kept [] wB w' → w'.cell? ⟨w.heap.size + 1 + 1, 4, none⟩ = some (.slice s4 r.chain.length d4) := fun w' k => Kr4.out w' (KB.trans k)
                have rc5 : ∀ w', Kept [] wB w' → w'.cell? ⟨w.heap.size + 1 + 1, 5, none⟩ = some (.slice s5 r.bits.length d5) := fun w' k => Kr5.out w' (KB.trans k)
                have rc6 : ∀ w', Kept [] wB w' → w'.cell? ⟨w.heap.size + 1 + 1, 6, none⟩ = some (.slice s6 r.escrow.length d6) := fun w' k => Kr6.out w' (KB.trans k)
                have rc7 : ∀ w', Kept [] wB w' → w'.cell? ⟨w.heap.size + 1 + 1, 7, none⟩ = some (.slice s7 r.proof.dares.length d7) := fun w' k => Kr7.out w' (KB.trans k)
                have rc8 : ∀ w', Kept [] wB w' → w'.cell? ⟨w.heap.size + 1 + 1, 8, none⟩ = some (.slice s8 r.proof.answers.length d8) := fun w' k => Kr8.out w' (KB.trans k)
                have yc0 : ∀ w', Kept [] wB w' → w'.cell? ⟨w.heap.size + 1 + 1 + 1, 0, none⟩ = some (.slice p0 y.tickets.length q0) := fun w' k => Ky0.out w' (KB.trans k)
                have yc1 : ∀ w', Kept [] wB w' → w'.cell? ⟨w.heap.size + 1 + 1 + 1, 1, none⟩ = some (.slice p1 y.spends.length q1) := fun w' k => Ky1.out w' (KB.trans k)
                have yc2 : ∀ w', Kept [] wB w' → w'.cell? ⟨w.heap.size + 1 + 1 + 1, 2, none⟩ = some (.slice p2 y.links.length q2) := fun w' k => Ky2.out w' (KB.trans k)
                have yc3 : ∀ w', Kept [] wB w' → w'.cell? ⟨w.heap.size + 1 + 1 + 1, 3, none⟩ = some (.slice p3 y.commits.length q3) := fun w' k => Ky3.out w' (KB.trans k)
                have yc4 : ∀ w', Kept [] wB w' → w'.cell? ⟨w.heap.size + 1 + 1 + 1, 4, none⟩ = some (.slice p4 y.chain.length q4) := fun w' k => Ky4.out w' (KB.trans k)
                have yc5 : ∀ w', Kept [] wB w' → w'.cell? ⟨w.heap.size + 1 + 1 + 1, 5, none⟩ = some (.slice p5 y.bits.length q5) := fun w' k => Ky5.out w' (KB.trans k)
                have yc6 : ∀ w', Kept [] wB w' → w'.cell? ⟨w.heap.size + 1 + 1 + 1, 6, none⟩ = some (.slice p6 y.escrow.length q6) := fun w' k => Ky6.out w' (KB.trans k)
                have yc7 : ∀ w', Kept [] wB w' → w'.cell? ⟨w.heap.size + 1 + 1 + 1, 7, none⟩ = some (.slice p7 y.proof.dares.length q7) := fun w' k => Ky7.out w' (KB.trans k)
                have yc8 : ∀ w', Kept [] wB w' → w'.cell? ⟨w.heap.size + 1 + 1 + 1, 8, none⟩ = some (.slice p8 y.proof.answers.length q8) := fun w' k => Ky8.out w' (KB.trans k)

                have HTx := Lib.hid (HT.out.kept KB)
                have HUx := Lib.hid (HU.out.kept KB)
                have HRx := Lib.hid (HR.out.kept KB)
                have HYx := Lib.hid (HY.out.kept KB)
                have HEx := Lib.hid (HE.out.kept0 KB)
                have HINJ := Lib.hid (ctx_inj t u r y (okT_of IT.out B1.out) (okT_of IU.out B2.out) (okR_of (recI_bare IR.out) (fewB_bare B3.out)) (okR_of (recI_bare IY.out) (fewB_bare B4.out)))
                obtain ⟨CT, hCT⟩ : ∃ A, ctxE t r = A := ⟨_, rfl⟩
                obtain ⟨CU, hCU⟩ : ∃ A, ctxE u y = A := ⟨_, rfl⟩
                rw [hCT, hCU] at HINJ
                have HC1 : Hid (∀ w', Kept [] wB w' → Calls Tryz.prog 59 #[.agg #[.int .i64 t.version, .string ⟨t.question.toArray⟩, .slice pt t.passes.length ct, .int .i64 t.most, .slice vt t.revoked.length dt, .int .i64 t.dare, .int .i64 t.quorum, .int .i64 t.jurors], .agg #[.slice s0 r.tickets.length d0, .slice s1 r.spends.length d1, .slice s2 r.links.length d2, .slice s3 r.commits.length d3, .slice s4 r.chain.length d4, .slice s5 r.bits.length d5, .slice s6 r.escrow.length d6, .slice s7 r.proof.dares.length d7, .slice s8 r.proof.answers.length d8]] w' fun e w'' => e = .returned (.string ⟨CT.toArray⟩) ∧ Kept [] wB w'') := fun w' k => by rw [← hCT]; exact ctx_from k t _ _ _ _ _ _ _ _ _ _ _ r HTx.out HRx.out HEx.out (ctxB_of IT.out B1.out) (encB_of (recI_bare IR.out) (fewB_bare B3.out))
                have HC2 : Hid (∀ w', Kept [] wB w' → Calls Tryz.prog 59 #[.agg #[.int .i64 u.version, .string ⟨u.question.toArray⟩, .slice pu u.passes.length cu, .int .i64 u.most, .slice vu u.revoked.length du, .int .i64 u.dare, .int .i64 u.quorum, .int .i64 u.jurors], .agg #[.slice p0 y.tickets.length q0, .slice p1 y.spends.length q1, .slice p2 y.links.length q2, .slice p3 y.commits.length q3, .slice p4 y.chain.length q4, .slice p5 y.bits.length q5, .slice p6 y.escrow.length q6, .slice p7 y.proof.dares.length q7, .slice p8 y.proof.answers.length q8]] w' fun e w'' => e = .returned (.string ⟨CU.toArray⟩) ∧ Kept [] wB w'') := fun w' k => by rw [← hCU]; exact ctx_from k u _ _ _ _ _ _ _ _ _ _ _ y HUx.out HYx.out HEx.out (ctxB_of IU.out B2.out) (encB_of (recI_bare IY.out) (fewB_bare B4.out))
                clear hCT hCU HTx HUx HEx
                go_upto_region 10 with (fail)
                cases hbe : (CT == CU)
                all_goals
                  go_region_held3 (fun w' => Kept [] wB w') (repeat (first | (with_reducible assumption) | (with_reducible exact Kept.refl _ _) | (with_reducible refine Kept.drew ?_) | (with_reducible refine Kept.alloc ?_ _)))
                    (first
                      | (go_at_call_of 59 (Value.agg #[.int .i64 t.version, .string ⟨t.question.toArray⟩, .slice pt t.passes.length ct, .int .i64 t.most, .slice vt t.revoked.length dt, .int .i64 t.dare, .int .i64 t.quorum, .int .i64 t.jurors]); refine (HC1.out _ (by with_reducible assumption)).mono ?_; rintro e w2 ⟨rfl, hk2⟩)
                      | (go_at_call_of 59 (Value.agg #[.int .i64 u.version, .string ⟨u.question.toArray⟩, .slice pu u.passes.length cu, .int .i64 u.most, .slice vu u.revoked.length du, .int .i64 u.dare, .int .i64 u.quorum, .int .i64 u.jurors]); refine (HC2.out _ (by with_reducible assumption)).mono ?_; rintro e w2 ⟨rfl, hk2⟩))
                  rename_i hHeld
                  clear tc0 tc1 tc2 tc3 tc4 tc5 tc6 tc7 uc0 uc1 uc2 uc3 uc4 uc5 uc6 uc7 rc0 rc1 rc2 rc3 rc4 rc5 rc6 rc7 rc8 yc0 yc1 yc2 yc3 yc4 yc5 yc6 yc7 yc8 HC1 HC2
                · go_wp2_with fail
                  go_ret
                  exact ⟨rfl, HK.out.trans (KB.trans hHeld)⟩
                · obtain ⟨qq, qd, qv, qr, qb⟩ := HINJ.out (eq_of_beq hbe)
                  have BR := HB2.out.kept (KB.trans hHeld) (by simp)
                  have BY := HB3.out.kept (KB.trans hHeld) (by simp)
                  have e7 := cell_of BR 7 (.slice s7 r.proof.dares.length d7) rfl
                  have e8 := cell_of BR 8 (.slice s8 r.proof.answers.length d8) rfl
                  have g7 := BR.frozen 7
                  have g8 := BR.frozen 8
                  obtain ⟨Z1, hZ1, k1, BR1⟩ := barebox BR
                  have BY1 := BY.kept k1 (fun hz => by have := List.mem_singleton.1 hz; omega)
                  have i7 := cell_of BY1 7 (.slice p7 y.proof.dares.length q7) rfl
                  have i8 := cell_of BY1 8 (.slice p8 y.proof.answers.length q8) rfl
                  have m7 := BY1.frozen 7
                  have m8 := BY1.frozen 8
                  obtain ⟨Z, hZ, k2, BY2⟩ := barebox BY1
                  have BR2 := BR1.kept k2 (fun hz => by have := List.mem_singleton.1 hz; omega)
                  have kz : Kept [] w Z := ((HK.out.trans (KB.trans hHeld)).fresh k1 (fun z hz => by have := List.mem_singleton.1 hz; omega)).fresh k2 (fun z hz => by have := List.mem_singleton.1 hz; omega)
                  have BT2 := ((HB0.out.kept (KB.trans hHeld) (by simp)).kept k1 (fun hz => by have := List.mem_singleton.1 hz; omega)).kept k2 (fun hz => by have := List.mem_singleton.1 hz; omega)
                  have BU2 := ((HB1.out.kept (KB.trans hHeld) (by simp)).kept k1 (fun hz => by have := List.mem_singleton.1 hz; omega)).kept k2 (fun hz => by have := List.mem_singleton.1 hz; omega)
                  have KZ := Lib.hid kz
                  have HTz := Lib.hid (HT0.out.kept kz)
                  have HUz := Lib.hid (HU0.out.kept kz)
                  have HRz := Lib.hid (HR0.out.kept kz)
                  have HYz := Lib.hid (HY0.out.kept kz)
                  have HZ1 := Lib.hid hZ1
                  have HZ := Lib.hid hZ
                  have HBR2 := Lib.hid BR2
                  have HBY2 := Lib.hid BY2
                  have HBT2 := Lib.hid BT2
                  have HBU2 := Lib.hid BU2
                  have QQ := Lib.hid qq
                  have QD := Lib.hid qd
                  have QV := Lib.hid qv
                  have QR := Lib.hid qr
                  have QB := Lib.hid qb
                  clear hZ1 hZ BR BY BR1 BY1 BY2 BR2 BT2 BU2 k1 k2 kz qq qd qv qr qb hHeld hbe HINJ
                  go_upto_region 13 with (fail)
                  rw [HZ1.out]
                  go_upto_region 14 with (fail)
                  rw [HZ.out]
                  clear e7 e8 g7 g8 i7 i8 m7 m8 HZ1 HZ
                  have tc0 : Z.cell? ⟨w.heap.size, 0, none⟩ = some (.int .i64 t.version) := (cell_of HBT2.out 0 (.int .i64 t.version) rfl)
                  have tc1 : Z.cell? ⟨w.heap.size, 1, none⟩ = some (.string ⟨t.question.toArray⟩) := (cell_of HBT2.out 1 (.string ⟨t.question.toArray⟩) rfl)
                  have tc4 : Z.cell? ⟨w.heap.size, 4, none⟩ = some (.slice vt t.revoked.length dt) := (cell_of HBT2.out 4 (.slice vt t.revoked.length dt) rfl)
                  have tc5 : Z.cell? ⟨w.heap.size, 5, none⟩ = some (.int .i64 t.dare) := (cell_of HBT2.out 5 (.int .i64 t.dare) rfl)
                  have uc0 : Z.cell? ⟨w.heap.size + 1, 0, none⟩ = some (.int .i64 t.version) := (cell_of HBU2.out 0 (.int .i64 t.version) (by rw [QV.out]; rfl))
                  have uc1 : Z.cell? ⟨w.heap.size + 1, 1, none⟩ = some (.string ⟨t.question.toArray⟩) := (cell_of HBU2.out 1 (.string ⟨t.question.toArray⟩) (by rw [QQ.out]; rfl))
                  have uc4 : Z.cell? ⟨w.heap.size + 1, 4, none⟩ = some (.slice vu u.revoked.length du) := (cell_of HBU2.out 4 (.slice vu u.revoked.length du) rfl)
                  have uc5 : Z.cell? ⟨w.heap.size + 1, 5, none⟩ = some (.int .i64 t.dare) := (cell_of HBU2.out 5 (.int .i64 t.dare) (by rw [QD.out]; rfl))
                  have rf0 : Hid (∀ w', Kept [] Z w' → w'.cell? ⟨w.heap.size + 1 + 1, 0, none⟩ = some (.slice s0 r.tickets.length d0)) := Kept.cellOf (cell_of HBR2.out 0 (.slice s0 r.tickets.length d0) rfl)
                  have rf1 : Hid (∀ w', Kept [] Z w' → w'.cell? ⟨w.heap.size + 1 + 1, 1, none⟩ = some (.slice s1 r.spends.length d1)) := Kept.cellOf (cell_of HBR2.out 1 (.slice s1 r.spends.length d1) rfl)
                  have rf2 : Hid (∀ w', Kept [] Z w' → w'.cell? ⟨w.heap.size + 1 + 1, 2, none⟩ = some (.slice s2 r.links.length d2)) := Kept.cellOf (cell_of HBR2.out 2 (.slice s2 r.links.length d2) rfl)
                  have rf3 : Hid (∀ w', Kept [] Z w' → w'.cell? ⟨w.heap.size + 1 + 1, 3, none⟩ = some (.slice s3 r.commits.length d3)) := Kept.cellOf (cell_of HBR2.out 3 (.slice s3 r.commits.length d3) rfl)
                  have rf4 : Hid (∀ w', Kept [] Z w' → w'.cell? ⟨w.heap.size + 1 + 1, 4, none⟩ = some (.slice s4 r.chain.length d4)) := Kept.cellOf (cell_of HBR2.out 4 (.slice s4 r.chain.length d4) rfl)
                  have rf5 : Hid (∀ w', Kept [] Z w' → w'.cell? ⟨w.heap.size + 1 + 1, 5, none⟩ = some (.slice s5 r.bits.length d5)) := Kept.cellOf (cell_of HBR2.out 5 (.slice s5 r.bits.length d5) rfl)
                  have rf6 : Hid (∀ w', Kept [] Z w' → w'.cell? ⟨w.heap.size + 1 + 1, 6, none⟩ = some (.slice s6 r.escrow.length d6)) := Kept.cellOf (cell_of HBR2.out 6 (.slice s6 r.escrow.length d6) rfl)
                  have rf7 : Hid (∀ w', Kept [] Z w' → w'.cell? ⟨w.heap.size + 1 + 1, 7, none⟩ = some (.slice none 0 0)) := Kept.cellOf (cell_of HBR2.out 7 (.slice none 0 0) rfl)
                  have rf8 : Hid (∀ w', Kept [] Z w' → w'.cell? ⟨w.heap.size + 1 + 1, 8, none⟩ = some (.slice none 0 0)) := Kept.cellOf (cell_of HBR2.out 8 (.slice none 0 0) rfl)
                  have yf0 : Hid (∀ w', Kept [] Z w' → w'.cell? ⟨w.heap.size + 1 + 1 + 1, 0, none⟩ = some (.slice p0 y.tickets.length q0)) := Kept.cellOf (cell_of HBY2.out 0 (.slice p0 y.tickets.length q0) rfl)
                  have yf1 : Hid (∀ w', Kept [] Z w' → w'.cell? ⟨w.heap.size + 1 + 1 + 1, 1, none⟩ = some (.slice p1 y.spends.length q1)) := Kept.cellOf (cell_of HBY2.out 1 (.slice p1 y.spends.length q1) rfl)
                  have yf2 : Hid (∀ w', Kept [] Z w' → w'.cell? ⟨w.heap.size + 1 + 1 + 1, 2, none⟩ = some (.slice p2 y.links.length q2)) := Kept.cellOf (cell_of HBY2.out 2 (.slice p2 y.links.length q2) rfl)
                  have yf3 : Hid (∀ w', Kept [] Z w' → w'.cell? ⟨w.heap.size + 1 + 1 + 1, 3, none⟩ = some (.slice p3 y.commits.length q3)) := Kept.cellOf (cell_of HBY2.out 3 (.slice p3 y.commits.length q3) rfl)
                  have yf4 : Hid (∀ w', Kept [] Z w' → w'.cell? ⟨w.heap.size + 1 + 1 + 1, 4, none⟩ = some (.slice p4 y.chain.length q4)) := Kept.cellOf (cell_of HBY2.out 4 (.slice p4 y.chain.length q4) rfl)
                  have yf5 : Hid (∀ w', Kept [] Z w' → w'.cell? ⟨w.heap.size + 1 + 1 + 1, 5, none⟩ = some (.slice p5 y.bits.length q5)) := Kept.cellOf (cell_of HBY2.out 5 (.slice p5 y.bits.length q5) rfl)
                  have yf6 : Hid (∀ w', Kept [] Z w' → w'.cell? ⟨w.heap.size + 1 + 1 + 1, 6, none⟩ = some (.slice p6 y.escrow.length q6)) := Kept.cellOf (cell_of HBY2.out 6 (.slice p6 y.escrow.length q6) rfl)
                  have yf7 : Hid (∀ w', Kept [] Z w' → w'.cell? ⟨w.heap.size + 1 + 1 + 1, 7, none⟩ = some (.slice none 0 0)) := Kept.cellOf (cell_of HBY2.out 7 (.slice none 0 0) rfl)
                  have yf8 : Hid (∀ w', Kept [] Z w' → w'.cell? ⟨w.heap.size + 1 + 1 + 1, 8, none⟩ = some (.slice none 0 0)) := Kept.cellOf (cell_of HBY2.out 8 (.slice none 0 0) rfl)
                  have HS1 : Hid (∀ w', Kept [] Z w' → Calls Tryz.prog 49 #[.slice vt t.revoked.length dt, .slice vu u.revoked.length du] w' fun e w'' => e = .returned (.bool true) ∧ Kept [] Z w'') := fun w' k => (sameInts_eq (HTz.out.kept k).rv (by rw [QR.out]; exact (HUz.out.kept k).rv)).mono fun _ _ ⟨he, hk⟩ => ⟨he, k.trans hk⟩
                  have HS2 : Hid (∀ w', Kept [] Z w' → Calls Tryz.prog 58 #[.agg #[.slice s0 r.tickets.length d0, .slice s1 r.spends.length d1, .slice s2 r.links.length d2, .slice s3 r.commits.length d3, .slice s4 r.chain.length d4, .slice s5 r.bits.length d5, .slice s6 r.escrow.length d6, .slice none 0 0, .slice none 0 0], .agg #[.slice p0 y.tickets.length q0, .slice p1 y.spends.length q1, .slice p2 y.links.length q2, .slice p3 y.commits.length q3, .slice p4 y.chain.length q4, .slice p5 y.bits.length q5, .slice p6 y.escrow.length q6, .slice none 0 0, .slice none 0 0]] w' fun e w'' => e = .returned (.bool true) ∧ Kept [] Z w'') := fun w' k => (sameRecord_eq _ _ r.bare w' ⟨_, _, _, _, _, _, _, _, _, rfl, rec_bare (HRz.out.kept k)⟩ (by rw [QB.out]; exact ⟨_, _, _, _, _, _, _, _, _, rfl, rec_bare (HYz.out.kept k)⟩) (encB_of (recI_bare IR.out) (fewB_bare B3.out))).mono fun _ _ ⟨he, hk⟩ => ⟨he, k.trans hk⟩
                  go_wp2_with (go_at_call 49; refine (HS1.out _ (Kept.refl _ _)).mono ?_)
                  rintro e Za ⟨rfl, ka⟩
                  have KA' := Lib.hid ka
                  clear tc0 tc1 tc4 tc5 uc0 uc1 uc4 uc5
                  have rc0 := rf0.out Za ka
                  have rc1 := rf1.out Za ka
                  have rc2 := rf2.out Za ka
                  have rc3 := rf3.out Za ka
                  have rc4 := rf4.out Za ka
                  have rc5 := rf5.out Za ka
                  have rc6 := rf6.out Za ka
                  have rc7 := rf7.out Za ka
                  have rc8 := rf8.out Za ka
                  have yc0 := yf0.out Za ka
                  have yc1 := yf1.out Za ka
                  have yc2 := yf2.out Za ka
                  have yc3 := yf3.out Za ka
                  have yc4 := yf4.out Za ka
                  have yc5 := yf5.out Za ka
                  have yc6 := yf6.out Za ka
                  have yc7 := yf7.out Za ka
                  have yc8 := yf8.out Za ka
                  go_wp2_with (go_at_call 58; refine (HS2.out _ KA'.out).mono ?_)
                  rintro e Zb ⟨rfl, kb⟩
                  go_wp2_with fail
                  go_ret
                  exact ⟨rfl, KZ.out.trans kb⟩
              · skip
                obtain ⟨hmy, hdt⟩ := HDT.out rfl
                subst hmy hdt
                go_upto_region 10 with (fail)
                have tc0 : ∀ w', Kept [] wB w' → w'.cell? ⟨w.heap.size, 0, none⟩ = some (.int .i64 t.version) := fun w' k => Kt0.out w' (KB.trans k)
                have tc1 : ∀ w', Kept [] wB w' → w'.cell? ⟨w.heap.size, 1, none⟩ = some (.string ⟨t.question.toArray⟩) := fun w' k => Kt1.out w' (KB.trans k)
                have tc2 : ∀ w', Kept [] wB w' → w'.cell? ⟨w.heap.size, 2, none⟩ = some (.slice pt t.passes.length ct) := fun w' k => Kt2.out w' (KB.trans k)
                have tc3 : ∀ w', Kept [] wB w' → w'.cell? ⟨w.heap.size, 3, none⟩ = some (.int .i64 t.most) := fun w' k => Kt3.out w' (KB.trans k)
                have tc4 : ∀ w', Kept [] wB w' → w'.cell? ⟨w.heap.size, 4, none⟩ = some (.slice vt t.revoked.length dt) := fun w' k => Kt4.out w' (KB.trans k)
                have tc5 : ∀ w', Kept [] wB w' → w'.cell? ⟨w.heap.size, 5, none⟩ = some (.int .i64 t.dare) := fun w' k => Kt5.out w' (KB.trans k)
                have tc6 : ∀ w', Kept [] wB w' → w'.cell? ⟨w.heap.size, 6, none⟩ = some (.int .i64 t.quorum) := fun w' k => Kt6.out w' (KB.trans k)
                have tc7 : ∀ w', Kept [] wB w' → w'.cell? ⟨w.heap.size, 7, none⟩ = some (.int .i64 t.jurors) := fun w' k => Kt7.out w' (KB.trans k)
                have uc0 : ∀ w', Kept [] wB w' → w'.cell? ⟨w.heap.size + 1, 0, none⟩ = some (.int .i64 u.version) := fun w' k => Ku0.out w' (KB.trans k)
                have uc1 : ∀ w', Kept [] wB w' → w'.cell? ⟨w.heap.size + 1, 1, none⟩ = some (.string ⟨u.question.toArray⟩) := fun w' k => Ku1.out w' (KB.trans k)
                have uc2 : ∀ w', Kept [] wB w' → w'.cell? ⟨w.heap.size + 1, 2, none⟩ = some (.slice pu u.passes.length cu) := fun w' k => Ku2.out w' (KB.trans k)
                have uc3 : ∀ w', Kept [] wB w' → w'.cell? ⟨w.heap.size + 1, 3, none⟩ = some (.int .i64 u.most) := fun w' k => Ku3.out w' (KB.trans k)
                have uc4 : ∀ w', Kept [] wB w' → w'.cell? ⟨w.heap.size + 1, 4, none⟩ = some (.slice vu u.revoked.length du) := fun w' k => Ku4.out w' (KB.trans k)
                have uc5 : ∀ w', Kept [] wB w' → w'.cell? ⟨w.heap.size + 1, 5, none⟩ = some (.int .i64 u.dare) := fun w' k => Ku5.out w' (KB.trans k)
                have uc6 : ∀ w', Kept [] wB w' → w'.cell? ⟨w.heap.size + 1, 6, none⟩ = some (.int .i64 u.quorum) := fun w' k => Ku6.out w' (KB.trans k)
                have uc7 : ∀ w', Kept [] wB w' → w'.cell? ⟨w.heap.size + 1, 7, none⟩ = some (.int .i64 u.jurors) := fun w' k => Ku7.out w' (KB.trans k)
                have rc0 : ∀ w', Kept [] wB w' → w'.cell? ⟨w.heap.size + 1 + 1, 0, none⟩ = some (.slice s0 r.tickets.length d0) := fun w' k => Kr0.out w' (KB.trans k)
                have rc1 : ∀ w', Kept [] wB w' → w'.cell? ⟨w.heap.size + 1 + 1, 1, none⟩ = some (.slice s1 r.spends.length d1) := fun w' k => Kr1.out w' (KB.trans k)
                have rc2 : ∀ w', Kept [] wB w' → w'.cell? ⟨w.heap.size + 1 + 1, 2, none⟩ = some (.slice s2 r.links.length d2) := fun w' k => Kr2.out w' (KB.trans k)
                have rc3 : ∀ w', Kept [] wB w' → w'.cell? ⟨w.heap.size + 1 + 1, 3, none⟩ = some (.slice s3 r.commits.length d3) := fun w' k => Kr3.out w' (KB.trans k)
                have rc4 : ∀ w', Kept [] wB w' → w'.cell? ⟨w.heap.size + 1 + 1, 4, none⟩ = some (.slice s4 r.chain.length d4) := fun w' k => Kr4.out w' (KB.trans k)
                have rc5 : ∀ w', Kept [] wB w' → w'.cell? ⟨w.heap.size + 1 + 1, 5, none⟩ = some (.slice s5 r.bits.length d5) := fun w' k => Kr5.out w' (KB.trans k)
                have rc6 : ∀ w', Kept [] wB w' → w'.cell? ⟨w.heap.size + 1 + 1, 6, none⟩ = some (.slice s6 r.escrow.length d6) := fun w' k => Kr6.out w' (KB.trans k)
                have rc7 : ∀ w', Kept [] wB w' → w'.cell? ⟨w.heap.size + 1 + 1, 7, none⟩ = some (.slice s7 r.proof.dares.length d7) := fun w' k => Kr7.out w' (KB.trans k)
                have rc8 : ∀ w', Kept [] wB w' → w'.cell? ⟨w.heap.size + 1 + 1, 8, none⟩ = some (.slice s8 r.proof.answers.length d8) := fun w' k => Kr8.out w' (KB.trans k)
                have yc0 : ∀ w', Kept [] wB w' → w'.cell? ⟨w.heap.size + 1 + 1 + 1, 0, none⟩ = some (.slice p0 y.tickets.length q0) := fun w' k => Ky0.out w' (KB.trans k)
                have yc1 : ∀ w', Kept [] wB w' → w'.cell? ⟨w.heap.size + 1 + 1 + 1, 1, none⟩ = some (.slice p1 y.spends.length q1) := fun w' k => Ky1.out w' (KB.trans k)
                have yc2 : ∀ w', Kept [] wB w' → w'.cell? ⟨w.heap.size + 1 + 1 + 1, 2, none⟩ = some (.slice p2 y.links.length q2) := fun w' k => Ky2.out w' (KB.trans k)
                have yc3 : ∀ w', Kept [] wB w' → w'.cell? ⟨w.heap.size + 1 + 1 + 1, 3, none⟩ = some (.slice p3 y.commits.length q3) := fun w' k => Ky3.out w' (KB.trans k)
                have yc4 : ∀ w', Kept [] wB w' → w'.cell? ⟨w.heap.size + 1 + 1 + 1, 4, none⟩ = some (.slice p4 y.chain.length q4) := fun w' k => Ky4.out w' (KB.trans k)
                have yc5 : ∀ w', Kept [] wB w' → w'.cell? ⟨w.heap.size + 1 + 1 + 1, 5, none⟩ = some (.slice p5 y.bits.length q5) := fun w' k => Ky5.out w' (KB.trans k)
                have yc6 : ∀ w', Kept [] wB w' → w'.cell? ⟨w.heap.size + 1 + 1 + 1, 6, none⟩ = some (.slice p6 y.escrow.length q6) := fun w' k => Ky6.out w' (KB.trans k)
                have yc7 : ∀ w', Kept [] wB w' → w'.cell? ⟨w.heap.size + 1 + 1 + 1, 7, none⟩ = some (.slice p7 y.proof.dares.length q7) := fun w' k => Ky7.out w' (KB.trans k)
                have yc8 : ∀ w', Kept [] wB w' → w'.cell? ⟨w.heap.size + 1 + 1 + 1, 8, none⟩ = some (.slice p8 y.proof.answers.length q8) := fun w' k => Ky8.out w' (KB.trans k)

                have HTx := Lib.hid (HT.out.kept KB)
                have HUx := Lib.hid (HU.out.kept KB)
                have HRx := Lib.hid (HR.out.kept KB)
                have HYx := Lib.hid (HY.out.kept KB)
                have HEx := Lib.hid (HE.out.kept0 KB)
                have HINJ := Lib.hid (ctx_inj t u r y (okT_of IT.out B1.out) (okT_of IU.out B2.out) (okR_of (recI_bare IR.out) (fewB_bare B3.out)) (okR_of (recI_bare IY.out) (fewB_bare B4.out)))
                obtain ⟨CT, hCT⟩ : ∃ A, ctxE t r = A := ⟨_, rfl⟩
                obtain ⟨CU, hCU⟩ : ∃ A, ctxE u y = A := ⟨_, rfl⟩
                rw [hCT, hCU] at HINJ
                have HC1 : Hid (∀ w', Kept [] wB w' → Calls Tryz.prog 59 #[.agg #[.int .i64 t.version, .string ⟨t.question.toArray⟩, .slice pt t.passes.length ct, .int .i64 t.most, .slice vt t.revoked.length dt, .int .i64 t.dare, .int .i64 t.quorum, .int .i64 t.jurors], .agg #[.slice s0 r.tickets.length d0, .slice s1 r.spends.length d1, .slice s2 r.links.length d2, .slice s3 r.commits.length d3, .slice s4 r.chain.length d4, .slice s5 r.bits.length d5, .slice s6 r.escrow.length d6, .slice s7 r.proof.dares.length d7, .slice s8 r.proof.answers.length d8]] w' fun e w'' => e = .returned (.string ⟨CT.toArray⟩) ∧ Kept [] wB w'') := fun w' k => by rw [← hCT]; exact ctx_from k t _ _ _ _ _ _ _ _ _ _ _ r HTx.out HRx.out HEx.out (ctxB_of IT.out B1.out) (encB_of (recI_bare IR.out) (fewB_bare B3.out))
                have HC2 : Hid (∀ w', Kept [] wB w' → Calls Tryz.prog 59 #[.agg #[.int .i64 u.version, .string ⟨u.question.toArray⟩, .slice pu u.passes.length cu, .int .i64 u.most, .slice vu u.revoked.length du, .int .i64 u.dare, .int .i64 u.quorum, .int .i64 u.jurors], .agg #[.slice p0 y.tickets.length q0, .slice p1 y.spends.length q1, .slice p2 y.links.length q2, .slice p3 y.commits.length q3, .slice p4 y.chain.length q4, .slice p5 y.bits.length q5, .slice p6 y.escrow.length q6, .slice p7 y.proof.dares.length q7, .slice p8 y.proof.answers.length q8]] w' fun e w'' => e = .returned (.string ⟨CU.toArray⟩) ∧ Kept [] wB w'') := fun w' k => by rw [← hCU]; exact ctx_from k u _ _ _ _ _ _ _ _ _ _ _ y HUx.out HYx.out HEx.out (ctxB_of IU.out B2.out) (encB_of (recI_bare IY.out) (fewB_bare B4.out))
                clear hCT hCU HTx HUx HEx
                go_upto_region 10 with (fail)
                cases hbe : (CT == CU)
                all_goals
                  go_region_held3 (fun w' => Kept [] wB w') (repeat (first | (with_reducible assumption) | (with_reducible exact Kept.refl _ _) | (with_reducible refine Kept.drew ?_) | (with_reducible refine Kept.alloc ?_ _)))
                    (first
                      | (go_at_call_of 59 (Value.agg #[.int .i64 t.version, .string ⟨t.question.toArray⟩, .slice pt t.passes.length ct, .int .i64 t.most, .slice vt t.revoked.length dt, .int .i64 t.dare, .int .i64 t.quorum, .int .i64 t.jurors]); refine (HC1.out _ (by with_reducible assumption)).mono ?_; rintro e w2 ⟨rfl, hk2⟩)
                      | (go_at_call_of 59 (Value.agg #[.int .i64 u.version, .string ⟨u.question.toArray⟩, .slice pu u.passes.length cu, .int .i64 u.most, .slice vu u.revoked.length du, .int .i64 u.dare, .int .i64 u.quorum, .int .i64 u.jurors]); refine (HC2.out _ (by with_reducible assumption)).mono ?_; rintro e w2 ⟨rfl, hk2⟩))
                  rename_i hHeld
                  clear tc0 tc1 tc2 tc3 tc4 tc5 tc6 tc7 uc0 uc1 uc2 uc3 uc4 uc5 uc6 uc7 rc0 rc1 rc2 rc3 rc4 rc5 rc6 rc7 rc8 yc0 yc1 yc2 yc3 yc4 yc5 yc6 yc7 yc8 HC1 HC2
                · go_wp2_with fail
                  go_ret
                  exact ⟨rfl, HK.out.trans (KB.trans hHeld)⟩
                · obtain ⟨qq, qd, qv, qr, qb⟩ := HINJ.out (eq_of_beq hbe)
                  have BR := HB2.out.kept (KB.trans hHeld) (by simp)
                  have BY := HB3.out.kept (KB.trans hHeld) (by simp)
                  have e7 := cell_of BR 7 (.slice s7 r.proof.dares.length d7) rfl
                  have e8 := cell_of BR 8 (.slice s8 r.proof.answers.length d8) rfl
                  have g7 := BR.frozen 7
                  have g8 := BR.frozen 8
                  obtain ⟨Z1, hZ1, k1, BR1⟩ := barebox BR
                  have BY1 := BY.kept k1 (fun hz => by have := List.mem_singleton.1 hz; omega)
                  have i7 := cell_of BY1 7 (.slice p7 y.proof.dares.length q7) rfl
                  have i8 := cell_of BY1 8 (.slice p8 y.proof.answers.length q8) rfl
                  have m7 := BY1.frozen 7
                  have m8 := BY1.frozen 8
                  obtain ⟨Z, hZ, k2, BY2⟩ := barebox BY1
                  have BR2 := BR1.kept k2 (fun hz => by have := List.mem_singleton.1 hz; omega)
                  have kz : Kept [] w Z := ((HK.out.trans (KB.trans hHeld)).fresh k1 (fun z hz => by have := List.mem_singleton.1 hz; omega)).fresh k2 (fun z hz => by have := List.mem_singleton.1 hz; omega)
                  have BT2 := ((HB0.out.kept (KB.trans hHeld) (by simp)).kept k1 (fun hz => by have := List.mem_singleton.1 hz; omega)).kept k2 (fun hz => by have := List.mem_singleton.1 hz; omega)
                  have BU2 := ((HB1.out.kept (KB.trans hHeld) (by simp)).kept k1 (fun hz => by have := List.mem_singleton.1 hz; omega)).kept k2 (fun hz => by have := List.mem_singleton.1 hz; omega)
                  have KZ := Lib.hid kz
                  have HTz := Lib.hid (HT0.out.kept kz)
                  have HUz := Lib.hid (HU0.out.kept kz)
                  have HRz := Lib.hid (HR0.out.kept kz)
                  have HYz := Lib.hid (HY0.out.kept kz)
                  have HZ1 := Lib.hid hZ1
                  have HZ := Lib.hid hZ
                  have HBR2 := Lib.hid BR2
                  have HBY2 := Lib.hid BY2
                  have HBT2 := Lib.hid BT2
                  have HBU2 := Lib.hid BU2
                  have QQ := Lib.hid qq
                  have QD := Lib.hid qd
                  have QV := Lib.hid qv
                  have QR := Lib.hid qr
                  have QB := Lib.hid qb
                  clear hZ1 hZ BR BY BR1 BY1 BY2 BR2 BT2 BU2 k1 k2 kz qq qd qv qr qb hHeld hbe HINJ
                  go_upto_region 13 with (fail)
                  rw [HZ1.out]
                  go_upto_region 14 with (fail)
                  rw [HZ.out]
                  clear e7 e8 g7 g8 i7 i8 m7 m8 HZ1 HZ
                  have tc0 : Z.cell? ⟨w.heap.size, 0, none⟩ = some (.int .i64 t.version) := (cell_of HBT2.out 0 (.int .i64 t.version) rfl)
                  have tc1 : Z.cell? ⟨w.heap.size, 1, none⟩ = some (.string ⟨t.question.toArray⟩) := (cell_of HBT2.out 1 (.string ⟨t.question.toArray⟩) rfl)
                  have tc4 : Z.cell? ⟨w.heap.size, 4, none⟩ = some (.slice vt t.revoked.length dt) := (cell_of HBT2.out 4 (.slice vt t.revoked.length dt) rfl)
                  have tc5 : Z.cell? ⟨w.heap.size, 5, none⟩ = some (.int .i64 t.dare) := (cell_of HBT2.out 5 (.int .i64 t.dare) rfl)
                  have uc0 : Z.cell? ⟨w.heap.size + 1, 0, none⟩ = some (.int .i64 t.version) := (cell_of HBU2.out 0 (.int .i64 t.version) (by rw [QV.out]; rfl))
                  have uc1 : Z.cell? ⟨w.heap.size + 1, 1, none⟩ = some (.string ⟨t.question.toArray⟩) := (cell_of HBU2.out 1 (.string ⟨t.question.toArray⟩) (by rw [QQ.out]; rfl))
                  have uc4 : Z.cell? ⟨w.heap.size + 1, 4, none⟩ = some (.slice vu u.revoked.length du) := (cell_of HBU2.out 4 (.slice vu u.revoked.length du) rfl)
                  have uc5 : Z.cell? ⟨w.heap.size + 1, 5, none⟩ = some (.int .i64 t.dare) := (cell_of HBU2.out 5 (.int .i64 t.dare) (by rw [QD.out]; rfl))
                  have rf0 : Hid (∀ w', Kept [] Z w' → w'.cell? ⟨w.heap.size + 1 + 1, 0, none⟩ = some (.slice s0 r.tickets.length d0)) := Kept.cellOf (cell_of HBR2.out 0 (.slice s0 r.tickets.length d0) rfl)
                  have rf1 : Hid (∀ w', Kept [] Z w' → w'.cell? ⟨w.heap.size + 1 + 1, 1, none⟩ = some (.slice s1 r.spends.length d1)) := Kept.cellOf (cell_of HBR2.out 1 (.slice s1 r.spends.length d1) rfl)
                  have rf2 : Hid (∀ w', Kept [] Z w' → w'.cell? ⟨w.heap.size + 1 + 1, 2, none⟩ = some (.slice s2 r.links.length d2)) := Kept.cellOf (cell_of HBR2.out 2 (.slice s2 r.links.length d2) rfl)
                  have rf3 : Hid (∀ w', Kept [] Z w' → w'.cell? ⟨w.heap.size + 1 + 1, 3, none⟩ = some (.slice s3 r.commits.length d3)) := Kept.cellOf (cell_of HBR2.out 3 (.slice s3 r.commits.length d3) rfl)
                  have rf4 : Hid (∀ w', Kept [] Z w' → w'.cell? ⟨w.heap.size + 1 + 1, 4, none⟩ = some (.slice s4 r.chain.length d4)) := Kept.cellOf (cell_of HBR2.out 4 (.slice s4 r.chain.length d4) rfl)
                  have rf5 : Hid (∀ w', Kept [] Z w' → w'.cell? ⟨w.heap.size + 1 + 1, 5, none⟩ = some (.slice s5 r.bits.length d5)) := Kept.cellOf (cell_of HBR2.out 5 (.slice s5 r.bits.length d5) rfl)
                  have rf6 : Hid (∀ w', Kept [] Z w' → w'.cell? ⟨w.heap.size + 1 + 1, 6, none⟩ = some (.slice s6 r.escrow.length d6)) := Kept.cellOf (cell_of HBR2.out 6 (.slice s6 r.escrow.length d6) rfl)
                  have rf7 : Hid (∀ w', Kept [] Z w' → w'.cell? ⟨w.heap.size + 1 + 1, 7, none⟩ = some (.slice none 0 0)) := Kept.cellOf (cell_of HBR2.out 7 (.slice none 0 0) rfl)
                  have rf8 : Hid (∀ w', Kept [] Z w' → w'.cell? ⟨w.heap.size + 1 + 1, 8, none⟩ = some (.slice none 0 0)) := Kept.cellOf (cell_of HBR2.out 8 (.slice none 0 0) rfl)
                  have yf0 : Hid (∀ w', Kept [] Z w' → w'.cell? ⟨w.heap.size + 1 + 1 + 1, 0, none⟩ = some (.slice p0 y.tickets.length q0)) := Kept.cellOf (cell_of HBY2.out 0 (.slice p0 y.tickets.length q0) rfl)
                  have yf1 : Hid (∀ w', Kept [] Z w' → w'.cell? ⟨w.heap.size + 1 + 1 + 1, 1, none⟩ = some (.slice p1 y.spends.length q1)) := Kept.cellOf (cell_of HBY2.out 1 (.slice p1 y.spends.length q1) rfl)
                  have yf2 : Hid (∀ w', Kept [] Z w' → w'.cell? ⟨w.heap.size + 1 + 1 + 1, 2, none⟩ = some (.slice p2 y.links.length q2)) := Kept.cellOf (cell_of HBY2.out 2 (.slice p2 y.links.length q2) rfl)
                  have yf3 : Hid (∀ w', Kept [] Z w' → w'.cell? ⟨w.heap.size + 1 + 1 + 1, 3, none⟩ = some (.slice p3 y.commits.length q3)) := Kept.cellOf (cell_of HBY2.out 3 (.slice p3 y.commits.length q3) rfl)
                  have yf4 : Hid (∀ w', Kept [] Z w' → w'.cell? ⟨w.heap.size + 1 + 1 + 1, 4, none⟩ = some (.slice p4 y.chain.length q4)) := Kept.cellOf (cell_of HBY2.out 4 (.slice p4 y.chain.length q4) rfl)
                  have yf5 : Hid (∀ w', Kept [] Z w' → w'.cell? ⟨w.heap.size + 1 + 1 + 1, 5, none⟩ = some (.slice p5 y.bits.length q5)) := Kept.cellOf (cell_of HBY2.out 5 (.slice p5 y.bits.length q5) rfl)
                  have yf6 : Hid (∀ w', Kept [] Z w' → w'.cell? ⟨w.heap.size + 1 + 1 + 1, 6, none⟩ = some (.slice p6 y.escrow.length q6)) := Kept.cellOf (cell_of HBY2.out 6 (.slice p6 y.escrow.length q6) rfl)
                  have yf7 : Hid (∀ w', Kept [] Z w' → w'.cell? ⟨w.heap.size + 1 + 1 + 1, 7, none⟩ = some (.slice none 0 0)) := Kept.cellOf (cell_of HBY2.out 7 (.slice none 0 0) rfl)
                  have yf8 : Hid (∀ w', Kept [] Z w' → w'.cell? ⟨w.heap.size + 1 + 1 + 1, 8, none⟩ = some (.slice none 0 0)) := Kept.cellOf (cell_of HBY2.out 8 (.slice none 0 0) rfl)
                  have HS1 : Hid (∀ w', Kept [] Z w' → Calls Tryz.prog 49 #[.slice vt t.revoked.length dt, .slice vu u.revoked.length du] w' fun e w'' => e = .returned (.bool true) ∧ Kept [] Z w'') := fun w' k => (sameInts_eq (HTz.out.kept k).rv (by rw [QR.out]; exact (HUz.out.kept k).rv)).mono fun _ _ ⟨he, hk⟩ => ⟨he, k.trans hk⟩
                  have HS2 : Hid (∀ w', Kept [] Z w' → Calls Tryz.prog 58 #[.agg #[.slice s0 r.tickets.length d0, .slice s1 r.spends.length d1, .slice s2 r.links.length d2, .slice s3 r.commits.length d3, .slice s4 r.chain.length d4, .slice s5 r.bits.length d5, .slice s6 r.escrow.length d6, .slice none 0 0, .slice none 0 0], .agg #[.slice p0 y.tickets.length q0, .slice p1 y.spends.length q1, .slice p2 y.links.length q2, .slice p3 y.commits.length q3, .slice p4 y.chain.length q4, .slice p5 y.bits.length q5, .slice p6 y.escrow.length q6, .slice none 0 0, .slice none 0 0]] w' fun e w'' => e = .returned (.bool true) ∧ Kept [] Z w'') := fun w' k => (sameRecord_eq _ _ r.bare w' ⟨_, _, _, _, _, _, _, _, _, rfl, rec_bare (HRz.out.kept k)⟩ (by rw [QB.out]; exact ⟨_, _, _, _, _, _, _, _, _, rfl, rec_bare (HYz.out.kept k)⟩) (encB_of (recI_bare IR.out) (fewB_bare B3.out))).mono fun _ _ ⟨he, hk⟩ => ⟨he, k.trans hk⟩
                  go_wp2_with (go_at_call 49; refine (HS1.out _ (Kept.refl _ _)).mono ?_)
                  rintro e Za ⟨rfl, ka⟩
                  have KA' := Lib.hid ka
                  clear tc0 tc1 tc4 tc5 uc0 uc1 uc4 uc5
                  have rc0 := rf0.out Za ka
                  have rc1 := rf1.out Za ka
                  have rc2 := rf2.out Za ka
                  have rc3 := rf3.out Za ka
                  have rc4 := rf4.out Za ka
                  have rc5 := rf5.out Za ka
                  have rc6 := rf6.out Za ka
                  have rc7 := rf7.out Za ka
                  have rc8 := rf8.out Za ka
                  have yc0 := yf0.out Za ka
                  have yc1 := yf1.out Za ka
                  have yc2 := yf2.out Za ka
                  have yc3 := yf3.out Za ka
                  have yc4 := yf4.out Za ka
                  have yc5 := yf5.out Za ka
                  have yc6 := yf6.out Za ka
                  have yc7 := yf7.out Za ka
                  have yc8 := yf8.out Za ka
                  go_wp2_with (go_at_call 58; refine (HS2.out _ KA'.out).mono ?_)
                  rintro e Zb ⟨rfl, kb⟩
                  go_wp2_with fail
                  go_ret
                  exact ⟨rfl, KZ.out.trans kb⟩
            · cases can
              · skip
                obtain ⟨hbr, his⟩ := Prod.mk.inj (HAb.out rfl)
                have hbr2 := hbr.symm
                clear hbr
                subst hbr2
                subst his
                have HS := Lib.hid (sameRecord_eq _ _ r wB ⟨_, _, _, _, _, _, _, _, _, rfl, HB8.out.kept K8B.out⟩ ⟨_, _, _, _, _, _, _, _, _, rfl, HR.out.kept KB⟩ (encB_of IR.out B3.out))
                have bc0 := Kb0.out wB K8B.out
                have bc1 := Kb1.out wB K8B.out
                have bc2 := Kb2.out wB K8B.out
                have bc3 := Kb3.out wB K8B.out
                have bc4 := Kb4.out wB K8B.out
                have bc5 := Kb5.out wB K8B.out
                have bc6 := Kb6.out wB K8B.out
                have bc7 := Kb7.out wB K8B.out
                have bc8 := Kb8.out wB K8B.out
                have rc0 := Kr0.out wB KB
                have rc1 := Kr1.out wB KB
                have rc2 := Kr2.out wB KB
                have rc3 := Kr3.out wB KB
                have rc4 := Kr4.out wB KB
                have rc5 := Kr5.out wB KB
                have rc6 := Kr6.out wB KB
                have rc7 := Kr7.out wB KB
                have rc8 := Kr8.out wB KB
                go_upto_region 10 with (go_at_call 58; refine HS.out.mono ?_; rintro e wC ⟨rfl, kC⟩)
                have KC := KB.trans kC
                clear HS kC
                clear bc0 rc0 bc1 rc1 bc2 rc2 bc3 rc3 bc4 rc4 bc5 rc5 bc6 rc6 bc7 rc7 bc8 rc8
                have tc0 : ∀ w', Kept [] wC w' → w'.cell? ⟨w.heap.size, 0, none⟩ = some (.int .i64 t.version) := fun w' k => Kt0.out w' (KC.trans k)
                have tc1 : ∀ w', Kept [] wC w' → w'.cell? ⟨w.heap.size, 1, none⟩ = some (.string ⟨t.question.toArray⟩) := fun w' k => Kt1.out w' (KC.trans k)
                have tc2 : ∀ w', Kept [] wC w' → w'.cell? ⟨w.heap.size, 2, none⟩ = some (.slice pt t.passes.length ct) := fun w' k => Kt2.out w' (KC.trans k)
                have tc3 : ∀ w', Kept [] wC w' → w'.cell? ⟨w.heap.size, 3, none⟩ = some (.int .i64 t.most) := fun w' k => Kt3.out w' (KC.trans k)
                have tc4 : ∀ w', Kept [] wC w' → w'.cell? ⟨w.heap.size, 4, none⟩ = some (.slice vt t.revoked.length dt) := fun w' k => Kt4.out w' (KC.trans k)
                have tc5 : ∀ w', Kept [] wC w' → w'.cell? ⟨w.heap.size, 5, none⟩ = some (.int .i64 t.dare) := fun w' k => Kt5.out w' (KC.trans k)
                have tc6 : ∀ w', Kept [] wC w' → w'.cell? ⟨w.heap.size, 6, none⟩ = some (.int .i64 t.quorum) := fun w' k => Kt6.out w' (KC.trans k)
                have tc7 : ∀ w', Kept [] wC w' → w'.cell? ⟨w.heap.size, 7, none⟩ = some (.int .i64 t.jurors) := fun w' k => Kt7.out w' (KC.trans k)
                have uc0 : ∀ w', Kept [] wC w' → w'.cell? ⟨w.heap.size + 1, 0, none⟩ = some (.int .i64 u.version) := fun w' k => Ku0.out w' (KC.trans k)
                have uc1 : ∀ w', Kept [] wC w' → w'.cell? ⟨w.heap.size + 1, 1, none⟩ = some (.string ⟨u.question.toArray⟩) := fun w' k => Ku1.out w' (KC.trans k)
                have uc2 : ∀ w', Kept [] wC w' → w'.cell? ⟨w.heap.size + 1, 2, none⟩ = some (.slice pu u.passes.length cu) := fun w' k => Ku2.out w' (KC.trans k)
                have uc3 : ∀ w', Kept [] wC w' → w'.cell? ⟨w.heap.size + 1, 3, none⟩ = some (.int .i64 u.most) := fun w' k => Ku3.out w' (KC.trans k)
                have uc4 : ∀ w', Kept [] wC w' → w'.cell? ⟨w.heap.size + 1, 4, none⟩ = some (.slice vu u.revoked.length du) := fun w' k => Ku4.out w' (KC.trans k)
                have uc5 : ∀ w', Kept [] wC w' → w'.cell? ⟨w.heap.size + 1, 5, none⟩ = some (.int .i64 u.dare) := fun w' k => Ku5.out w' (KC.trans k)
                have uc6 : ∀ w', Kept [] wC w' → w'.cell? ⟨w.heap.size + 1, 6, none⟩ = some (.int .i64 u.quorum) := fun w' k => Ku6.out w' (KC.trans k)
                have uc7 : ∀ w', Kept [] wC w' → w'.cell? ⟨w.heap.size + 1, 7, none⟩ = some (.int .i64 u.jurors) := fun w' k => Ku7.out w' (KC.trans k)
                have rc0 : ∀ w', Kept [] wC w' → w'.cell? ⟨w.heap.size + 1 + 1, 0, none⟩ = some (.slice s0 r.tickets.length d0) := fun w' k => Kr0.out w' (KC.trans k)
                have rc1 : ∀ w', Kept [] wC w' → w'.cell? ⟨w.heap.size + 1 + 1, 1, none⟩ = some (.slice s1 r.spends.length d1) := fun w' k => Kr1.out w' (KC.trans k)
                have rc2 : ∀ w', Kept [] wC w' → w'.cell? ⟨w.heap.size + 1 + 1, 2, none⟩ = some (.slice s2 r.links.length d2) := fun w' k => Kr2.out w' (KC.trans k)
                have rc3 : ∀ w', Kept [] wC w' → w'.cell? ⟨w.heap.size + 1 + 1, 3, none⟩ = some (.slice s3 r.commits.length d3) := fun w' k => Kr3.out w' (KC.trans k)
                have rc4 : ∀ w', Kept [] wC w' → w'.cell? ⟨w.heap.size + 1 + 1, 4, none⟩ = some (.slice s4 r.chain.length d4) := fun w' k => Kr4.out w' (KC.trans k)
                have rc5 : ∀ w', Kept [] wC w' → w'.cell? ⟨w.heap.size + 1 + 1, 5, none⟩ = some (.slice s5 r.bits.length d5) := fun w' k => Kr5.out w' (KC.trans k)
                have rc6 : ∀ w', Kept [] wC w' → w'.cell? ⟨w.heap.size + 1 + 1, 6, none⟩ = some (.slice s6 r.escrow.length d6) := fun w' k => Kr6.out w' (KC.trans k)
                have rc7 : ∀ w', Kept [] wC w' → w'.cell? ⟨w.heap.size + 1 + 1, 7, none⟩ = some (.slice s7 r.proof.dares.length d7) := fun w' k => Kr7.out w' (KC.trans k)
                have rc8 : ∀ w', Kept [] wC w' → w'.cell? ⟨w.heap.size + 1 + 1, 8, none⟩ = some (.slice s8 r.proof.answers.length d8) := fun w' k => Kr8.out w' (KC.trans k)
                have yc0 : ∀ w', Kept [] wC w' → w'.cell? ⟨w.heap.size + 1 + 1 + 1, 0, none⟩ = some (.slice p0 y.tickets.length q0) := fun w' k => Ky0.out w' (KC.trans k)
                have yc1 : ∀ w', Kept [] wC w' → w'.cell? ⟨w.heap.size + 1 + 1 + 1, 1, none⟩ = some (.slice p1 y.spends.length q1) := fun w' k => Ky1.out w' (KC.trans k)
                have yc2 : ∀ w', Kept [] wC w' → w'.cell? ⟨w.heap.size + 1 + 1 + 1, 2, none⟩ = some (.slice p2 y.links.length q2) := fun w' k => Ky2.out w' (KC.trans k)
                have yc3 : ∀ w', Kept [] wC w' → w'.cell? ⟨w.heap.size + 1 + 1 + 1, 3, none⟩ = some (.slice p3 y.commits.length q3) := fun w' k => Ky3.out w' (KC.trans k)
                have yc4 : ∀ w', Kept [] wC w' → w'.cell? ⟨w.heap.size + 1 + 1 + 1, 4, none⟩ = some (.slice p4 y.chain.length q4) := fun w' k => Ky4.out w' (KC.trans k)
                have yc5 : ∀ w', Kept [] wC w' → w'.cell? ⟨w.heap.size + 1 + 1 + 1, 5, none⟩ = some (.slice p5 y.bits.length q5) := fun w' k => Ky5.out w' (KC.trans k)
                have yc6 : ∀ w', Kept [] wC w' → w'.cell? ⟨w.heap.size + 1 + 1 + 1, 6, none⟩ = some (.slice p6 y.escrow.length q6) := fun w' k => Ky6.out w' (KC.trans k)
                have yc7 : ∀ w', Kept [] wC w' → w'.cell? ⟨w.heap.size + 1 + 1 + 1, 7, none⟩ = some (.slice p7 y.proof.dares.length q7) := fun w' k => Ky7.out w' (KC.trans k)
                have yc8 : ∀ w', Kept [] wC w' → w'.cell? ⟨w.heap.size + 1 + 1 + 1, 8, none⟩ = some (.slice p8 y.proof.answers.length q8) := fun w' k => Ky8.out w' (KC.trans k)

                have HTx := Lib.hid (HT.out.kept KC)
                have HUx := Lib.hid (HU.out.kept KC)
                have HRx := Lib.hid (HR.out.kept KC)
                have HYx := Lib.hid (HY.out.kept KC)
                have HEx := Lib.hid (HE.out.kept0 KC)
                have HINJ := Lib.hid (ctx_inj t u r y (okT_of IT.out B1.out) (okT_of IU.out B2.out) (okR_of (recI_bare IR.out) (fewB_bare B3.out)) (okR_of (recI_bare IY.out) (fewB_bare B4.out)))
                obtain ⟨CT, hCT⟩ : ∃ A, ctxE t r = A := ⟨_, rfl⟩
                obtain ⟨CU, hCU⟩ : ∃ A, ctxE u y = A := ⟨_, rfl⟩
                rw [hCT, hCU] at HINJ
                have HC1 : Hid (∀ w', Kept [] wC w' → Calls Tryz.prog 59 #[.agg #[.int .i64 t.version, .string ⟨t.question.toArray⟩, .slice pt t.passes.length ct, .int .i64 t.most, .slice vt t.revoked.length dt, .int .i64 t.dare, .int .i64 t.quorum, .int .i64 t.jurors], .agg #[.slice s0 r.tickets.length d0, .slice s1 r.spends.length d1, .slice s2 r.links.length d2, .slice s3 r.commits.length d3, .slice s4 r.chain.length d4, .slice s5 r.bits.length d5, .slice s6 r.escrow.length d6, .slice s7 r.proof.dares.length d7, .slice s8 r.proof.answers.length d8]] w' fun e w'' => e = .returned (.string ⟨CT.toArray⟩) ∧ Kept [] wC w'') := fun w' k => by rw [← hCT]; exact ctx_from k t _ _ _ _ _ _ _ _ _ _ _ r HTx.out HRx.out HEx.out (ctxB_of IT.out B1.out) (encB_of (recI_bare IR.out) (fewB_bare B3.out))
                have HC2 : Hid (∀ w', Kept [] wC w' → Calls Tryz.prog 59 #[.agg #[.int .i64 u.version, .string ⟨u.question.toArray⟩, .slice pu u.passes.length cu, .int .i64 u.most, .slice vu u.revoked.length du, .int .i64 u.dare, .int .i64 u.quorum, .int .i64 u.jurors], .agg #[.slice p0 y.tickets.length q0, .slice p1 y.spends.length q1, .slice p2 y.links.length q2, .slice p3 y.commits.length q3, .slice p4 y.chain.length q4, .slice p5 y.bits.length q5, .slice p6 y.escrow.length q6, .slice p7 y.proof.dares.length q7, .slice p8 y.proof.answers.length q8]] w' fun e w'' => e = .returned (.string ⟨CU.toArray⟩) ∧ Kept [] wC w'') := fun w' k => by rw [← hCU]; exact ctx_from k u _ _ _ _ _ _ _ _ _ _ _ y HUx.out HYx.out HEx.out (ctxB_of IU.out B2.out) (encB_of (recI_bare IY.out) (fewB_bare B4.out))
                clear hCT hCU HTx HUx HEx
                go_upto_region 10 with (fail)
                cases hbe : (CT == CU)
                all_goals
                  go_region_held3 (fun w' => Kept [] wC w') (repeat (first | (with_reducible assumption) | (with_reducible exact Kept.refl _ _) | (with_reducible refine Kept.drew ?_) | (with_reducible refine Kept.alloc ?_ _)))
                    (first
                      | (go_at_call_of 59 (Value.agg #[.int .i64 t.version, .string ⟨t.question.toArray⟩, .slice pt t.passes.length ct, .int .i64 t.most, .slice vt t.revoked.length dt, .int .i64 t.dare, .int .i64 t.quorum, .int .i64 t.jurors]); refine (HC1.out _ (by with_reducible assumption)).mono ?_; rintro e w2 ⟨rfl, hk2⟩)
                      | (go_at_call_of 59 (Value.agg #[.int .i64 u.version, .string ⟨u.question.toArray⟩, .slice pu u.passes.length cu, .int .i64 u.most, .slice vu u.revoked.length du, .int .i64 u.dare, .int .i64 u.quorum, .int .i64 u.jurors]); refine (HC2.out _ (by with_reducible assumption)).mono ?_; rintro e w2 ⟨rfl, hk2⟩))
                  rename_i hHeld
                  clear tc0 tc1 tc2 tc3 tc4 tc5 tc6 tc7 uc0 uc1 uc2 uc3 uc4 uc5 uc6 uc7 rc0 rc1 rc2 rc3 rc4 rc5 rc6 rc7 rc8 yc0 yc1 yc2 yc3 yc4 yc5 yc6 yc7 yc8 HC1 HC2
                · go_wp2_with fail
                  go_ret
                  exact ⟨rfl, HK.out.trans (KC.trans hHeld)⟩
                · obtain ⟨qq, qd, qv, qr, qb⟩ := HINJ.out (eq_of_beq hbe)
                  have BR := HB2.out.kept (KC.trans hHeld) (by simp)
                  have BY := HB3.out.kept (KC.trans hHeld) (by simp)
                  have e7 := cell_of BR 7 (.slice s7 r.proof.dares.length d7) rfl
                  have e8 := cell_of BR 8 (.slice s8 r.proof.answers.length d8) rfl
                  have g7 := BR.frozen 7
                  have g8 := BR.frozen 8
                  obtain ⟨Z1, hZ1, k1, BR1⟩ := barebox BR
                  have BY1 := BY.kept k1 (fun hz => by have := List.mem_singleton.1 hz; omega)
                  have i7 := cell_of BY1 7 (.slice p7 y.proof.dares.length q7) rfl
                  have i8 := cell_of BY1 8 (.slice p8 y.proof.answers.length q8) rfl
                  have m7 := BY1.frozen 7
                  have m8 := BY1.frozen 8
                  obtain ⟨Z, hZ, k2, BY2⟩ := barebox BY1
                  have BR2 := BR1.kept k2 (fun hz => by have := List.mem_singleton.1 hz; omega)
                  have kz : Kept [] w Z := ((HK.out.trans (KC.trans hHeld)).fresh k1 (fun z hz => by have := List.mem_singleton.1 hz; omega)).fresh k2 (fun z hz => by have := List.mem_singleton.1 hz; omega)
                  have BT2 := ((HB0.out.kept (KC.trans hHeld) (by simp)).kept k1 (fun hz => by have := List.mem_singleton.1 hz; omega)).kept k2 (fun hz => by have := List.mem_singleton.1 hz; omega)
                  have BU2 := ((HB1.out.kept (KC.trans hHeld) (by simp)).kept k1 (fun hz => by have := List.mem_singleton.1 hz; omega)).kept k2 (fun hz => by have := List.mem_singleton.1 hz; omega)
                  have KZ := Lib.hid kz
                  have HTz := Lib.hid (HT0.out.kept kz)
                  have HUz := Lib.hid (HU0.out.kept kz)
                  have HRz := Lib.hid (HR0.out.kept kz)
                  have HYz := Lib.hid (HY0.out.kept kz)
                  have HZ1 := Lib.hid hZ1
                  have HZ := Lib.hid hZ
                  have HBR2 := Lib.hid BR2
                  have HBY2 := Lib.hid BY2
                  have HBT2 := Lib.hid BT2
                  have HBU2 := Lib.hid BU2
                  have QQ := Lib.hid qq
                  have QD := Lib.hid qd
                  have QV := Lib.hid qv
                  have QR := Lib.hid qr
                  have QB := Lib.hid qb
                  clear hZ1 hZ BR BY BR1 BY1 BY2 BR2 BT2 BU2 k1 k2 kz qq qd qv qr qb hHeld hbe HINJ
                  go_upto_region 13 with (fail)
                  rw [HZ1.out]
                  go_upto_region 14 with (fail)
                  rw [HZ.out]
                  clear e7 e8 g7 g8 i7 i8 m7 m8 HZ1 HZ
                  have tc0 : Z.cell? ⟨w.heap.size, 0, none⟩ = some (.int .i64 t.version) := (cell_of HBT2.out 0 (.int .i64 t.version) rfl)
                  have tc1 : Z.cell? ⟨w.heap.size, 1, none⟩ = some (.string ⟨t.question.toArray⟩) := (cell_of HBT2.out 1 (.string ⟨t.question.toArray⟩) rfl)
                  have tc4 : Z.cell? ⟨w.heap.size, 4, none⟩ = some (.slice vt t.revoked.length dt) := (cell_of HBT2.out 4 (.slice vt t.revoked.length dt) rfl)
                  have tc5 : Z.cell? ⟨w.heap.size, 5, none⟩ = some (.int .i64 t.dare) := (cell_of HBT2.out 5 (.int .i64 t.dare) rfl)
                  have uc0 : Z.cell? ⟨w.heap.size + 1, 0, none⟩ = some (.int .i64 t.version) := (cell_of HBU2.out 0 (.int .i64 t.version) (by rw [QV.out]; rfl))
                  have uc1 : Z.cell? ⟨w.heap.size + 1, 1, none⟩ = some (.string ⟨t.question.toArray⟩) := (cell_of HBU2.out 1 (.string ⟨t.question.toArray⟩) (by rw [QQ.out]; rfl))
                  have uc4 : Z.cell? ⟨w.heap.size + 1, 4, none⟩ = some (.slice vu u.revoked.length du) := (cell_of HBU2.out 4 (.slice vu u.revoked.length du) rfl)
                  have uc5 : Z.cell? ⟨w.heap.size + 1, 5, none⟩ = some (.int .i64 t.dare) := (cell_of HBU2.out 5 (.int .i64 t.dare) (by rw [QD.out]; rfl))
                  have rf0 : Hid (∀ w', Kept [] Z w' → w'.cell? ⟨w.heap.size + 1 + 1, 0, none⟩ = some (.slice s0 r.tickets.length d0)) := Kept.cellOf (cell_of HBR2.out 0 (.slice s0 r.tickets.length d0) rfl)
                  have rf1 : Hid (∀ w', Kept [] Z w' → w'.cell? ⟨w.heap.size + 1 + 1, 1, none⟩ = some (.slice s1 r.spends.length d1)) := Kept.cellOf (cell_of HBR2.out 1 (.slice s1 r.spends.length d1) rfl)
                  have rf2 : Hid (∀ w', Kept [] Z w' → w'.cell? ⟨w.heap.size + 1 + 1, 2, none⟩ = some (.slice s2 r.links.length d2)) := Kept.cellOf (cell_of HBR2.out 2 (.slice s2 r.links.length d2) rfl)
                  have rf3 : Hid (∀ w', Kept [] Z w' → w'.cell? ⟨w.heap.size + 1 + 1, 3, none⟩ = some (.slice s3 r.commits.length d3)) := Kept.cellOf (cell_of HBR2.out 3 (.slice s3 r.commits.length d3) rfl)
                  have rf4 : Hid (∀ w', Kept [] Z w' → w'.cell? ⟨w.heap.size + 1 + 1, 4, none⟩ = some (.slice s4 r.chain.length d4)) := Kept.cellOf (cell_of HBR2.out 4 (.slice s4 r.chain.length d4) rfl)
                  have rf5 : Hid (∀ w', Kept [] Z w' → w'.cell? ⟨w.heap.size + 1 + 1, 5, none⟩ = some (.slice s5 r.bits.length d5)) := Kept.cellOf (cell_of HBR2.out 5 (.slice s5 r.bits.length d5) rfl)
                  have rf6 : Hid (∀ w', Kept [] Z w' → w'.cell? ⟨w.heap.size + 1 + 1, 6, none⟩ = some (.slice s6 r.escrow.length d6)) := Kept.cellOf (cell_of HBR2.out 6 (.slice s6 r.escrow.length d6) rfl)
                  have rf7 : Hid (∀ w', Kept [] Z w' → w'.cell? ⟨w.heap.size + 1 + 1, 7, none⟩ = some (.slice none 0 0)) := Kept.cellOf (cell_of HBR2.out 7 (.slice none 0 0) rfl)
                  have rf8 : Hid (∀ w', Kept [] Z w' → w'.cell? ⟨w.heap.size + 1 + 1, 8, none⟩ = some (.slice none 0 0)) := Kept.cellOf (cell_of HBR2.out 8 (.slice none 0 0) rfl)
                  have yf0 : Hid (∀ w', Kept [] Z w' → w'.cell? ⟨w.heap.size + 1 + 1 + 1, 0, none⟩ = some (.slice p0 y.tickets.length q0)) := Kept.cellOf (cell_of HBY2.out 0 (.slice p0 y.tickets.length q0) rfl)
                  have yf1 : Hid (∀ w', Kept [] Z w' → w'.cell? ⟨w.heap.size + 1 + 1 + 1, 1, none⟩ = some (.slice p1 y.spends.length q1)) := Kept.cellOf (cell_of HBY2.out 1 (.slice p1 y.spends.length q1) rfl)
                  have yf2 : Hid (∀ w', Kept [] Z w' → w'.cell? ⟨w.heap.size + 1 + 1 + 1, 2, none⟩ = some (.slice p2 y.links.length q2)) := Kept.cellOf (cell_of HBY2.out 2 (.slice p2 y.links.length q2) rfl)
                  have yf3 : Hid (∀ w', Kept [] Z w' → w'.cell? ⟨w.heap.size + 1 + 1 + 1, 3, none⟩ = some (.slice p3 y.commits.length q3)) := Kept.cellOf (cell_of HBY2.out 3 (.slice p3 y.commits.length q3) rfl)
                  have yf4 : Hid (∀ w', Kept [] Z w' → w'.cell? ⟨w.heap.size + 1 + 1 + 1, 4, none⟩ = some (.slice p4 y.chain.length q4)) := Kept.cellOf (cell_of HBY2.out 4 (.slice p4 y.chain.length q4) rfl)
                  have yf5 : Hid (∀ w', Kept [] Z w' → w'.cell? ⟨w.heap.size + 1 + 1 + 1, 5, none⟩ = some (.slice p5 y.bits.length q5)) := Kept.cellOf (cell_of HBY2.out 5 (.slice p5 y.bits.length q5) rfl)
                  have yf6 : Hid (∀ w', Kept [] Z w' → w'.cell? ⟨w.heap.size + 1 + 1 + 1, 6, none⟩ = some (.slice p6 y.escrow.length q6)) := Kept.cellOf (cell_of HBY2.out 6 (.slice p6 y.escrow.length q6) rfl)
                  have yf7 : Hid (∀ w', Kept [] Z w' → w'.cell? ⟨w.heap.size + 1 + 1 + 1, 7, none⟩ = some (.slice none 0 0)) := Kept.cellOf (cell_of HBY2.out 7 (.slice none 0 0) rfl)
                  have yf8 : Hid (∀ w', Kept [] Z w' → w'.cell? ⟨w.heap.size + 1 + 1 + 1, 8, none⟩ = some (.slice none 0 0)) := Kept.cellOf (cell_of HBY2.out 8 (.slice none 0 0) rfl)
                  have HS1 : Hid (∀ w', Kept [] Z w' → Calls Tryz.prog 49 #[.slice vt t.revoked.length dt, .slice vu u.revoked.length du] w' fun e w'' => e = .returned (.bool true) ∧ Kept [] Z w'') := fun w' k => (sameInts_eq (HTz.out.kept k).rv (by rw [QR.out]; exact (HUz.out.kept k).rv)).mono fun _ _ ⟨he, hk⟩ => ⟨he, k.trans hk⟩
                  have HS2 : Hid (∀ w', Kept [] Z w' → Calls Tryz.prog 58 #[.agg #[.slice s0 r.tickets.length d0, .slice s1 r.spends.length d1, .slice s2 r.links.length d2, .slice s3 r.commits.length d3, .slice s4 r.chain.length d4, .slice s5 r.bits.length d5, .slice s6 r.escrow.length d6, .slice none 0 0, .slice none 0 0], .agg #[.slice p0 y.tickets.length q0, .slice p1 y.spends.length q1, .slice p2 y.links.length q2, .slice p3 y.commits.length q3, .slice p4 y.chain.length q4, .slice p5 y.bits.length q5, .slice p6 y.escrow.length q6, .slice none 0 0, .slice none 0 0]] w' fun e w'' => e = .returned (.bool true) ∧ Kept [] Z w'') := fun w' k => (sameRecord_eq _ _ r.bare w' ⟨_, _, _, _, _, _, _, _, _, rfl, rec_bare (HRz.out.kept k)⟩ (by rw [QB.out]; exact ⟨_, _, _, _, _, _, _, _, _, rfl, rec_bare (HYz.out.kept k)⟩) (encB_of (recI_bare IR.out) (fewB_bare B3.out))).mono fun _ _ ⟨he, hk⟩ => ⟨he, k.trans hk⟩
                  go_wp2_with (go_at_call 49; refine (HS1.out _ (Kept.refl _ _)).mono ?_)
                  rintro e Za ⟨rfl, ka⟩
                  have KA' := Lib.hid ka
                  clear tc0 tc1 tc4 tc5 uc0 uc1 uc4 uc5
                  have rc0 := rf0.out Za ka
                  have rc1 := rf1.out Za ka
                  have rc2 := rf2.out Za ka
                  have rc3 := rf3.out Za ka
                  have rc4 := rf4.out Za ka
                  have rc5 := rf5.out Za ka
                  have rc6 := rf6.out Za ka
                  have rc7 := rf7.out Za ka
                  have rc8 := rf8.out Za ka
                  have yc0 := yf0.out Za ka
                  have yc1 := yf1.out Za ka
                  have yc2 := yf2.out Za ka
                  have yc3 := yf3.out Za ka
                  have yc4 := yf4.out Za ka
                  have yc5 := yf5.out Za ka
                  have yc6 := yf6.out Za ka
                  have yc7 := yf7.out Za ka
                  have yc8 := yf8.out Za ka
                  go_wp2_with (go_at_call 58; refine (HS2.out _ KA'.out).mono ?_)
                  rintro e Zb ⟨rfl, kb⟩
                  go_wp2_with fail
                  go_ret
                  exact ⟨rfl, KZ.out.trans kb⟩
              · skip
                obtain ⟨hbr, his⟩ := Prod.mk.inj (HAb.out rfl)
                have hbr2 := hbr.symm
                clear hbr
                subst hbr2
                subst his
                obtain ⟨hmy, hdt⟩ := HDT.out rfl
                subst hmy hdt
                have HS := Lib.hid (sameRecord_eq _ _ r wB ⟨_, _, _, _, _, _, _, _, _, rfl, HB8.out.kept K8B.out⟩ ⟨_, _, _, _, _, _, _, _, _, rfl, HR.out.kept KB⟩ (encB_of IR.out B3.out))
                have bc0 := Kb0.out wB K8B.out
                have bc1 := Kb1.out wB K8B.out
                have bc2 := Kb2.out wB K8B.out
                have bc3 := Kb3.out wB K8B.out
                have bc4 := Kb4.out wB K8B.out
                have bc5 := Kb5.out wB K8B.out
                have bc6 := Kb6.out wB K8B.out
                have bc7 := Kb7.out wB K8B.out
                have bc8 := Kb8.out wB K8B.out
                have rc0 := Kr0.out wB KB
                have rc1 := Kr1.out wB KB
                have rc2 := Kr2.out wB KB
                have rc3 := Kr3.out wB KB
                have rc4 := Kr4.out wB KB
                have rc5 := Kr5.out wB KB
                have rc6 := Kr6.out wB KB
                have rc7 := Kr7.out wB KB
                have rc8 := Kr8.out wB KB
                go_upto_region 10 with (go_at_call 58; refine HS.out.mono ?_; rintro e wC ⟨rfl, kC⟩)
                have KC := KB.trans kC
                clear HS kC
                clear bc0 rc0 bc1 rc1 bc2 rc2 bc3 rc3 bc4 rc4 bc5 rc5 bc6 rc6 bc7 rc7 bc8 rc8
                have tc0 : ∀ w', Kept [] wC w' → w'.cell? ⟨w.heap.size, 0, none⟩ = some (.int .i64 t.version) := fun w' k => Kt0.out w' (KC.trans k)
                have tc1 : ∀ w', Kept [] wC w' → w'.cell? ⟨w.heap.size, 1, none⟩ = some (.string ⟨t.question.toArray⟩) := fun w' k => Kt1.out w' (KC.trans k)
                have tc2 : ∀ w', Kept [] wC w' → w'.cell? ⟨w.heap.size, 2, none⟩ = some (.slice pt t.passes.length ct) := fun w' k => Kt2.out w' (KC.trans k)
                have tc3 : ∀ w', Kept [] wC w' → w'.cell? ⟨w.heap.size, 3, none⟩ = some (.int .i64 t.most) := fun w' k => Kt3.out w' (KC.trans k)
                have tc4 : ∀ w', Kept [] wC w' → w'.cell? ⟨w.heap.size, 4, none⟩ = some (.slice vt t.revoked.length dt) := fun w' k => Kt4.out w' (KC.trans k)
                have tc5 : ∀ w', Kept [] wC w' → w'.cell? ⟨w.heap.size, 5, none⟩ = some (.int .i64 t.dare) := fun w' k => Kt5.out w' (KC.trans k)
                have tc6 : ∀ w', Kept [] wC w' → w'.cell? ⟨w.heap.size, 6, none⟩ = some (.int .i64 t.quorum) := fun w' k => Kt6.out w' (KC.trans k)
                have tc7 : ∀ w', Kept [] wC w' → w'.cell? ⟨w.heap.size, 7, none⟩ = some (.int .i64 t.jurors) := fun w' k => Kt7.out w' (KC.trans k)
                have uc0 : ∀ w', Kept [] wC w' → w'.cell? ⟨w.heap.size + 1, 0, none⟩ = some (.int .i64 u.version) := fun w' k => Ku0.out w' (KC.trans k)
                have uc1 : ∀ w', Kept [] wC w' → w'.cell? ⟨w.heap.size + 1, 1, none⟩ = some (.string ⟨u.question.toArray⟩) := fun w' k => Ku1.out w' (KC.trans k)
                have uc2 : ∀ w', Kept [] wC w' → w'.cell? ⟨w.heap.size + 1, 2, none⟩ = some (.slice pu u.passes.length cu) := fun w' k => Ku2.out w' (KC.trans k)
                have uc3 : ∀ w', Kept [] wC w' → w'.cell? ⟨w.heap.size + 1, 3, none⟩ = some (.int .i64 u.most) := fun w' k => Ku3.out w' (KC.trans k)
                have uc4 : ∀ w', Kept [] wC w' → w'.cell? ⟨w.heap.size + 1, 4, none⟩ = some (.slice vu u.revoked.length du) := fun w' k => Ku4.out w' (KC.trans k)
                have uc5 : ∀ w', Kept [] wC w' → w'.cell? ⟨w.heap.size + 1, 5, none⟩ = some (.int .i64 u.dare) := fun w' k => Ku5.out w' (KC.trans k)
                have uc6 : ∀ w', Kept [] wC w' → w'.cell? ⟨w.heap.size + 1, 6, none⟩ = some (.int .i64 u.quorum) := fun w' k => Ku6.out w' (KC.trans k)
                have uc7 : ∀ w', Kept [] wC w' → w'.cell? ⟨w.heap.size + 1, 7, none⟩ = some (.int .i64 u.jurors) := fun w' k => Ku7.out w' (KC.trans k)
                have rc0 : ∀ w', Kept [] wC w' → w'.cell? ⟨w.heap.size + 1 + 1, 0, none⟩ = some (.slice s0 r.tickets.length d0) := fun w' k => Kr0.out w' (KC.trans k)
                have rc1 : ∀ w', Kept [] wC w' → w'.cell? ⟨w.heap.size + 1 + 1, 1, none⟩ = some (.slice s1 r.spends.length d1) := fun w' k => Kr1.out w' (KC.trans k)
                have rc2 : ∀ w', Kept [] wC w' → w'.cell? ⟨w.heap.size + 1 + 1, 2, none⟩ = some (.slice s2 r.links.length d2) := fun w' k => Kr2.out w' (KC.trans k)
                have rc3 : ∀ w', Kept [] wC w' → w'.cell? ⟨w.heap.size + 1 + 1, 3, none⟩ = some (.slice s3 r.commits.length d3) := fun w' k => Kr3.out w' (KC.trans k)
                have rc4 : ∀ w', Kept [] wC w' → w'.cell? ⟨w.heap.size + 1 + 1, 4, none⟩ = some (.slice s4 r.chain.length d4) := fun w' k => Kr4.out w' (KC.trans k)
                have rc5 : ∀ w', Kept [] wC w' → w'.cell? ⟨w.heap.size + 1 + 1, 5, none⟩ = some (.slice s5 r.bits.length d5) := fun w' k => Kr5.out w' (KC.trans k)
                have rc6 : ∀ w', Kept [] wC w' → w'.cell? ⟨w.heap.size + 1 + 1, 6, none⟩ = some (.slice s6 r.escrow.length d6) := fun w' k => Kr6.out w' (KC.trans k)
                have rc7 : ∀ w', Kept [] wC w' → w'.cell? ⟨w.heap.size + 1 + 1, 7, none⟩ = some (.slice s7 r.proof.dares.length d7) := fun w' k => Kr7.out w' (KC.trans k)
                have rc8 : ∀ w', Kept [] wC w' → w'.cell? ⟨w.heap.size + 1 + 1, 8, none⟩ = some (.slice s8 r.proof.answers.length d8) := fun w' k => Kr8.out w' (KC.trans k)
                have yc0 : ∀ w', Kept [] wC w' → w'.cell? ⟨w.heap.size + 1 + 1 + 1, 0, none⟩ = some (.slice p0 y.tickets.length q0) := fun w' k => Ky0.out w' (KC.trans k)
                have yc1 : ∀ w', Kept [] wC w' → w'.cell? ⟨w.heap.size + 1 + 1 + 1, 1, none⟩ = some (.slice p1 y.spends.length q1) := fun w' k => Ky1.out w' (KC.trans k)
                have yc2 : ∀ w', Kept [] wC w' → w'.cell? ⟨w.heap.size + 1 + 1 + 1, 2, none⟩ = some (.slice p2 y.links.length q2) := fun w' k => Ky2.out w' (KC.trans k)
                have yc3 : ∀ w', Kept [] wC w' → w'.cell? ⟨w.heap.size + 1 + 1 + 1, 3, none⟩ = some (.slice p3 y.commits.length q3) := fun w' k => Ky3.out w' (KC.trans k)
                have yc4 : ∀ w', Kept [] wC w' → w'.cell? ⟨w.heap.size + 1 + 1 + 1, 4, none⟩ = some (.slice p4 y.chain.length q4) := fun w' k => Ky4.out w' (KC.trans k)
                have yc5 : ∀ w', Kept [] wC w' → w'.cell? ⟨w.heap.size + 1 + 1 + 1, 5, none⟩ = some (.slice p5 y.bits.length q5) := fun w' k => Ky5.out w' (KC.trans k)
                have yc6 : ∀ w', Kept [] wC w' → w'.cell? ⟨w.heap.size + 1 + 1 + 1, 6, none⟩ = some (.slice p6 y.escrow.length q6) := fun w' k => Ky6.out w' (KC.trans k)
                have yc7 : ∀ w', Kept [] wC w' → w'.cell? ⟨w.heap.size + 1 + 1 + 1, 7, none⟩ = some (.slice p7 y.proof.dares.length q7) := fun w' k => Ky7.out w' (KC.trans k)
                have yc8 : ∀ w', Kept [] wC w' → w'.cell? ⟨w.heap.size + 1 + 1 + 1, 8, none⟩ = some (.slice p8 y.proof.answers.length q8) := fun w' k => Ky8.out w' (KC.trans k)

                have HTx := Lib.hid (HT.out.kept KC)
                have HUx := Lib.hid (HU.out.kept KC)
                have HRx := Lib.hid (HR.out.kept KC)
                have HYx := Lib.hid (HY.out.kept KC)
                have HEx := Lib.hid (HE.out.kept0 KC)
                have HINJ := Lib.hid (ctx_inj t u r y (okT_of IT.out B1.out) (okT_of IU.out B2.out) (okR_of (recI_bare IR.out) (fewB_bare B3.out)) (okR_of (recI_bare IY.out) (fewB_bare B4.out)))
                obtain ⟨CT, hCT⟩ : ∃ A, ctxE t r = A := ⟨_, rfl⟩
                obtain ⟨CU, hCU⟩ : ∃ A, ctxE u y = A := ⟨_, rfl⟩
                rw [hCT, hCU] at HINJ
                have HC1 : Hid (∀ w', Kept [] wC w' → Calls Tryz.prog 59 #[.agg #[.int .i64 t.version, .string ⟨t.question.toArray⟩, .slice pt t.passes.length ct, .int .i64 t.most, .slice vt t.revoked.length dt, .int .i64 t.dare, .int .i64 t.quorum, .int .i64 t.jurors], .agg #[.slice s0 r.tickets.length d0, .slice s1 r.spends.length d1, .slice s2 r.links.length d2, .slice s3 r.commits.length d3, .slice s4 r.chain.length d4, .slice s5 r.bits.length d5, .slice s6 r.escrow.length d6, .slice s7 r.proof.dares.length d7, .slice s8 r.proof.answers.length d8]] w' fun e w'' => e = .returned (.string ⟨CT.toArray⟩) ∧ Kept [] wC w'') := fun w' k => by rw [← hCT]; exact ctx_from k t _ _ _ _ _ _ _ _ _ _ _ r HTx.out HRx.out HEx.out (ctxB_of IT.out B1.out) (encB_of (recI_bare IR.out) (fewB_bare B3.out))
                have HC2 : Hid (∀ w', Kept [] wC w' → Calls Tryz.prog 59 #[.agg #[.int .i64 u.version, .string ⟨u.question.toArray⟩, .slice pu u.passes.length cu, .int .i64 u.most, .slice vu u.revoked.length du, .int .i64 u.dare, .int .i64 u.quorum, .int .i64 u.jurors], .agg #[.slice p0 y.tickets.length q0, .slice p1 y.spends.length q1, .slice p2 y.links.length q2, .slice p3 y.commits.length q3, .slice p4 y.chain.length q4, .slice p5 y.bits.length q5, .slice p6 y.escrow.length q6, .slice p7 y.proof.dares.length q7, .slice p8 y.proof.answers.length q8]] w' fun e w'' => e = .returned (.string ⟨CU.toArray⟩) ∧ Kept [] wC w'') := fun w' k => by rw [← hCU]; exact ctx_from k u _ _ _ _ _ _ _ _ _ _ _ y HUx.out HYx.out HEx.out (ctxB_of IU.out B2.out) (encB_of (recI_bare IY.out) (fewB_bare B4.out))
                clear hCT hCU HTx HUx HEx
                go_upto_region 10 with (fail)
                cases hbe : (CT == CU)
                all_goals
                  go_region_held3 (fun w' => Kept [] wC w') (repeat (first | (with_reducible assumption) | (with_reducible exact Kept.refl _ _) | (with_reducible refine Kept.drew ?_) | (with_reducible refine Kept.alloc ?_ _)))
                    (first
                      | (go_at_call_of 59 (Value.agg #[.int .i64 t.version, .string ⟨t.question.toArray⟩, .slice pt t.passes.length ct, .int .i64 t.most, .slice vt t.revoked.length dt, .int .i64 t.dare, .int .i64 t.quorum, .int .i64 t.jurors]); refine (HC1.out _ (by with_reducible assumption)).mono ?_; rintro e w2 ⟨rfl, hk2⟩)
                      | (go_at_call_of 59 (Value.agg #[.int .i64 u.version, .string ⟨u.question.toArray⟩, .slice pu u.passes.length cu, .int .i64 u.most, .slice vu u.revoked.length du, .int .i64 u.dare, .int .i64 u.quorum, .int .i64 u.jurors]); refine (HC2.out _ (by with_reducible assumption)).mono ?_; rintro e w2 ⟨rfl, hk2⟩))
                  rename_i hHeld
                  clear tc0 tc1 tc2 tc3 tc4 tc5 tc6 tc7 uc0 uc1 uc2 uc3 uc4 uc5 uc6 uc7 rc0 rc1 rc2 rc3 rc4 rc5 rc6 rc7 rc8 yc0 yc1 yc2 yc3 yc4 yc5 yc6 yc7 yc8 HC1 HC2
                · go_wp2_with fail
                  go_ret
                  exact ⟨rfl, HK.out.trans (KC.trans hHeld)⟩
                · obtain ⟨qq, qd, qv, qr, qb⟩ := HINJ.out (eq_of_beq hbe)
                  have BR := HB2.out.kept (KC.trans hHeld) (by simp)
                  have BY := HB3.out.kept (KC.trans hHeld) (by simp)
                  have e7 := cell_of BR 7 (.slice s7 r.proof.dares.length d7) rfl
                  have e8 := cell_of BR 8 (.slice s8 r.proof.answers.length d8) rfl
                  have g7 := BR.frozen 7
                  have g8 := BR.frozen 8
                  obtain ⟨Z1, hZ1, k1, BR1⟩ := barebox BR
                  have BY1 := BY.kept k1 (fun hz => by have := List.mem_singleton.1 hz; omega)
                  have i7 := cell_of BY1 7 (.slice p7 y.proof.dares.length q7) rfl
                  have i8 := cell_of BY1 8 (.slice p8 y.proof.answers.length q8) rfl
                  have m7 := BY1.frozen 7
                  have m8 := BY1.frozen 8
                  obtain ⟨Z, hZ, k2, BY2⟩ := barebox BY1
                  have BR2 := BR1.kept k2 (fun hz => by have := List.mem_singleton.1 hz; omega)
                  have kz : Kept [] w Z := ((HK.out.trans (KC.trans hHeld)).fresh k1 (fun z hz => by have := List.mem_singleton.1 hz; omega)).fresh k2 (fun z hz => by have := List.mem_singleton.1 hz; omega)
                  have BT2 := ((HB0.out.kept (KC.trans hHeld) (by simp)).kept k1 (fun hz => by have := List.mem_singleton.1 hz; omega)).kept k2 (fun hz => by have := List.mem_singleton.1 hz; omega)
                  have BU2 := ((HB1.out.kept (KC.trans hHeld) (by simp)).kept k1 (fun hz => by have := List.mem_singleton.1 hz; omega)).kept k2 (fun hz => by have := List.mem_singleton.1 hz; omega)
                  have KZ := Lib.hid kz
                  have HTz := Lib.hid (HT0.out.kept kz)
                  have HUz := Lib.hid (HU0.out.kept kz)
                  have HRz := Lib.hid (HR0.out.kept kz)
                  have HYz := Lib.hid (HY0.out.kept kz)
                  have HZ1 := Lib.hid hZ1
                  have HZ := Lib.hid hZ
                  have HBR2 := Lib.hid BR2
                  have HBY2 := Lib.hid BY2
                  have HBT2 := Lib.hid BT2
                  have HBU2 := Lib.hid BU2
                  have QQ := Lib.hid qq
                  have QD := Lib.hid qd
                  have QV := Lib.hid qv
                  have QR := Lib.hid qr
                  have QB := Lib.hid qb
                  clear hZ1 hZ BR BY BR1 BY1 BY2 BR2 BT2 BU2 k1 k2 kz qq qd qv qr qb hHeld hbe HINJ
                  go_upto_region 13 with (fail)
                  rw [HZ1.out]
                  go_upto_region 14 with (fail)
                  rw [HZ.out]
                  clear e7 e8 g7 g8 i7 i8 m7 m8 HZ1 HZ
                  have tc0 : Z.cell? ⟨w.heap.size, 0, none⟩ = some (.int .i64 t.version) := (cell_of HBT2.out 0 (.int .i64 t.version) rfl)
                  have tc1 : Z.cell? ⟨w.heap.size, 1, none⟩ = some (.string ⟨t.question.toArray⟩) := (cell_of HBT2.out 1 (.string ⟨t.question.toArray⟩) rfl)
                  have tc4 : Z.cell? ⟨w.heap.size, 4, none⟩ = some (.slice vt t.revoked.length dt) := (cell_of HBT2.out 4 (.slice vt t.revoked.length dt) rfl)
                  have tc5 : Z.cell? ⟨w.heap.size, 5, none⟩ = some (.int .i64 t.dare) := (cell_of HBT2.out 5 (.int .i64 t.dare) rfl)
                  have uc0 : Z.cell? ⟨w.heap.size + 1, 0, none⟩ = some (.int .i64 t.version) := (cell_of HBU2.out 0 (.int .i64 t.version) (by rw [QV.out]; rfl))
                  have uc1 : Z.cell? ⟨w.heap.size + 1, 1, none⟩ = some (.string ⟨t.question.toArray⟩) := (cell_of HBU2.out 1 (.string ⟨t.question.toArray⟩) (by rw [QQ.out]; rfl))
                  have uc4 : Z.cell? ⟨w.heap.size + 1, 4, none⟩ = some (.slice vu u.revoked.length du) := (cell_of HBU2.out 4 (.slice vu u.revoked.length du) rfl)
                  have uc5 : Z.cell? ⟨w.heap.size + 1, 5, none⟩ = some (.int .i64 t.dare) := (cell_of HBU2.out 5 (.int .i64 t.dare) (by rw [QD.out]; rfl))
                  have rf0 : Hid (∀ w', Kept [] Z w' → w'.cell? ⟨w.heap.size + 1 + 1, 0, none⟩ = some (.slice s0 r.tickets.length d0)) := Kept.cellOf (cell_of HBR2.out 0 (.slice s0 r.tickets.length d0) rfl)
                  have rf1 : Hid (∀ w', Kept [] Z w' → w'.cell? ⟨w.heap.size + 1 + 1, 1, none⟩ = some (.slice s1 r.spends.length d1)) := Kept.cellOf (cell_of HBR2.out 1 (.slice s1 r.spends.length d1) rfl)
                  have rf2 : Hid (∀ w', Kept [] Z w' → w'.cell? ⟨w.heap.size + 1 + 1, 2, none⟩ = some (.slice s2 r.links.length d2)) := Kept.cellOf (cell_of HBR2.out 2 (.slice s2 r.links.length d2) rfl)
                  have rf3 : Hid (∀ w', Kept [] Z w' → w'.cell? ⟨w.heap.size + 1 + 1, 3, none⟩ = some (.slice s3 r.commits.length d3)) := Kept.cellOf (cell_of HBR2.out 3 (.slice s3 r.commits.length d3) rfl)
                  have rf4 : Hid (∀ w', Kept [] Z w' → w'.cell? ⟨w.heap.size + 1 + 1, 4, none⟩ = some (.slice s4 r.chain.length d4)) := Kept.cellOf (cell_of HBR2.out 4 (.slice s4 r.chain.length d4) rfl)
                  have rf5 : Hid (∀ w', Kept [] Z w' → w'.cell? ⟨w.heap.size + 1 + 1, 5, none⟩ = some (.slice s5 r.bits.length d5)) := Kept.cellOf (cell_of HBR2.out 5 (.slice s5 r.bits.length d5) rfl)
                  have rf6 : Hid (∀ w', Kept [] Z w' → w'.cell? ⟨w.heap.size + 1 + 1, 6, none⟩ = some (.slice s6 r.escrow.length d6)) := Kept.cellOf (cell_of HBR2.out 6 (.slice s6 r.escrow.length d6) rfl)
                  have rf7 : Hid (∀ w', Kept [] Z w' → w'.cell? ⟨w.heap.size + 1 + 1, 7, none⟩ = some (.slice none 0 0)) := Kept.cellOf (cell_of HBR2.out 7 (.slice none 0 0) rfl)
                  have rf8 : Hid (∀ w', Kept [] Z w' → w'.cell? ⟨w.heap.size + 1 + 1, 8, none⟩ = some (.slice none 0 0)) := Kept.cellOf (cell_of HBR2.out 8 (.slice none 0 0) rfl)
                  have yf0 : Hid (∀ w', Kept [] Z w' → w'.cell? ⟨w.heap.size + 1 + 1 + 1, 0, none⟩ = some (.slice p0 y.tickets.length q0)) := Kept.cellOf (cell_of HBY2.out 0 (.slice p0 y.tickets.length q0) rfl)
                  have yf1 : Hid (∀ w', Kept [] Z w' → w'.cell? ⟨w.heap.size + 1 + 1 + 1, 1, none⟩ = some (.slice p1 y.spends.length q1)) := Kept.cellOf (cell_of HBY2.out 1 (.slice p1 y.spends.length q1) rfl)
                  have yf2 : Hid (∀ w', Kept [] Z w' → w'.cell? ⟨w.heap.size + 1 + 1 + 1, 2, none⟩ = some (.slice p2 y.links.length q2)) := Kept.cellOf (cell_of HBY2.out 2 (.slice p2 y.links.length q2) rfl)
                  have yf3 : Hid (∀ w', Kept [] Z w' → w'.cell? ⟨w.heap.size + 1 + 1 + 1, 3, none⟩ = some (.slice p3 y.commits.length q3)) := Kept.cellOf (cell_of HBY2.out 3 (.slice p3 y.commits.length q3) rfl)
                  have yf4 : Hid (∀ w', Kept [] Z w' → w'.cell? ⟨w.heap.size + 1 + 1 + 1, 4, none⟩ = some (.slice p4 y.chain.length q4)) := Kept.cellOf (cell_of HBY2.out 4 (.slice p4 y.chain.length q4) rfl)
                  have yf5 : Hid (∀ w', Kept [] Z w' → w'.cell? ⟨w.heap.size + 1 + 1 + 1, 5, none⟩ = some (.slice p5 y.bits.length q5)) := Kept.cellOf (cell_of HBY2.out 5 (.slice p5 y.bits.length q5) rfl)
                  have yf6 : Hid (∀ w', Kept [] Z w' → w'.cell? ⟨w.heap.size + 1 + 1 + 1, 6, none⟩ = some (.slice p6 y.escrow.length q6)) := Kept.cellOf (cell_of HBY2.out 6 (.slice p6 y.escrow.length q6) rfl)
                  have yf7 : Hid (∀ w', Kept [] Z w' → w'.cell? ⟨w.heap.size + 1 + 1 + 1, 7, none⟩ = some (.slice none 0 0)) := Kept.cellOf (cell_of HBY2.out 7 (.slice none 0 0) rfl)
                  have yf8 : Hid (∀ w', Kept [] Z w' → w'.cell? ⟨w.heap.size + 1 + 1 + 1, 8, none⟩ = some (.slice none 0 0)) := Kept.cellOf (cell_of HBY2.out 8 (.slice none 0 0) rfl)
                  have HS1 : Hid (∀ w', Kept [] Z w' → Calls Tryz.prog 49 #[.slice vt t.revoked.length dt, .slice vu u.revoked.length du] w' fun e w'' => e = .returned (.bool true) ∧ Kept [] Z w'') := fun w' k => (sameInts_eq (HTz.out.kept k).rv (by rw [QR.out]; exact (HUz.out.kept k).rv)).mono fun _ _ ⟨he, hk⟩ => ⟨he, k.trans hk⟩
                  have HS2 : Hid (∀ w', Kept [] Z w' → Calls Tryz.prog 58 #[.agg #[.slice s0 r.tickets.length d0, .slice s1 r.spends.length d1, .slice s2 r.links.length d2, .slice s3 r.commits.length d3, .slice s4 r.chain.length d4, .slice s5 r.bits.length d5, .slice s6 r.escrow.length d6, .slice none 0 0, .slice none 0 0], .agg #[.slice p0 y.tickets.length q0, .slice p1 y.spends.length q1, .slice p2 y.links.length q2, .slice p3 y.commits.length q3, .slice p4 y.chain.length q4, .slice p5 y.bits.length q5, .slice p6 y.escrow.length q6, .slice none 0 0, .slice none 0 0]] w' fun e w'' => e = .returned (.bool true) ∧ Kept [] Z w'') := fun w' k => (sameRecord_eq _ _ r.bare w' ⟨_, _, _, _, _, _, _, _, _, rfl, rec_bare (HRz.out.kept k)⟩ (by rw [QB.out]; exact ⟨_, _, _, _, _, _, _, _, _, rfl, rec_bare (HYz.out.kept k)⟩) (encB_of (recI_bare IR.out) (fewB_bare B3.out))).mono fun _ _ ⟨he, hk⟩ => ⟨he, k.trans hk⟩
                  go_wp2_with (go_at_call 49; refine (HS1.out _ (Kept.refl _ _)).mono ?_)
                  rintro e Za ⟨rfl, ka⟩
                  have KA' := Lib.hid ka
                  clear tc0 tc1 tc4 tc5 uc0 uc1 uc4 uc5
                  have rc0 := rf0.out Za ka
                  have rc1 := rf1.out Za ka
                  have rc2 := rf2.out Za ka
                  have rc3 := rf3.out Za ka
                  have rc4 := rf4.out Za ka
                  have rc5 := rf5.out Za ka
                  have rc6 := rf6.out Za ka
                  have rc7 := rf7.out Za ka
                  have rc8 := rf8.out Za ka
                  have yc0 := yf0.out Za ka
                  have yc1 := yf1.out Za ka
                  have yc2 := yf2.out Za ka
                  have yc3 := yf3.out Za ka
                  have yc4 := yf4.out Za ka
                  have yc5 := yf5.out Za ka
                  have yc6 := yf6.out Za ka
                  have yc7 := yf7.out Za ka
                  have yc8 := yf8.out Za ka
                  go_wp2_with (go_at_call 58; refine (HS2.out _ KA'.out).mono ?_)
                  rintro e Zb ⟨rfl, kb⟩
                  go_wp2_with fail
                  go_ret
                  exact ⟨rfl, KZ.out.trans kb⟩
          · have h601 : 600 < text.length := by omega
            go_wp2_with fail
            go_ret
            exact ⟨rfl, HK.out.trans K5⟩
end Go.Proofs.YtabiklpemoijcaaGreatDoor
