/- The law on statutes, ballots and minutes: InquiryForms. -/
import Derived.Test.YtpcdfepndmconaaGreatDoorCsR
import Derived.Test.YtpcdfepndmconaaGreatDoorRsv
import Derived.Test.YtpcdfepndmconaaGreatDoorRj7
import Derived.Test.YtpcdfepndmconaaGreatDoorFewV
import Derived.Test.YtpcdfepndmconaaGreatDoorPfE
import Derived.Test.YtpcdfepndmconaaGreatDoorFewT
namespace Go.Proofs.YtpcdfepndmconaaGreatDoor
open Go.RowKit Tape

/-- ReadMinutes at a text whose reading is known -/
def RMS (y : Opening) (t : Bool) (w : World) (e : Ending) (w' : World) : Prop :=
  ∃ ja jc, e = .returned (.tuple #[.agg #[.int .i64 y.version, .int .i64 y.gate, .int .i64 y.no, .string ⟨y.reason.toArray⟩, .slice ja y.jurors.length jc, .int .i64 y.holder], .bool t]) ∧
    OpenV w' (.agg #[.int .i64 y.version, .int .i64 y.gate, .int .i64 y.no, .string ⟨y.reason.toArray⟩, .slice ja y.jurors.length jc, .int .i64 y.holder]) y ∧ Kept [] w w'
theorem rms_of {f : FuncId} {s : List UInt8} {y : Opening} {t : Bool} {w : World} (hc : Calls Tryz.prog f #[.string ⟨s.toArray⟩] w (RM s w)) (h : readMinutes s = (y, t)) : Calls Tryz.prog f #[.string ⟨s.toArray⟩] w (RMS y t w) :=
  hc.mono fun e w' hr => by
    obtain ⟨v, he, hv, hk⟩ := hr
    rw [h] at hv he
    obtain ⟨js, rfl, hrow⟩ := hv.form
    obtain ⟨ja, jc, rfl, _⟩ := hrow.form
    exact ⟨ja, jc, he, hv, hk⟩
/-- a cast vote, its parts named -/
def CastS (y : Vote) (c s : Int) (t : Bool) (w : World) (e : Ending) (w' : World) : Prop :=
  ∃ a n m, e = .returned (.tuple #[.agg #[.int .i64 y.juror, .int .i64 y.version, .int .i64 y.gate, .int .i64 y.no, .string ⟨y.reason.toArray⟩, .slice a n m, .int .i64 c, .int .i64 s], .bool t]) ∧
    VoteX w' (.agg #[.int .i64 y.juror, .int .i64 y.version, .int .i64 y.gate, .int .i64 y.no, .string ⟨y.reason.toArray⟩, .slice a n m, .int .i64 c, .int .i64 s]) y c s ∧ Kept [] w w'
theorem cast_of {f : FuncId} {args : Array Value} {st : Stp} {a k : Int} {x y : Vote} {c s : Int} {t : Bool} {w : World} (hc : Calls Tryz.prog f args w (CastP st a k x w)) (h : castN st a k x = (y, c, s, t)) : Calls Tryz.prog f args w (CastS y c s t w) :=
  hc.mono fun e w' hr => by
    obtain ⟨v, he, hv, hk⟩ := hr
    rw [h] at hv he
    obtain ⟨ps, n, rfl, hrow⟩ := hv.form
    obtain ⟨pa, pc, rfl, _⟩ := hrow.form
    exact ⟨pa, n, pc, he, hv, hk⟩
theorem cast_small {st : Stp} {a k : Int} {x y : Vote} {c s : Int} {t : Bool} (h : castN st a k x = (y, c, s, t)) (hr : x.reason.length ≤ 1000000) (hp : x.pts.length ≤ 900000) : y.reason.length ≤ 1000000 ∧ y.pts.length ≤ 900000 := by
  unfold castN at h
  split at h
  · injection h with h _
    subst h
    exact ⟨hr, hp⟩
  · injection h with h _
    subst h
    simp [zeroVt]
theorem OpenL.kept {w w' : World} {v : Value} {o : Opening} (h : OpenL w v o) (k : Kept [] w w') : OpenL w' v o := by
  obtain ⟨⟨js, hv, hr⟩, a, b, c, d, e⟩ := h
  exact ⟨⟨js, hv, hr.kept k⟩, a, b, c, d, e⟩
theorem same_refl (o : Opening) : sameO o o = true := by simp [sameO]
theorem seats_len (x : Statute) (j : Int) : (seats x j).length ≤ 12 := by
  unfold seats
  split
  · next h =>
    obtain ⟨_, _, _, _, v3, _⟩ := validS_facts h.1
    rw [countUp_length]
    have hk : j.toNat < x.weights.length := by omega
    rw [show x.weights.getD j.toNat 0 = x.weights[j.toNat] by simp [hk]]
    have := v3 _ (List.getElem_mem hk)
    omega
  · simp
theorem fewV1_facts {x : Vote} (h : fewV [x] 1 = true) : x.pts.length ≤ 42 ∧ x.reason.length ≤ 30 := by
  unfold fewV fewVAt at h
  simpa using h
theorem fewS_short {l : List Statute} (h : fewS l = true) : Short l ∧ l.length ≤ 18 := by
  unfold fewS at h
  rw [Bool.and_eq_true, decide_eq_true_eq, List.all_eq_true] at h
  refine ⟨fun y hy r hr => ?_, h.1⟩
  have := h.2 y hy
  unfold fewAt at this
  rw [Bool.and_eq_true, List.all_eq_true] at this
  have := this.2 r hr
  rw [decide_eq_true_eq] at this
  omega
/-- one vote in a new block -/
theorem VotesV.one {w : World} {a : Vote} {pv : Value} {px py : Int} {pn : Nat} (ha : Row w 3 pv pn (ints a.pts)) (T : TypeId) :
    VotesV (w.alloc (.cells #[.int .i64 a.juror, .int .i64 a.version, .int .i64 a.gate, .int .i64 a.no, .string ⟨a.reason.toArray⟩, pv, .int .i64 px, .int .i64 py] T)) (.slice (some ⟨w.heap.size, 0, none⟩) 1 1) [a] := by
  refine ⟨_, Row.of_blk (Blk.new w T _) rfl (by decide), fun i x hx => ?_⟩
  match i, hx with
  | 0, hx =>
    simp at hx; subst hx
    exact ⟨pv, pn, rfl, rfl, ha.kept ((Kept.refl [] _).alloc _)⟩
  | (n + 1), hx => simp at hx

set_option maxRecDepth 100000 in
set_option maxHeartbeats 8000000 in
theorem law10_any (vs vl vv vo : Value) (s : Stp) (l : List Statute) (t : Tsk) (tpv trv : Value) (x : Vote) (o : Opening) (tx : List UInt8) (a k : Int) (w : World)
    (hs : StpV w vs s) (hl : StatsV w vl l) (ht : TskS w tpv trv t) (hv : VoteV w vv x) (ho : OpenL w vo o) (ia : Wire.I64 a) (ik : Wire.I64 k) (hE : Env2 w)
    (hll : ∀ x ∈ l, ∀ r ∈ x.reasons, r.length ≤ 9223372036854775807) (hq : t.question.length ≤ 9223372036854775807) (hpn : ∀ p ∈ t.passes, p.name.length ≤ 9223372036854775807 ∧ ∀ a ∈ p.attrs, a.length ≤ 9223372036854775807)
    (hxl : x.reason.length ≤ 9223372036854775807) (hol : o.reason.length ≤ 9223372036854775807) (htl : tx.length ≤ 9223372036854775807) :
    Calls Tryz.prog 3 #[vs, vl, .agg #[.int .i64 t.version, .string ⟨t.question.toArray⟩, tpv, .int .i64 t.most, trv, .int .i64 t.dare, .int .i64 t.quorum, .int .i64 t.jurors], vv, vo, .string ⟨tx.toArray⟩, .int .i64 a, .int .i64 k] w fun e w' => e = .returned (.bool true) ∧ Kept [] w w' := by
  have hs' := hs
  obtain ⟨⟨ad, sc, rfl, hsr⟩, _, _, _, _, _⟩ := hs'
  obtain ⟨lcells, hlrow, _⟩ := hl.row
  obtain ⟨la, lc, rfl, hln, _⟩ := hlrow.form
  obtain ⟨ta, tc, rfl, _, _⟩ := ht.ps.form
  obtain ⟨ra, rc, rfl, _, _⟩ := ht.rv.form
  obtain ⟨pv, pn, px, py, rfl, hpr⟩ := hv.form
  obtain ⟨pa, pc, rfl, _, _⟩ := hpr.form
  obtain ⟨js, rfl, hjs⟩ := ho.form
  obtain ⟨ja, jc, rfl, _, _⟩ := hjs.form
  obtain ⟨tn, htn⟩ : ∃ n, t.passes.length = n := ⟨_, rfl⟩
  obtain ⟨rn, hrn⟩ : ∃ n, t.revoked.length = n := ⟨_, rfl⟩
  rw [htn] at ht ⊢
  rw [hrn] at ht ⊢
  obtain ⟨W, hW⟩ : ∃ W, (((w.alloc (.cells #[.int .i64 s.P, .int .i64 s.Q, .int .i64 s.G, .slice ad s.bases.length sc, .int .i64 s.blind] 26)).alloc (.cells #[.int .i64 t.version, .string ⟨t.question.toArray⟩, .slice ta tn tc, .int .i64 t.most, .slice ra rn rc, .int .i64 t.dare, .int .i64 t.quorum, .int .i64 t.jurors] 30)).alloc (.cells #[.int .i64 x.juror, .int .i64 x.version, .int .i64 x.gate, .int .i64 x.no, .string ⟨x.reason.toArray⟩, .slice pa pn pc, .int .i64 px, .int .i64 py] 35)).alloc (.cells #[.int .i64 o.version, .int .i64 o.gate, .int .i64 o.no, .string ⟨o.reason.toArray⟩, .slice ja o.jurors.length jc, .int .i64 o.holder] 37) = W := ⟨_, rfl⟩
  have hkW : Kept [] w W := hW ▸ ((((Kept.refl [] w).alloc _).alloc _).alloc _).alloc _
  have hbS : Blk W (w.heap.size) 26 #[.int .i64 s.P, .int .i64 s.Q, .int .i64 s.G, .slice ad s.bases.length sc, .int .i64 s.blind] := by
    have h := Blk.new w 26 #[.int .i64 s.P, .int .i64 s.Q, .int .i64 s.G, .slice ad s.bases.length sc, .int .i64 s.blind]
    exact hW ▸ (((h).alloc _).alloc _).alloc _
  have hbT : Blk W (w.heap.size + 1) 30 #[.int .i64 t.version, .string ⟨t.question.toArray⟩, .slice ta tn tc, .int .i64 t.most, .slice ra rn rc, .int .i64 t.dare, .int .i64 t.quorum, .int .i64 t.jurors] := by
    have h := Blk.new (w.alloc (.cells #[.int .i64 s.P, .int .i64 s.Q, .int .i64 s.G, .slice ad s.bases.length sc, .int .i64 s.blind] 26)) 30 #[.int .i64 t.version, .string ⟨t.question.toArray⟩, .slice ta tn tc, .int .i64 t.most, .slice ra rn rc, .int .i64 t.dare, .int .i64 t.quorum, .int .i64 t.jurors]
    rw [World.size_alloc] at h
    exact hW ▸ ((h).alloc _).alloc _
  have hbV : Blk W (w.heap.size + 1 + 1) 35 #[.int .i64 x.juror, .int .i64 x.version, .int .i64 x.gate, .int .i64 x.no, .string ⟨x.reason.toArray⟩, .slice pa pn pc, .int .i64 px, .int .i64 py] := by
    have h := Blk.new ((w.alloc (.cells #[.int .i64 s.P, .int .i64 s.Q, .int .i64 s.G, .slice ad s.bases.length sc, .int .i64 s.blind] 26)).alloc (.cells #[.int .i64 t.version, .string ⟨t.question.toArray⟩, .slice ta tn tc, .int .i64 t.most, .slice ra rn rc, .int .i64 t.dare, .int .i64 t.quorum, .int .i64 t.jurors] 30)) 35 #[.int .i64 x.juror, .int .i64 x.version, .int .i64 x.gate, .int .i64 x.no, .string ⟨x.reason.toArray⟩, .slice pa pn pc, .int .i64 px, .int .i64 py]
    rw [World.size_alloc, World.size_alloc] at h
    exact hW ▸ (h).alloc _
  have hbO : Blk W (w.heap.size + 1 + 1 + 1) 37 #[.int .i64 o.version, .int .i64 o.gate, .int .i64 o.no, .string ⟨o.reason.toArray⟩, .slice ja o.jurors.length jc, .int .i64 o.holder] := by
    have h := Blk.new (((w.alloc (.cells #[.int .i64 s.P, .int .i64 s.Q, .int .i64 s.G, .slice ad s.bases.length sc, .int .i64 s.blind] 26)).alloc (.cells #[.int .i64 t.version, .string ⟨t.question.toArray⟩, .slice ta tn tc, .int .i64 t.most, .slice ra rn rc, .int .i64 t.dare, .int .i64 t.quorum, .int .i64 t.jurors] 30)).alloc (.cells #[.int .i64 x.juror, .int .i64 x.version, .int .i64 x.gate, .int .i64 x.no, .string ⟨x.reason.toArray⟩, .slice pa pn pc, .int .i64 px, .int .i64 py] 35)) 37 #[.int .i64 o.version, .int .i64 o.gate, .int .i64 o.no, .string ⟨o.reason.toArray⟩, .slice ja o.jurors.length jc, .int .i64 o.holder]
    rw [World.size_alloc, World.size_alloc, World.size_alloc] at h
    exact hW ▸ h
  have KS0 : Hid (∀ w', Kept [] W w' → w'.cell? ⟨w.heap.size, 0, none⟩ = some (.int .i64 s.P)) := Kept.cellOf (hbS.cell 0)
  have KS1 : Hid (∀ w', Kept [] W w' → w'.cell? ⟨w.heap.size, 1, none⟩ = some (.int .i64 s.Q)) := Kept.cellOf (hbS.cell 1)
  have KS2 : Hid (∀ w', Kept [] W w' → w'.cell? ⟨w.heap.size, 2, none⟩ = some (.int .i64 s.G)) := Kept.cellOf (hbS.cell 2)
  have KS3 : Hid (∀ w', Kept [] W w' → w'.cell? ⟨w.heap.size, 3, none⟩ = some (.slice ad s.bases.length sc)) := Kept.cellOf (hbS.cell 3)
  have KS4 : Hid (∀ w', Kept [] W w' → w'.cell? ⟨w.heap.size, 4, none⟩ = some (.int .i64 s.blind)) := Kept.cellOf (hbS.cell 4)
  have KT0 : Hid (∀ w', Kept [] W w' → w'.cell? ⟨w.heap.size + 1, 0, none⟩ = some (.int .i64 t.version)) := Kept.cellOf (hbT.cell 0)
  have KT1 : Hid (∀ w', Kept [] W w' → w'.cell? ⟨w.heap.size + 1, 1, none⟩ = some (.string ⟨t.question.toArray⟩)) := Kept.cellOf (hbT.cell 1)
  have KT2 : Hid (∀ w', Kept [] W w' → w'.cell? ⟨w.heap.size + 1, 2, none⟩ = some (.slice ta tn tc)) := Kept.cellOf (hbT.cell 2)
  have KT3 : Hid (∀ w', Kept [] W w' → w'.cell? ⟨w.heap.size + 1, 3, none⟩ = some (.int .i64 t.most)) := Kept.cellOf (hbT.cell 3)
  have KT4 : Hid (∀ w', Kept [] W w' → w'.cell? ⟨w.heap.size + 1, 4, none⟩ = some (.slice ra rn rc)) := Kept.cellOf (hbT.cell 4)
  have KT5 : Hid (∀ w', Kept [] W w' → w'.cell? ⟨w.heap.size + 1, 5, none⟩ = some (.int .i64 t.dare)) := Kept.cellOf (hbT.cell 5)
  have KT6 : Hid (∀ w', Kept [] W w' → w'.cell? ⟨w.heap.size + 1, 6, none⟩ = some (.int .i64 t.quorum)) := Kept.cellOf (hbT.cell 6)
  have KT7 : Hid (∀ w', Kept [] W w' → w'.cell? ⟨w.heap.size + 1, 7, none⟩ = some (.int .i64 t.jurors)) := Kept.cellOf (hbT.cell 7)
  have KV0 : Hid (∀ w', Kept [] W w' → w'.cell? ⟨w.heap.size + 1 + 1, 0, none⟩ = some (.int .i64 x.juror)) := Kept.cellOf (hbV.cell 0)
  have KV1 : Hid (∀ w', Kept [] W w' → w'.cell? ⟨w.heap.size + 1 + 1, 1, none⟩ = some (.int .i64 x.version)) := Kept.cellOf (hbV.cell 1)
  have KV2 : Hid (∀ w', Kept [] W w' → w'.cell? ⟨w.heap.size + 1 + 1, 2, none⟩ = some (.int .i64 x.gate)) := Kept.cellOf (hbV.cell 2)
  have KV3 : Hid (∀ w', Kept [] W w' → w'.cell? ⟨w.heap.size + 1 + 1, 3, none⟩ = some (.int .i64 x.no)) := Kept.cellOf (hbV.cell 3)
  have KV4 : Hid (∀ w', Kept [] W w' → w'.cell? ⟨w.heap.size + 1 + 1, 4, none⟩ = some (.string ⟨x.reason.toArray⟩)) := Kept.cellOf (hbV.cell 4)
  have KV5 : Hid (∀ w', Kept [] W w' → w'.cell? ⟨w.heap.size + 1 + 1, 5, none⟩ = some (.slice pa pn pc)) := Kept.cellOf (hbV.cell 5)
  have KV6 : Hid (∀ w', Kept [] W w' → w'.cell? ⟨w.heap.size + 1 + 1, 6, none⟩ = some (.int .i64 px)) := Kept.cellOf (hbV.cell 6)
  have KV7 : Hid (∀ w', Kept [] W w' → w'.cell? ⟨w.heap.size + 1 + 1, 7, none⟩ = some (.int .i64 py)) := Kept.cellOf (hbV.cell 7)
  have KO0 : Hid (∀ w', Kept [] W w' → w'.cell? ⟨w.heap.size + 1 + 1 + 1, 0, none⟩ = some (.int .i64 o.version)) := Kept.cellOf (hbO.cell 0)
  have KO1 : Hid (∀ w', Kept [] W w' → w'.cell? ⟨w.heap.size + 1 + 1 + 1, 1, none⟩ = some (.int .i64 o.gate)) := Kept.cellOf (hbO.cell 1)
  have KO2 : Hid (∀ w', Kept [] W w' → w'.cell? ⟨w.heap.size + 1 + 1 + 1, 2, none⟩ = some (.int .i64 o.no)) := Kept.cellOf (hbO.cell 2)
  have KO3 : Hid (∀ w', Kept [] W w' → w'.cell? ⟨w.heap.size + 1 + 1 + 1, 3, none⟩ = some (.string ⟨o.reason.toArray⟩)) := Kept.cellOf (hbO.cell 3)
  have KO4 : Hid (∀ w', Kept [] W w' → w'.cell? ⟨w.heap.size + 1 + 1 + 1, 4, none⟩ = some (.slice ja o.jurors.length jc)) := Kept.cellOf (hbO.cell 4)
  have KO5 : Hid (∀ w', Kept [] W w' → w'.cell? ⟨w.heap.size + 1 + 1 + 1, 5, none⟩ = some (.int .i64 o.holder)) := Kept.cellOf (hbO.cell 5)
  have HSV := Lib.hid (hs.kept hkW)
  have HLV := Lib.hid (hl.kept hkW)
  have HTV := Lib.hid (ht.kept hkW)
  have HVV := Lib.hid (hv.kept hkW)
  have HOV := Lib.hid (ho.kept hkW)
  have HPR := Lib.hid (hpr.kept hkW)
  have HE := Lib.hid (hE.kept0 hkW)
  have HN := Lib.hid (sane_any W (hE.kept0 hkW).toEnv)
  have HW := Lib.hid hW
  have HLL := Lib.hid hll
  have HPN := Lib.hid hpn
  have HTN := Lib.hid htn
  have HRN := Lib.hid hrn
  clear hbS hbT hbV hbO hW hsr hlrow hpr hjs hs hl ht hv ho hE hll hpn htn hrn
  go_enter Tryz.func3, Tryz.ntmps3
  go_wp2_with fail
  have hW' : (((w.alloc (.cells #[.int .i64 s.P, .int .i64 s.Q, .int .i64 s.G, .slice ad s.bases.length sc, .int .i64 s.blind] 26)).alloc (.cells #[.int .i64 t.version, .string ⟨t.question.toArray⟩, .slice ta tn tc, .int .i64 t.most, .slice ra rn rc, .int .i64 t.dare, .int .i64 t.quorum, .int .i64 t.jurors] 30)).alloc (.cells #[.int .i64 x.juror, .int .i64 x.version, .int .i64 x.gate, .int .i64 x.no, .string ⟨x.reason.toArray⟩, .slice pa pn pc, .int .i64 px, .int .i64 py] 35)).alloc (.cells #[.int .i64 o.version, .int .i64 o.gate, .int .i64 o.no, .string ⟨o.reason.toArray⟩, .slice ja o.jurors.length jc, .int .i64 o.holder] 37) = W := HW.out
  rw [hW']
  clear hW'
  go_wp2_with (go_at_call 5; refine HN.out.mono ?_)
  rintro e w1 ⟨rfl, hk1⟩
  clear HN
  have FS : Hid (∀ w', Kept [] W w' → Calls Tryz.prog 6 #[.slice la l.length lc] w' fun e w2 => e = .returned (.bool (fewS l)) ∧ w' = w2) := fun w' kk => few_any _ l w' (HLV.out.kept kk) HLL.out
  cases hf1 : fewS l
  · rw [hf1] at FS
    clear hf1
    go_wp2_with (go_at_call 6; refine (FS.out w1 hk1).mono ?_; rintro e w' ⟨rfl, rfl⟩)
    go_ret
    exact ⟨rfl, hkW.trans hk1⟩
  rw [hf1] at FS
  obtain ⟨hsh, hl18⟩ := fewS_short hf1
  have HSH := Lib.hid hsh
  clear hf1 hsh
  have t0 := KT0.out w1 hk1
  have t1 := KT1.out w1 hk1
  have t2 := KT2.out w1 hk1
  have t3 := KT3.out w1 hk1
  have t4 := KT4.out w1 hk1
  have t5 := KT5.out w1 hk1
  have t6 := KT6.out w1 hk1
  have t7 := KT7.out w1 hk1
  have FT : Hid (Calls Tryz.prog 7 #[.agg #[.int .i64 t.version, .string ⟨t.question.toArray⟩, .slice ta tn tc, .int .i64 t.most, .slice ra rn rc, .int .i64 t.dare, .int .i64 t.quorum, .int .i64 t.jurors]] w1 (FewRet (FewT t) w1)) := fewTask_any t _ _ w1 (HTV.out.kept hk1) hq HPN.out
  go_wp2_with (first
    | (go_at_call 6; refine (FS.out w1 hk1).mono ?_; rintro e w' ⟨rfl, rfl⟩)
    | (go_at_call 7; refine FT.out.mono ?_))
  rintro e w2 ⟨f2, rfl, _, hkx⟩
  have hk2 := hk1.trans hkx
  clear hkx FS FT
  clear t0 t1 t2 t3 t4 t5 t6 t7
  cases f2
  · go_wp2_with fail
    go_ret
    exact ⟨rfl, hkW.trans hk2⟩
  have v0 := KV0.out w2 hk2
  have v1 := KV1.out w2 hk2
  have v2 := KV2.out w2 hk2
  have v3 := KV3.out w2 hk2
  have v4 := KV4.out w2 hk2
  have v5 := KV5.out w2 hk2
  have v6 := KV6.out w2 hk2
  have v7 := KV7.out w2 hk2
  have FV : Hid (Calls Tryz.prog 8 #[.slice (some ⟨w2.heap.size, 0, none⟩) 1 1, .int .i64 1] (w2.alloc (.cells #[.int .i64 x.juror, .int .i64 x.version, .int .i64 x.gate, .int .i64 x.no, .string ⟨x.reason.toArray⟩, .slice pa pn pc, .int .i64 px, .int .i64 py] 35)) fun e w' => e = .returned (.bool (fewV [x] 1)) ∧ Kept [] W w') :=
    (fewVotes_any _ [x] 1 _ (VotesV.one (HPR.out.kept hk2) 35) (by decide) (by intro y hy; simp at hy; subst hy; exact hxl)).mono fun e w' ⟨he, hw⟩ => ⟨he, hw ▸ hk2.alloc _⟩
  cases hf3 : fewV [x] 1
  · rw [hf3] at FV
    clear hf3
    go_wp2_with (go_at_call 8; refine FV.out.mono ?_)
    rintro e w3 ⟨rfl, hk3⟩
    go_wp2_with fail
    go_ret
    exact ⟨rfl, hkW.trans hk3⟩
  rw [hf3] at FV
  obtain ⟨hxp, hxr⟩ := fewV1_facts hf3
  clear hf3
  go_wp2_with (go_at_call 8; refine FV.out.mono ?_)
  rintro e w3 ⟨rfl, hk3⟩
  clear FV
  clear v0 v1 v2 v3 v4 v5 v6 v7
  have s3 := KS3.out w3 hk3
  have o3 := KO3.out w3 hk3
  have o4 := KO4.out w3 hk3
  by_cases c1 : 9 < s.bases.length
  · go_wp2_with fail
    go_ret
    exact ⟨rfl, hkW.trans hk3⟩
  by_cases c2 : 20 < o.jurors.length
  · go_wp2_with fail
    go_ret
    exact ⟨rfl, hkW.trans hk3⟩
  by_cases c3 : 60 < o.reason.length
  · go_wp2_with fail
    go_ret
    exact ⟨rfl, hkW.trans hk3⟩
  by_cases c4 : 300 < tx.length
  · go_wp2_with fail
    go_ret
    exact ⟨rfl, hkW.trans hk3⟩
  have b1 : s.bases.length ≤ 9 := by omega
  have b2 : o.jurors.length ≤ 20 := by omega
  have b3 : o.reason.length ≤ 60 := by omega
  have b4 : tx.length ≤ 300 := by omega
  clear c1 c2 c3 c4
  go_wp2_with fail
  clear s3
  clear o3 o4
  go_loopw [18] (fun i wr => ∃ k : Nat, k ≤ l.length ∧ i = .int .i64 k ∧ Kept [] W wr) (fun i _ => l.length - (intOf i).toNat)
  case atStart => exact ⟨0, Nat.zero_le _, rfl, hk3⟩
  case round =>
    obtain ⟨j, hj, rfl, hkr⟩ := hrel
    by_cases hlt : j < l.length
    · obtain ⟨X, hX⟩ : ∃ X, l[j]? = some X := ⟨_, List.getElem?_eq_getElem hlt⟩
      obtain ⟨b, off, xa, xc, ya, yc, rfl, x0, x1, x2, hst⟩ := (HLV.out.kept hkr).at_ hX
      have hXm := HSH.out X (List.mem_of_getElem? hX)
      have V1 : Hid (∀ w', Kept [] wr w' → Calls Tryz.prog 9 #[.agg #[.slice xa X.reasons.length xc, .int .i64 X.quorum, .slice ya X.weights.length yc]] w' fun e w2 => e = .returned (.bool (validS X)) ∧ Kept [] w' w2) := fun w' kk => valid_any _ X w' (hst.kept kk) hXm
      have V2 : Hid (∀ w', Kept [] wr w' → Calls Tryz.prog 10 #[.agg #[.slice xa X.reasons.length xc, .int .i64 X.quorum, .slice ya X.weights.length yc]] w' fun e w2 => e = .returned (.bool (validS X)) ∧ Kept [] w' w2) := fun w' kk => rvalid_st _ X w' (hst.kept kk) hXm
      have S1 : Hid (∀ w', Kept [] wr w' → Calls Tryz.prog 12 #[.agg #[.slice xa X.reasons.length xc, .int .i64 X.quorum, .slice ya X.weights.length yc], .int .i64 a] w' (NewInts (seats X a) w')) := fun w' kk => seats_any _ X a w' (hst.kept kk) hXm
      have S2 : Hid (∀ w', Kept [] wr w' → Calls Tryz.prog 13 #[.agg #[.slice xa X.reasons.length xc, .int .i64 X.quorum, .slice ya X.weights.length yc], .int .i64 a] w' (NewInts (seats X a) w')) := fun w' kk => rseats_any _ X a w' (hst.kept kk) hXm
      have hL12 := seats_len X a
      obtain ⟨L, hL⟩ : ∃ L, seats X a = L := ⟨_, rfl⟩
      obtain ⟨vb, hvb⟩ : ∃ vb, validS X = vb := ⟨_, rfl⟩
      rw [hvb] at V1 V2
      rw [hL] at S1 S2 hL12
      have q0 : ∀ w', Kept [] wr w' → w'.cell? ⟨b, off + j * 3, none⟩ = some (.slice xa X.reasons.length xc) := Kept.cellOf x0
      have q1 : ∀ w', Kept [] wr w' → w'.cell? ⟨b, off + j * 3 + 1, none⟩ = some (.int .i64 X.quorum) := Kept.cellOf x1
      have q2 : ∀ w', Kept [] wr w' → w'.cell? ⟨b, off + j * 3 + 2, none⟩ = some (.slice ya X.weights.length yc) := Kept.cellOf x2
      have e1 : (vb != vb) = false := by simp
      have bj : (j : Int) < (l.length : Int) := by omega
      clear hX hst hXm hL hvb x0 x1 x2
      go_upto_region 7 with (fail)
      go_region_held3 (fun w' => Kept [] wr w') (first | (with_reducible assumption) | exact (Kept.refl _ _).drew)
        (first
          | (go_at_call 9; with_reducible refine (V1.out _ (by first | (with_reducible assumption) | exact (Kept.refl _ _).drew)).mono ?_; rintro e wa ⟨rfl, hkx⟩; have hka : Kept [] wr wa := Kept.trans (by first | (with_reducible assumption) | exact (Kept.refl _ _).drew) hkx)
          | (go_at_call 10; with_reducible refine (V2.out _ (by first | (with_reducible assumption) | exact (Kept.refl _ _).drew)).mono ?_; rintro e wb ⟨rfl, hkx⟩; have hkb : Kept [] wr wb := Kept.trans (by first | (with_reducible assumption) | exact (Kept.refl _ _).drew) hkx)
          | (go_at_call 12; (with_reducible refine (S1.out _ (by first | (with_reducible assumption) | exact (Kept.refl _ _).drew)).mono ?_); rintro e wc ⟨v5, rfl, ho5, hkx⟩; have hkc : Kept [] wr wc := Kept.trans (by first | (with_reducible assumption) | exact (Kept.refl _ _).drew) hkx; have hr5 := Row.of_own ho5 (by omega))
          | (go_at_call 13; (with_reducible refine (S2.out _ (by first | (with_reducible assumption) | exact (Kept.refl _ _).drew)).mono ?_); rintro e wd ⟨v6, rfl, ho6, hkx⟩; have hkd : Kept [] wr wd := Kept.trans (by first | (with_reducible assumption) | exact (Kept.refl _ _).drew) hkx; have hr6 := Row.of_own ho6 (by omega); have hr7 := hr5.kept hkx)
          | (go_at_call 11; refine (sameNums_any v5 v6 L L _ hr7 hr6).mono ?_; rw [decide_eq_true rfl]; rintro e we ⟨rfl, hkx⟩; have hke : Kept [] wr we := hkd.trans hkx)
          | fail)
      clear q0 q1 q2
      go_wp2_with fail
      go_roundw
      case rel => exact ⟨j + 1, by omega, by go_num, hkr.trans hke⟩
      case measure => simp [intOf]; omega
    · obtain rfl : j = l.length := by omega
      obtain ⟨⟨y, yc, ys, yt⟩, hcast⟩ : ∃ r, castN s a k x = r := ⟨_, rfl⟩
      obtain ⟨z, zt, hzt⟩ : ∃ z zt, readMinutes tx = (z, zt) := ⟨_, _, rfl⟩
      obtain ⟨hyr, hyp⟩ := cast_small hcast (by omega) (by omega)
      have CP : Hid (∀ w', Kept [] W w' → Calls Tryz.prog 14 #[.agg #[.int .i64 s.P, .int .i64 s.Q, .int .i64 s.G, .slice ad s.bases.length sc, .int .i64 s.blind], .int .i64 a, .int .i64 k, .agg #[.int .i64 x.juror, .int .i64 x.version, .int .i64 x.gate, .int .i64 x.no, .string ⟨x.reason.toArray⟩, .slice pa pn pc, .int .i64 px, .int .i64 py]] w' (CastS y yc ys yt w')) := fun w' kk => cast_of (cast_any _ _ s a k x w' (HSV.out.kept kk) (HVV.out.kept kk) ia ik (by omega) (by omega) (HE.out.kept0 kk)) hcast
      have CR : Hid (∀ w', Kept [] W w' → Calls Tryz.prog 15 #[.agg #[.int .i64 s.P, .int .i64 s.Q, .int .i64 s.G, .slice ad s.bases.length sc, .int .i64 s.blind], .int .i64 a, .int .i64 k, .agg #[.int .i64 x.juror, .int .i64 x.version, .int .i64 x.gate, .int .i64 x.no, .string ⟨x.reason.toArray⟩, .slice pa pn pc, .int .i64 px, .int .i64 py]] w' (CastS y yc ys yt w')) := fun w' kk => cast_of (rcast_any _ _ s a k x w' (HSV.out.kept kk) (HVV.out.kept kk) ia ik (by omega) (by omega)) hcast
      have RP : Hid (∀ w', Kept [] W w' → Calls Tryz.prog 16 #[.string ⟨tx.toArray⟩] w' (RMS z zt w')) := fun w' kk => rms_of (readMinutes_any tx w' (HE.out.kept0 kk).toEnv (by omega)) hzt
      have RR : Hid (∀ w', Kept [] W w' → Calls Tryz.prog 17 #[.string ⟨tx.toArray⟩] w' (RMS z zt w')) := fun w' kk => rms_of (rreadMinutes_any tx w' (HE.out.kept0 kk).toEnv (by omega)) hzt
      clear hcast hzt
      go_upto_region 9 with (fail)
      have s0 := KS0.out wr hkr
      have s1 := KS1.out wr hkr
      have s2 := KS2.out wr hkr
      have s3 := KS3.out wr hkr
      have s4 := KS4.out wr hkr
      have v0 := KV0.out wr hkr
      have v1 := KV1.out wr hkr
      have v2 := KV2.out wr hkr
      have v3 := KV3.out wr hkr
      have v4 := KV4.out wr hkr
      have v5 := KV5.out wr hkr
      have v6 := KV6.out wr hkr
      have v7 := KV7.out wr hkr
      go_wp2_with (go_at_call 14; refine (CP.out wr hkr).mono ?_)
      rintro e w4 ⟨a1, n1, m1, rfl, hv1, hkx⟩
      have K4 := hkr.trans hkx
      clear hkx CP
      clear s0 s1 s2 s3 s4
      clear v0 v1 v2 v3 v4 v5 v6 v7
      go_upto_region 10 with (fail)
      obtain ⟨A, hA⟩ : ∃ A, w4.alloc (.cells #[.int .i64 y.juror, .int .i64 y.version, .int .i64 y.gate, .int .i64 y.no, .string ⟨y.reason.toArray⟩, .slice a1 n1 m1, .int .i64 yc, .int .i64 ys] 35) = A := ⟨_, rfl⟩
      have kxA : Kept [] w4 A := hA ▸ (Kept.refl [] w4).alloc _
      have hbA : Blk A w4.heap.size 35 #[.int .i64 y.juror, .int .i64 y.version, .int .i64 y.gate, .int .i64 y.no, .string ⟨y.reason.toArray⟩, .slice a1 n1 m1, .int .i64 yc, .int .i64 ys] := hA ▸ Blk.new w4 _ _
      rw [hA]
      have KA : Kept [] W A := K4.trans kxA
      have HBA := Lib.hid hbA
      clear hA hbA
      have s0 := KS0.out A KA
      have s1 := KS1.out A KA
      have s2 := KS2.out A KA
      have s3 := KS3.out A KA
      have s4 := KS4.out A KA
      have v0 := KV0.out A KA
      have v1 := KV1.out A KA
      have v2 := KV2.out A KA
      have v3 := KV3.out A KA
      have v4 := KV4.out A KA
      have v5 := KV5.out A KA
      have v6 := KV6.out A KA
      have v7 := KV7.out A KA
      have HV1 := Lib.hid (hv1.kept kxA)
      clear hv1
      go_wp2_with (go_at_call 15; refine (CR.out A KA).mono ?_)
      rintro e w5 ⟨a2, n2, m2, rfl, hv2, hkA5⟩
      have K5 := KA.trans hkA5
      clear CR
      clear s0 s1 s2 s3 s4
      clear v0 v1 v2 v3 v4 v5 v6 v7
      go_upto_region 11 with (fail)
      obtain ⟨B, hB⟩ : ∃ B, w5.alloc (.cells #[.int .i64 y.juror, .int .i64 y.version, .int .i64 y.gate, .int .i64 y.no, .string ⟨y.reason.toArray⟩, .slice a2 n2 m2, .int .i64 yc, .int .i64 ys] 35) = B := ⟨_, rfl⟩
      have kxB : Kept [] w5 B := hB ▸ (Kept.refl [] w5).alloc _
      have hbB : Blk B w5.heap.size 35 #[.int .i64 y.juror, .int .i64 y.version, .int .i64 y.gate, .int .i64 y.no, .string ⟨y.reason.toArray⟩, .slice a2 n2 m2, .int .i64 yc, .int .i64 ys] := hB ▸ Blk.new w5 _ _
      rw [hB]
      have KB : Kept [] W B := K5.trans kxB
      have HBB := Lib.hid hbB
      clear hB hbB
      have HV2 := Lib.hid (hv2.kept kxB)
      clear hv2
      go_wp2_with (go_at_call 16; refine (RP.out B KB).mono ?_)
      rintro e w6 ⟨z1, zc1, rfl, ho1, hkB6⟩
      have K6 := KB.trans hkB6
      clear RP
      go_upto_region 12 with (fail)
      obtain ⟨C, hC⟩ : ∃ C, w6.alloc (.cells #[.int .i64 z.version, .int .i64 z.gate, .int .i64 z.no, .string ⟨z.reason.toArray⟩, .slice z1 z.jurors.length zc1, .int .i64 z.holder] 37) = C := ⟨_, rfl⟩
      have kxC : Kept [] w6 C := hC ▸ (Kept.refl [] w6).alloc _
      have hbC : Blk C w6.heap.size 37 #[.int .i64 z.version, .int .i64 z.gate, .int .i64 z.no, .string ⟨z.reason.toArray⟩, .slice z1 z.jurors.length zc1, .int .i64 z.holder] := hC ▸ Blk.new w6 _ _
      rw [hC]
      have KC : Kept [] W C := K6.trans kxC
      have HBC := Lib.hid hbC
      clear hC hbC
      have HO1 := Lib.hid (ho1.kept kxC)
      clear ho1
      go_wp2_with (go_at_call 17; refine (RR.out C KC).mono ?_)
      rintro e w7 ⟨z2, zc2, rfl, ho2, hkC7⟩
      have K7 := KC.trans hkC7
      clear RR
      go_upto_region 13 with (fail)
      obtain ⟨D, hD⟩ : ∃ D, w7.alloc (.cells #[.int .i64 z.version, .int .i64 z.gate, .int .i64 z.no, .string ⟨z.reason.toArray⟩, .slice z2 z.jurors.length zc2, .int .i64 z.holder] 37) = D := ⟨_, rfl⟩
      have kxD : Kept [] w7 D := hD ▸ (Kept.refl [] w7).alloc _
      have hbD : Blk D w7.heap.size 37 #[.int .i64 z.version, .int .i64 z.gate, .int .i64 z.no, .string ⟨z.reason.toArray⟩, .slice z2 z.jurors.length zc2, .int .i64 z.holder] := hD ▸ Blk.new w7 _ _
      rw [hD]
      have KD : Kept [] W D := K7.trans kxD
      have HBD := Lib.hid hbD
      clear hD hbD
      have HO2 := Lib.hid (ho2.kept kxD)
      clear ho2
      have kCD : Kept [] C D := hkC7.trans kxD
      have kBD : Kept [] B D := (hkB6.trans kxC).trans kCD
      have kAD : Kept [] A D := (hkA5.trans kxB).trans kBD
      have e1 : (yt != yt) = false := by simp
      have e2 : (zt != zt) = false := by simp
      have r0 : D.cell? ⟨w4.heap.size, 0, none⟩ = some (.int .i64 y.juror) := (HBA.out.kept kAD (by simp)).cell 0
      have r1 : D.cell? ⟨w4.heap.size, 1, none⟩ = some (.int .i64 y.version) := (HBA.out.kept kAD (by simp)).cell 1
      have r2 : D.cell? ⟨w4.heap.size, 2, none⟩ = some (.int .i64 y.gate) := (HBA.out.kept kAD (by simp)).cell 2
      have r3 : D.cell? ⟨w4.heap.size, 3, none⟩ = some (.int .i64 y.no) := (HBA.out.kept kAD (by simp)).cell 3
      have r4 : D.cell? ⟨w4.heap.size, 4, none⟩ = some (.string ⟨y.reason.toArray⟩) := (HBA.out.kept kAD (by simp)).cell 4
      have r5 : D.cell? ⟨w4.heap.size, 5, none⟩ = some (.slice a1 n1 m1) := (HBA.out.kept kAD (by simp)).cell 5
      have r6 : D.cell? ⟨w4.heap.size, 6, none⟩ = some (.int .i64 yc) := (HBA.out.kept kAD (by simp)).cell 6
      have r7 : D.cell? ⟨w4.heap.size, 7, none⟩ = some (.int .i64 ys) := (HBA.out.kept kAD (by simp)).cell 7
      have u0 : D.cell? ⟨w5.heap.size, 0, none⟩ = some (.int .i64 y.juror) := (HBB.out.kept kBD (by simp)).cell 0
      have u1 : D.cell? ⟨w5.heap.size, 1, none⟩ = some (.int .i64 y.version) := (HBB.out.kept kBD (by simp)).cell 1
      have u2 : D.cell? ⟨w5.heap.size, 2, none⟩ = some (.int .i64 y.gate) := (HBB.out.kept kBD (by simp)).cell 2
      have u3 : D.cell? ⟨w5.heap.size, 3, none⟩ = some (.int .i64 y.no) := (HBB.out.kept kBD (by simp)).cell 3
      have u4 : D.cell? ⟨w5.heap.size, 4, none⟩ = some (.string ⟨y.reason.toArray⟩) := (HBB.out.kept kBD (by simp)).cell 4
      have u5 : D.cell? ⟨w5.heap.size, 5, none⟩ = some (.slice a2 n2 m2) := (HBB.out.kept kBD (by simp)).cell 5
      have u6 : D.cell? ⟨w5.heap.size, 6, none⟩ = some (.int .i64 yc) := (HBB.out.kept kBD (by simp)).cell 6
      have u7 : D.cell? ⟨w5.heap.size, 7, none⟩ = some (.int .i64 ys) := (HBB.out.kept kBD (by simp)).cell 7
      have SV : Hid (Calls Tryz.prog 18 #[.agg #[.int .i64 y.juror, .int .i64 y.version, .int .i64 y.gate, .int .i64 y.no, .string ⟨y.reason.toArray⟩, .slice a1 n1 m1, .int .i64 yc, .int .i64 ys], .agg #[.int .i64 y.juror, .int .i64 y.version, .int .i64 y.gate, .int .i64 y.no, .string ⟨y.reason.toArray⟩, .slice a2 n2 m2, .int .i64 yc, .int .i64 ys]] D fun e w' => e = .returned (.bool true) ∧ Kept [] D w') := rsameVote_any _ _ y yc ys D (HV1.out.kept kAD) (HV2.out.kept kBD) hyr hyp
      go_wp2_with (go_at_call 18; refine SV.out.mono ?_)
      rintro e w8 ⟨rfl, hkD8⟩
      have K8 := KD.trans hkD8
      clear SV
      clear r0 r1 r2 r3 r4 r5 r6 r7
      clear u0 u1 u2 u3 u4 u5 u6 u7
      have r0 : w8.cell? ⟨w6.heap.size, 0, none⟩ = some (.int .i64 z.version) := (HBC.out.kept (kCD.trans hkD8) (by simp)).cell 0
      have r1 : w8.cell? ⟨w6.heap.size, 1, none⟩ = some (.int .i64 z.gate) := (HBC.out.kept (kCD.trans hkD8) (by simp)).cell 1
      have r2 : w8.cell? ⟨w6.heap.size, 2, none⟩ = some (.int .i64 z.no) := (HBC.out.kept (kCD.trans hkD8) (by simp)).cell 2
      have r3 : w8.cell? ⟨w6.heap.size, 3, none⟩ = some (.string ⟨z.reason.toArray⟩) := (HBC.out.kept (kCD.trans hkD8) (by simp)).cell 3
      have r4 : w8.cell? ⟨w6.heap.size, 4, none⟩ = some (.slice z1 z.jurors.length zc1) := (HBC.out.kept (kCD.trans hkD8) (by simp)).cell 4
      have r5 : w8.cell? ⟨w6.heap.size, 5, none⟩ = some (.int .i64 z.holder) := (HBC.out.kept (kCD.trans hkD8) (by simp)).cell 5
      have u0 : w8.cell? ⟨w7.heap.size, 0, none⟩ = some (.int .i64 z.version) := (HBD.out.kept hkD8 (by simp)).cell 0
      have u1 : w8.cell? ⟨w7.heap.size, 1, none⟩ = some (.int .i64 z.gate) := (HBD.out.kept hkD8 (by simp)).cell 1
      have u2 : w8.cell? ⟨w7.heap.size, 2, none⟩ = some (.int .i64 z.no) := (HBD.out.kept hkD8 (by simp)).cell 2
      have u3 : w8.cell? ⟨w7.heap.size, 3, none⟩ = some (.string ⟨z.reason.toArray⟩) := (HBD.out.kept hkD8 (by simp)).cell 3
      have u4 : w8.cell? ⟨w7.heap.size, 4, none⟩ = some (.slice z2 z.jurors.length zc2) := (HBD.out.kept hkD8 (by simp)).cell 4
      have u5 : w8.cell? ⟨w7.heap.size, 5, none⟩ = some (.int .i64 z.holder) := (HBD.out.kept hkD8 (by simp)).cell 5
      have SO : Hid (Calls Tryz.prog 19 #[.agg #[.int .i64 z.version, .int .i64 z.gate, .int .i64 z.no, .string ⟨z.reason.toArray⟩, .slice z1 z.jurors.length zc1, .int .i64 z.holder], .agg #[.int .i64 z.version, .int .i64 z.gate, .int .i64 z.no, .string ⟨z.reason.toArray⟩, .slice z2 z.jurors.length zc2, .int .i64 z.holder]] w8 fun e w' => e = .returned (.bool true) ∧ Kept [] w8 w') := by
        have h := same_any _ _ z z w8 (HO1.out.kept (kCD.trans hkD8)) (HO2.out.kept hkD8)
        rw [same_refl] at h
        exact h
      go_wp2_with (go_at_call 19; refine SO.out.mono ?_)
      rintro e w9 ⟨rfl, hkx⟩
      have K9 := K8.trans hkx
      clear SO hkx e1 e2
      clear r0 r1 r2 r3 r4 r5
      clear u0 u1 u2 u3 u4 u5
      have t0 : ∀ w', Kept [] w9 w' → w'.cell? ⟨w.heap.size + 1, 0, none⟩ = some (.int .i64 t.version) := fun w' kk => KT0.out w' (K9.trans kk)
      have t1 : ∀ w', Kept [] w9 w' → w'.cell? ⟨w.heap.size + 1, 1, none⟩ = some (.string ⟨t.question.toArray⟩) := fun w' kk => KT1.out w' (K9.trans kk)
      have t2 : ∀ w', Kept [] w9 w' → w'.cell? ⟨w.heap.size + 1, 2, none⟩ = some (.slice ta tn tc) := fun w' kk => KT2.out w' (K9.trans kk)
      have t3 : ∀ w', Kept [] w9 w' → w'.cell? ⟨w.heap.size + 1, 3, none⟩ = some (.int .i64 t.most) := fun w' kk => KT3.out w' (K9.trans kk)
      have t4 : ∀ w', Kept [] w9 w' → w'.cell? ⟨w.heap.size + 1, 4, none⟩ = some (.slice ra rn rc) := fun w' kk => KT4.out w' (K9.trans kk)
      have t5 : ∀ w', Kept [] w9 w' → w'.cell? ⟨w.heap.size + 1, 5, none⟩ = some (.int .i64 t.dare) := fun w' kk => KT5.out w' (K9.trans kk)
      have t6 : ∀ w', Kept [] w9 w' → w'.cell? ⟨w.heap.size + 1, 6, none⟩ = some (.int .i64 t.quorum) := fun w' kk => KT6.out w' (K9.trans kk)
      have t7 : ∀ w', Kept [] w9 w' → w'.cell? ⟨w.heap.size + 1, 7, none⟩ = some (.int .i64 t.jurors) := fun w' kk => KT7.out w' (K9.trans kk)
      have v0 : ∀ w', Kept [] w9 w' → w'.cell? ⟨w.heap.size + 1 + 1, 0, none⟩ = some (.int .i64 x.juror) := fun w' kk => KV0.out w' (K9.trans kk)
      have v1 : ∀ w', Kept [] w9 w' → w'.cell? ⟨w.heap.size + 1 + 1, 1, none⟩ = some (.int .i64 x.version) := fun w' kk => KV1.out w' (K9.trans kk)
      have v2 : ∀ w', Kept [] w9 w' → w'.cell? ⟨w.heap.size + 1 + 1, 2, none⟩ = some (.int .i64 x.gate) := fun w' kk => KV2.out w' (K9.trans kk)
      have v3 : ∀ w', Kept [] w9 w' → w'.cell? ⟨w.heap.size + 1 + 1, 3, none⟩ = some (.int .i64 x.no) := fun w' kk => KV3.out w' (K9.trans kk)
      have v4 : ∀ w', Kept [] w9 w' → w'.cell? ⟨w.heap.size + 1 + 1, 4, none⟩ = some (.string ⟨x.reason.toArray⟩) := fun w' kk => KV4.out w' (K9.trans kk)
      have v5 : ∀ w', Kept [] w9 w' → w'.cell? ⟨w.heap.size + 1 + 1, 5, none⟩ = some (.slice pa pn pc) := fun w' kk => KV5.out w' (K9.trans kk)
      have v6 : ∀ w', Kept [] w9 w' → w'.cell? ⟨w.heap.size + 1 + 1, 6, none⟩ = some (.int .i64 px) := fun w' kk => KV6.out w' (K9.trans kk)
      have v7 : ∀ w', Kept [] w9 w' → w'.cell? ⟨w.heap.size + 1 + 1, 7, none⟩ = some (.int .i64 py) := fun w' kk => KV7.out w' (K9.trans kk)
      have o0 : ∀ w', Kept [] w9 w' → w'.cell? ⟨w.heap.size + 1 + 1 + 1, 0, none⟩ = some (.int .i64 o.version) := fun w' kk => KO0.out w' (K9.trans kk)
      have o1 : ∀ w', Kept [] w9 w' → w'.cell? ⟨w.heap.size + 1 + 1 + 1, 1, none⟩ = some (.int .i64 o.gate) := fun w' kk => KO1.out w' (K9.trans kk)
      have o2 : ∀ w', Kept [] w9 w' → w'.cell? ⟨w.heap.size + 1 + 1 + 1, 2, none⟩ = some (.int .i64 o.no) := fun w' kk => KO2.out w' (K9.trans kk)
      have o3 : ∀ w', Kept [] w9 w' → w'.cell? ⟨w.heap.size + 1 + 1 + 1, 3, none⟩ = some (.string ⟨o.reason.toArray⟩) := fun w' kk => KO3.out w' (K9.trans kk)
      have o4 : ∀ w', Kept [] w9 w' → w'.cell? ⟨w.heap.size + 1 + 1 + 1, 4, none⟩ = some (.slice ja o.jurors.length jc) := fun w' kk => KO4.out w' (K9.trans kk)
      have o5 : ∀ w', Kept [] w9 w' → w'.cell? ⟨w.heap.size + 1 + 1 + 1, 5, none⟩ = some (.int .i64 o.holder) := fun w' kk => KO5.out w' (K9.trans kk)
      have HOV2 : Hid (OpenV W (.agg #[.int .i64 o.version, .int .i64 o.gate, .int .i64 o.no, .string ⟨o.reason.toArray⟩, .slice ja o.jurors.length jc, .int .i64 o.holder]) o) := HOV.out.v (by omega) (by omega)
      have G1 : Hid (∀ w', Kept [] w9 w' → Calls Tryz.prog 20 #[.slice la l.length lc, .agg #[.int .i64 t.version, .string ⟨t.question.toArray⟩, .slice ta tn tc, .int .i64 t.most, .slice ra rn rc, .int .i64 t.dare, .int .i64 t.quorum, .int .i64 t.jurors]] w' fun e w2 => e = .returned (.bool (governing l t.version t.quorum t.jurors).2) ∧ Kept [] w' w2) := fun w' kk => governs_any _ l t.version t.quorum t.jurors t.most t.dare _ _ _ w' (HLV.out.kept (K9.trans kk)) HSH.out
      have G2 : Hid (∀ w', Kept [] w9 w' → Calls Tryz.prog 21 #[.slice la l.length lc, .agg #[.int .i64 t.version, .string ⟨t.question.toArray⟩, .slice ta tn tc, .int .i64 t.most, .slice ra rn rc, .int .i64 t.dare, .int .i64 t.quorum, .int .i64 t.jurors]] w' fun e w2 => e = .returned (.bool (governing l t.version t.quorum t.jurors).2) ∧ Kept [] w' w2) := fun w' kk => rgoverns_any _ l t.version t.quorum t.jurors t.most t.dare _ _ _ w' (HLV.out.kept (K9.trans kk)) HSH.out
      have B1 : Hid (∀ w', Kept [] w9 w' → Calls Tryz.prog 22 #[.agg #[.int .i64 x.juror, .int .i64 x.version, .int .i64 x.gate, .int .i64 x.no, .string ⟨x.reason.toArray⟩, .slice pa pn pc, .int .i64 px, .int .i64 py]] w' fun e w2 => e = .returned (.string ⟨(ballotE x).toArray⟩) ∧ Kept [] w' w2) := fun w' kk => ballot_any _ x w' (HVV.out.kept (K9.trans kk)) (HE.out.kept0 (K9.trans kk)).toEnv (by omega) (by omega)
      have B2 : Hid (∀ w', Kept [] w9 w' → Calls Tryz.prog 23 #[.agg #[.int .i64 x.juror, .int .i64 x.version, .int .i64 x.gate, .int .i64 x.no, .string ⟨x.reason.toArray⟩, .slice pa pn pc, .int .i64 px, .int .i64 py]] w' fun e w2 => e = .returned (.string ⟨(ballotE x).toArray⟩) ∧ Kept [] w' w2) := fun w' kk => rballot_any _ x w' (HVV.out.kept (K9.trans kk)) (by omega) (by omega)
      have M1 : Hid (∀ w', Kept [] w9 w' → Calls Tryz.prog 24 #[.agg #[.int .i64 o.version, .int .i64 o.gate, .int .i64 o.no, .string ⟨o.reason.toArray⟩, .slice ja o.jurors.length jc, .int .i64 o.holder]] w' fun e w2 => e = .returned (.string ⟨(minutesE o).toArray⟩) ∧ Kept [] w' w2) := fun w' kk => minutes_any _ o w' (HOV2.out.kept (K9.trans kk)) (HE.out.kept0 (K9.trans kk)).toEnv
      have M2 : Hid (∀ w', Kept [] w9 w' → Calls Tryz.prog 25 #[.agg #[.int .i64 o.version, .int .i64 o.gate, .int .i64 o.no, .string ⟨o.reason.toArray⟩, .slice ja o.jurors.length jc, .int .i64 o.holder]] w' fun e w2 => e = .returned (.string ⟨(minutesE o).toArray⟩) ∧ Kept [] w' w2) := fun w' kk => rminutes_any _ o w' (HOV2.out.kept (K9.trans kk))
      obtain ⟨g, hg⟩ : ∃ g, (governing l t.version t.quorum t.jurors).2 = g := ⟨_, rfl⟩
      obtain ⟨E, hE⟩ : ∃ E, ballotE x = E := ⟨_, rfl⟩
      obtain ⟨F, hF⟩ : ∃ F, minutesE o = F := ⟨_, rfl⟩
      rw [hg] at G1 G2
      rw [hE] at B1 B2
      rw [hF] at M1 M2
      clear hg hE hF
      have q1 : (g == g) = true := by simp
      have q2 : (E == E) = true := by simp
      have q3 : (F == F) = true := by simp
      go_upto_region 15 with (fail)
      go_region_held3 (fun w' => Kept [] w9 w') (first | (with_reducible assumption) | exact (Kept.refl _ _).drew)
        (first
          | (go_at_call 20; with_reducible refine (G1.out _ (by first | (with_reducible assumption) | exact (Kept.refl _ _).drew)).mono ?_; rintro e wz0 ⟨rfl, hkx⟩; have hz0 : Kept [] w9 wz0 := Kept.trans (by first | (with_reducible assumption) | exact (Kept.refl _ _).drew) hkx)
          | (go_at_call 21; with_reducible refine (G2.out _ (by first | (with_reducible assumption) | exact (Kept.refl _ _).drew)).mono ?_; rintro e wz1 ⟨rfl, hkx⟩; have hz1 : Kept [] w9 wz1 := Kept.trans (by first | (with_reducible assumption) | exact (Kept.refl _ _).drew) hkx)
          | (go_at_call 22; with_reducible refine (B1.out _ (by first | (with_reducible assumption) | exact (Kept.refl _ _).drew)).mono ?_; rintro e wz2 ⟨rfl, hkx⟩; have hz2 : Kept [] w9 wz2 := Kept.trans (by first | (with_reducible assumption) | exact (Kept.refl _ _).drew) hkx)
          | (go_at_call 23; with_reducible refine (B2.out _ (by first | (with_reducible assumption) | exact (Kept.refl _ _).drew)).mono ?_; rintro e wz3 ⟨rfl, hkx⟩; have hz3 : Kept [] w9 wz3 := Kept.trans (by first | (with_reducible assumption) | exact (Kept.refl _ _).drew) hkx)
          | (go_at_call 24; with_reducible refine (M1.out _ (by first | (with_reducible assumption) | exact (Kept.refl _ _).drew)).mono ?_; rintro e wz4 ⟨rfl, hkx⟩; have hz4 : Kept [] w9 wz4 := Kept.trans (by first | (with_reducible assumption) | exact (Kept.refl _ _).drew) hkx)
          | (go_at_call 25; with_reducible refine (M2.out _ (by first | (with_reducible assumption) | exact (Kept.refl _ _).drew)).mono ?_; rintro e wz5 ⟨rfl, hkx⟩; have hz5 : Kept [] w9 wz5 := Kept.trans (by first | (with_reducible assumption) | exact (Kept.refl _ _).drew) hkx)
          | fail)
      clear t0 t1 t2 t3 t4 t5 t6 t7 v0 v1 v2 v3 v4 v5 v6 v7 o0 o1 o2 o3 o4 o5
      go_wp2_with fail
      go_ret
      exact ⟨rfl, hkW.trans (K9.trans hz5)⟩
end Go.Proofs.YtpcdfepndmconaaGreatDoor
