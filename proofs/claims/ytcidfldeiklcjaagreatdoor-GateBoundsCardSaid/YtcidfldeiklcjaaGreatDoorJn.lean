/- Joined lists: fresh, Join. -/
import Derived.Test.YtcidfldeiklcjaaGreatDoorJnp
import Derived.Test.YtcidfldeiklcjaaGreatDoorRow
namespace Go.Proofs.YtcidfldeiklcjaaGreatDoor
open Go.RowKit Tm

/-- a copy of numbers: it lies in new memory -/
def ClnE (l : List Int) (w : World) (e : Ending) (w' : World) : Prop := ∃ a c, e = .returned (.slice a l.length c) ∧ w'.ownsRow w.heap.size 3 1 (.slice a l.length c) l.length (ints l) ∧ Kept [] w w'
theorem clone_nums (l : List Int) (a : Option Addr) (c : Nat) (w : World) (h : Row w 1 (.slice a l.length c) l.length (ints l)) (hl : l.length ≤ 1000000) :
    Calls Tryz.prog 54 #[.slice a l.length c] w (ClnE l w) := by
  cases a with
  | none =>
    have h0 : l.length = 0 := by
      rcases Nat.eq_zero_or_pos l.length with h0 | hp
      · exact h0
      · obtain ⟨b, off, ha, _⟩ := h.at_ hp
        cases ha
    have hnil : l = [] := List.eq_nil_of_length_eq_zero h0
    subst hnil
    refine (Tryz.slices_Clone_int_nil 0 c w).mono fun e w' ⟨he, hw⟩ => ?_
    subst hw
    exact ⟨none, 0, he, World.ownsRow_nil _ _ _ _, Kept.refl _ _⟩
  | some ad =>
    rcases Nat.eq_zero_or_pos l.length with h0 | hp
    · have hnil : l = [] := List.eq_nil_of_length_eq_zero h0
      subst hnil
      refine (Tryz.slices_Clone_int_zero ad c w).mono fun e w' ⟨v', he, ho, _, hb⟩ => ?_
      obtain ⟨a', c', rfl⟩ := own_form ho
      exact ⟨a', c', he, ho, Kept.of_below hb⟩
    · obtain ⟨b, off, ha, hc⟩ := h.at_ hp
      injection ha with ha
      subst ha
      refine (Tryz.slices_Clone_int b off l.length c l w (Nat.le_refl _) (by omega) (fun j hj => ?_)).mono fun e w' ⟨v', he, ho, _, hb⟩ => ?_
      · rw [hc j _ (ints_get hj), List.getD_eq_getElem?_getD, List.getElem?_eq_getElem hj]
        rfl
      · rw [List.take_length] at ho
        obtain ⟨a', c', rfl⟩ := own_form ho
        exact ⟨a', c', he, ho, Kept.of_below hb⟩

/-- a fresh entry -/
def FreE (x : Ent) (w : World) (e : Ending) (w' : World) : Prop := ∃ a c, e = .returned (.agg #[.int .i64 x.gate, .int .i64 x.no, .int .i64 x.time, .int .i64 x.kind, .slice a x.nums.length c, .string ⟨x.text.toArray⟩, .int .i64 x.c, .int .i64 x.s]) ∧
  (∀ X : List Nat, (∀ z ∈ X, z < w.heap.size) → Stable X (fun w => Row w 1 (.slice a x.nums.length c) x.nums.length (ints x.nums)) w') ∧ Kept [] w w'
set_option maxRecDepth 100000 in
set_option maxHeartbeats 2000000 in
theorem fresh_any (x : Ent) (a : Option Addr) (c : Nat) (w : World) (h : Row w 1 (.slice a x.nums.length c) x.nums.length (ints x.nums)) (hl : x.nums.length ≤ 1000000) :
    Calls Tryz.prog 41 #[.agg #[.int .i64 x.gate, .int .i64 x.no, .int .i64 x.time, .int .i64 x.kind, .slice a x.nums.length c, .string ⟨x.text.toArray⟩, .int .i64 x.c, .int .i64 x.s]] w (FreE x w) := by
  obtain ⟨W, hW⟩ : ∃ W, (w.alloc (.cells (entC x (.slice a x.nums.length c)).toArray 52)).alloc (.cells (entC zeroEnt (.slice none 0 0)).toArray 52) = W := ⟨_, rfl⟩
  have hx : Blk W w.heap.size 52 (entC x (.slice a x.nums.length c)).toArray := hW ▸ (Blk.new _ _ _).alloc _
  have hz : Blk W (w.heap.size + 1) 52 (entC zeroEnt (.slice none 0 0)).toArray := by
    have := Blk.new (w.alloc (.cells (entC x (.slice a x.nums.length c)).toArray 52)) 52 (entC zeroEnt (.slice none 0 0)).toArray
    rw [hW, World.size_alloc] at this
    exact this
  have hkW : Kept [] w W := hW ▸ ((Kept.refl _ _).alloc _).alloc _
  have hWs : W.heap.size = w.heap.size + 2 := by rw [← hW]; simp
  have CL := Lib.hid (clone_nums x.nums a c W (h.kept hkW) hl)
  have e4 : W.cell? ⟨w.heap.size, 4, none⟩ = some (.slice a x.nums.length c) := hx.cell 4
  have HX := Lib.hid hx
  have HZ := Lib.hid hz
  have HW := Lib.hid hW
  have HKW := Lib.hid hkW
  have HWS := Lib.hid hWs
  clear hW hx hz hkW h hWs
  go_enter Tryz.func41, Tryz.ntmps41
  go_upto_region 1 with (fail)
  have hW' : (w.alloc (.cells #[.int .i64 x.gate, .int .i64 x.no, .int .i64 x.time, .int .i64 x.kind, .slice a x.nums.length c, .string ⟨x.text.toArray⟩, .int .i64 x.c, .int .i64 x.s] 52)).alloc (.cells #[.int .i64 0, .int .i64 0, .int .i64 0, .int .i64 0, .slice none 0 0, .string ⟨#[]⟩, .int .i64 0, .int .i64 0] 52) = W := HW.out
  rw [hW']
  clear hW'
  go_wp2_with (go_at_call 54; with_reducible refine CL.out.mono ?_)
  rintro e w1 ⟨a1, c1, rfl, own, k1⟩
  have hx1 := HX.out.kept k1 (by simp)
  have hz1 := HZ.out.kept k1 (by simp)
  have HOW := Lib.hid own
  have HK1 := Lib.hid k1
  have p0 : w1.cell? ⟨w.heap.size, 0, none⟩ = some (.int .i64 x.gate) := hx1.cell 0
  have z0 : w1.cell? ⟨w.heap.size + 1, 0, none⟩ = some (.int .i64 0) := hz1.cell 0
  have y0 : w1.frozen? ⟨w.heap.size + 1, 0, none⟩ = false := hz1.frozen 0
  have p1 : w1.cell? ⟨w.heap.size, 1, none⟩ = some (.int .i64 x.no) := hx1.cell 1
  have z1 : w1.cell? ⟨w.heap.size + 1, 1, none⟩ = some (.int .i64 0) := hz1.cell 1
  have y1 : w1.frozen? ⟨w.heap.size + 1, 1, none⟩ = false := hz1.frozen 1
  have p2 : w1.cell? ⟨w.heap.size, 2, none⟩ = some (.int .i64 x.time) := hx1.cell 2
  have z2 : w1.cell? ⟨w.heap.size + 1, 2, none⟩ = some (.int .i64 0) := hz1.cell 2
  have y2 : w1.frozen? ⟨w.heap.size + 1, 2, none⟩ = false := hz1.frozen 2
  have p3 : w1.cell? ⟨w.heap.size, 3, none⟩ = some (.int .i64 x.kind) := hx1.cell 3
  have z3 : w1.cell? ⟨w.heap.size + 1, 3, none⟩ = some (.int .i64 0) := hz1.cell 3
  have y3 : w1.frozen? ⟨w.heap.size + 1, 3, none⟩ = false := hz1.frozen 3
  have p4 : w1.cell? ⟨w.heap.size, 4, none⟩ = some (.slice a x.nums.length c) := hx1.cell 4
  have z4 : w1.cell? ⟨w.heap.size + 1, 4, none⟩ = some (.slice none 0 0) := hz1.cell 4
  have y4 : w1.frozen? ⟨w.heap.size + 1, 4, none⟩ = false := hz1.frozen 4
  have p5 : w1.cell? ⟨w.heap.size, 5, none⟩ = some (.string ⟨x.text.toArray⟩) := hx1.cell 5
  have z5 : w1.cell? ⟨w.heap.size + 1, 5, none⟩ = some (.string ⟨#[]⟩) := hz1.cell 5
  have y5 : w1.frozen? ⟨w.heap.size + 1, 5, none⟩ = false := hz1.frozen 5
  have p6 : w1.cell? ⟨w.heap.size, 6, none⟩ = some (.int .i64 x.c) := hx1.cell 6
  have z6 : w1.cell? ⟨w.heap.size + 1, 6, none⟩ = some (.int .i64 0) := hz1.cell 6
  have y6 : w1.frozen? ⟨w.heap.size + 1, 6, none⟩ = false := hz1.frozen 6
  have p7 : w1.cell? ⟨w.heap.size, 7, none⟩ = some (.int .i64 x.s) := hx1.cell 7
  have z7 : w1.cell? ⟨w.heap.size + 1, 7, none⟩ = some (.int .i64 0) := hz1.cell 7
  have y7 : w1.frozen? ⟨w.heap.size + 1, 7, none⟩ = false := hz1.frozen 7
  have f4 : w1.frozen? ⟨w.heap.size, 4, none⟩ = false := hx1.frozen 4
  clear e4 own k1 hx1 hz1
  go_wp2_with fail
  refine bodyPost_ret (v := .agg #[.int .i64 x.gate, .int .i64 x.no, .int .i64 x.time, .int .i64 x.kind, .slice a1 x.nums.length c1, .string ⟨x.text.toArray⟩, .int .i64 x.c, .int .i64 x.s]) (by simp [results, Tryz.results41, go_sem, z0, z1, z2, z3, z4, z5, z6, z7]) rfl ?_
  have hk2 : ∀ w2, Kept [w.heap.size, w.heap.size + 1] w1 w2 → Kept [] w w2 := fun w2 k => (HKW.out.trans HK1.out).fresh k (by simp)
  obtain ⟨w2, hw2⟩ : ∃ w2, (((((((((w1.setCell ⟨w.heap.size, 4, none⟩ (.slice a1 x.nums.length c1)).setCell ⟨w.heap.size + 1, 0, none⟩ (.int .i64 x.gate)).setCell ⟨w.heap.size + 1, 1, none⟩ (.int .i64 x.no)).setCell ⟨w.heap.size + 1, 2, none⟩ (.int .i64 x.time)).setCell ⟨w.heap.size + 1, 3, none⟩ (.int .i64 x.kind)).setCell ⟨w.heap.size + 1, 4, none⟩ (.slice a1 x.nums.length c1)).setCell ⟨w.heap.size + 1, 5, none⟩ (.string ⟨x.text.toArray⟩)).setCell ⟨w.heap.size + 1, 6, none⟩ (.int .i64 x.c)).setCell ⟨w.heap.size + 1, 7, none⟩ (.int .i64 x.s)) = w2 := ⟨_, rfl⟩
  rw [hw2]
  have k12 : Kept [w.heap.size, w.heap.size + 1] w1 w2 := by
    rw [← hw2]
    repeat (refine Kept.setCell ?_ (Or.inl (by simp)) _)
    exact Kept.refl _ _
  refine ⟨a1, c1, rfl, fun X hX => ?_, hk2 w2 k12⟩
  have ho := own_keep HOW.out k12 (fun z hz hm => by
    have h1 := own_ge HOW.out z hz
    have h2 := HWS.out
    simp only [List.mem_cons, List.not_mem_nil, or_false] at hm
    rcases hm with rfl | rfl <;> omega)
  exact Stable.row ho (fun z hz hm => by have h1 := own_ge HOW.out z hz; have h2 := HWS.out; have := hX z hm; omega) (by omega)

/-- the joined list under way -/
structure Jo (w wr : World) (sg : Ent → Bool) (l : List Ent) (k : Nat) (acc : List Ent) (X : List Nat) (v : Value) : Prop where
  hacc : acc = (l.take k).filter sg
  gr : Grow EntR 8 52 w.heap.size X wr v acc
  vX : ∀ z ∈ obl v, z ∈ X
  hX : ∀ z ∈ X, z < wr.heap.size
  kb : Kept [] w wr
  nil_ : acc = [] → v = .slice none 0 0
theorem Jo.keep {w wr wr' : World} {sg : Ent → Bool} {l acc : List Ent} {k : Nat} {X : List Nat} {v : Value} (h : Jo w wr sg l k acc X v) (kk : Kept [] wr wr') : Jo w wr' sg l k acc X v :=
  ⟨h.hacc, h.gr.step kk (by simp) (by simp) (fun z hz => Or.inl hz), h.vX, fun z hz => Nat.lt_of_lt_of_le (h.hX z hz) kk.size, h.kb.trans kk, h.nil_⟩
theorem Jo.skip {w wr : World} {sg : Ent → Bool} {l acc : List Ent} {k : Nat} {X : List Nat} {v : Value} (h : Jo w wr sg l k acc X v) (hk : k < l.length) (hs : sg l[k] = false) : Jo w wr sg l (k + 1) acc X v :=
  ⟨by rw [h.hacc, List.take_succ_eq_append_getElem hk, List.filter_append]; simp [hs], h.gr, h.vX, h.hX, h.kb, h.nil_⟩
theorem Jo.push {w wr wu : World} {sg : Ent → Bool} {l acc : List Ent} {k : Nat} {X : List Nat} {v : Value} {p : Option Addr} {q : Nat} (h : Jo w wr sg l k acc X v) (hk : k < l.length) (hs : sg l[k] = true) (k1 : Kept (obl v) wr wu)
    (G : Grow EntR 8 52 w.heap.size (X ++ obl (.slice p (acc.length + 1) q)) wu (.slice p (acc.length + 1) q) (acc ++ [l[k]])) (hb : ∀ z ∈ obl (.slice p (acc.length + 1) q), z < wu.heap.size) :
    Jo w wu sg l (k + 1) (acc ++ [l[k]]) (X ++ obl (.slice p (acc.length + 1) q)) (.slice p (acc.length + 1) q) :=
  ⟨by rw [h.hacc, List.take_succ_eq_append_getElem hk, List.filter_append]; simp [hs], G, fun z hz => List.mem_append_right _ hz, fun z hz => by
    rcases List.mem_append.1 hz with e | e
    · exact Nat.lt_of_lt_of_le (h.hX z e) k1.size
    · exact hb z e, h.kb.fresh k1 (fun z hz => (h.gr.ge z hz).1), fun e => by simp at e⟩

def JoinE (s : Stp) (keys : List Int) (l : List Ent) (w : World) (e : Ending) (w' : World) : Prop := ∃ v o, e = .returned v ∧ EntsV w' v o ∧ JoinIs (signedB s keys) l o ∧ o.length ≤ 12 ∧ Kept [] w w'

set_option maxRecDepth 100000 in
set_option maxHeartbeats 4000000 in
theorem join_any (vs vk va : Value) (s : Stp) (keys : List Int) (l : List Ent) (w : World) (hs : StpV w vs s) (hk : Row w 1 vk keys.length (ints keys)) (ha : EntsV w va l) (hl : l.length ≤ 12) (hI : ∀ e ∈ l, EntI e) (hki : ∀ x ∈ keys, Wire.I64 x) (hE : Env2 w) :
    Calls Tryz.prog 17 #[vs, vk, va, .slice none 0 0] w (JoinE s keys l w) := by
  have hs' := hs
  obtain ⟨⟨ad, cc, rfl, hrow⟩, ip, iq, ig, ib, il⟩ := hs'
  obtain ⟨aa, ca, rfl, _, _⟩ := RowOf.form ha
  obtain ⟨ka, kc, rfl, _, _⟩ := hk.form
  obtain ⟨W, hW⟩ : ∃ W, w.alloc (.cells (stpA s (.slice ad s.bases.length cc)) 26) = W := ⟨_, rfl⟩
  have hb : Blk W w.heap.size 26 (stpA s (.slice ad s.bases.length cc)) := hW ▸ Blk.new _ _ _
  have hkW : Kept [] w W := hW ▸ (Kept.refl _ _).alloc _
  have hWs : W.heap.size = w.heap.size + 1 := by rw [← hW]; simp
  have hNG : NG ≤ w.heap.size := hE.toEnv.size
  have SG : Hid (∀ (k : Nat) (hk : k < l.length) (ve : Value) (w' : World), Kept [] W w' → EntA w' ve l[k] → Calls Tryz.prog 40 #[.agg #[.int .i64 s.P, .int .i64 s.Q, .int .i64 s.G, .slice ad s.bases.length cc, .int .i64 s.blind], .slice ka keys.length kc, ve] w' fun en w2 => en = .returned (.bool (signedB s keys l[k])) ∧ Kept [] w' w2) := fun k hk' ve w' hkk hev =>
    gsigned_any _ _ ve s keys l[k] w' (hs.kept (hkW.trans hkk)) (hk.kept (hkW.trans hkk)) hev (hI _ (List.getElem_mem _)) hki (hE.kept0 (hkW.trans hkk))
  have s0 : ∀ w', Kept [] W w' → w'.cell? ⟨w.heap.size, 0, none⟩ = some (.int .i64 s.P) := Kept.cellOf (hb.cell 0)
  have s1 : ∀ w', Kept [] W w' → w'.cell? ⟨w.heap.size, 1, none⟩ = some (.int .i64 s.Q) := Kept.cellOf (hb.cell 1)
  have s2 : ∀ w', Kept [] W w' → w'.cell? ⟨w.heap.size, 2, none⟩ = some (.int .i64 s.G) := Kept.cellOf (hb.cell 2)
  have s3 : ∀ w', Kept [] W w' → w'.cell? ⟨w.heap.size, 3, none⟩ = some (.slice ad s.bases.length cc) := Kept.cellOf (hb.cell 3)
  have s4 : ∀ w', Kept [] W w' → w'.cell? ⟨w.heap.size, 4, none⟩ = some (.int .i64 s.blind) := Kept.cellOf (hb.cell 4)
  have S0 := Lib.hid s0
  have S1 := Lib.hid s1
  have S2 := Lib.hid s2
  have S3 := Lib.hid s3
  have S4 := Lib.hid s4
  have HA := Lib.hid (ha.kept hkW)
  have HI := Lib.hid hI
  have HE := Lib.hid (hE.kept0 hkW).toEnv
  have HW := Lib.hid hW
  have HKW := Lib.hid hkW
  have HWS := Lib.hid hWs
  have HNG := Lib.hid hNG
  obtain ⟨sg, hsg⟩ : ∃ sg, signedB s keys = sg := ⟨_, rfl⟩
  unfold JoinE
  rw [hsg] at SG ⊢
  have CC : Hid (∀ w', Kept [] W w' → Calls Tryz.prog 39 #[.slice (some ⟨w'.heap.size, 0, none⟩) 2 2] (w'.alloc (.cells #[.slice aa l.length ca, .slice none 0 0] 27)) (CteE l (w'.alloc (.cells #[.slice aa l.length ca, .slice none 0 0] 27)))) := fun w' k =>
    concatE_any l _ _ _ (by omega) (row_of_blk (cs := [.slice aa l.length ca, .slice none 0 0]) (Blk.new _ _ _) rfl (by decide)) (HA.out.kept (k.alloc _))
  clear hW hb hrow hkW hs ha hk hki hE ib hI hsg s0 s1 s2 s3 s4 hWs hNG
  obtain ⟨i0, hi, hz0, hz1, hz2⟩ := info_parts infoEnt
  show Calls _ _ #[.agg #[.int .i64 s.P, .int .i64 s.Q, .int .i64 s.G, .slice ad s.bases.length cc, .int .i64 s.blind], _, _, _] _ _
  go_enter Tryz.func17, Tryz.ntmps17
  go_upto_region 1 with (fail)
  have hW' : w.alloc (.cells #[.int .i64 s.P, .int .i64 s.Q, .int .i64 s.G, .slice ad s.bases.length cc, .int .i64 s.blind] 26) = W := HW.out
  rw [hW']
  clear hW'
  go_wp2_with (go_at_call 39; refine (CC.out _ (Kept.refl _ _)).mono ?_)
  rintro e w1 ⟨vc, rfl, hec, k1⟩
  obtain ⟨xa, xc, rfl, _, _⟩ := RowOf.form hec
  have HEC := Lib.hid hec
  have K1 := Lib.hid (((Kept.refl [] W).alloc _).trans k1)
  have JS : Hid (Jo w1 w1 sg l 0 [] [] (.slice none 0 0)) := ⟨by simp, Grow.nil_ _ _ _ _ _ _, (fun z hz => by have := obl_mem hz; cases this), by simp, Kept.refl _ _, fun _ => rfl⟩
  clear hec k1 CC HA
  go_wp2_with fail
  go_loopw [9, 11, 17] (fun vj _ vi wr => ∃ (k : Nat) (acc : List Ent) (X : List Nat), k ≤ l.length ∧ vi = .int .i64 k ∧ Hid (Jo w1 wr sg l k acc X vj)) (fun _ _ vi _ => l.length - (intOf vi).toNat)
  case atStart => exact ⟨0, [], [], by omega, rfl, JS⟩
  case round =>
    obtain ⟨k, acc, X, hkl, rfl, HJ⟩ := hrel
    have HKR := Lib.hid HJ.out.kb
    obtain ⟨ja, jc, rfl⟩ := HJ.out.gr.form (by decide)
    by_cases hkn : k < l.length
    · obtain ⟨xb, xo, xc', hx1, _, hx2⟩ := HEC.out.at_ (by omega)
      injection hx1 with hx1 _ hx3
      subst hx1 hx3
      obtain ⟨u, hu, hc8⟩ := hx2 k hkn
      have hc8 := hc8.kept HKR.out
      have hu := hu.kept HKR.out
      obtain ⟨ga, gc, rfl, _, _⟩ := hu.form
      have hIe := HI.out _ (List.getElem_mem hkn)
      have HSK := Lib.hid (HJ.out.skip hkn)
      have HPU : Hid (∀ wr2, Kept [] wr wr2 → sg l[k] = true → ∀ (wu : World) (p : Option Addr) (q : Nat), Kept (obl (.slice ja acc.length jc)) wr2 wu → Grow EntR 8 52 w1.heap.size (X ++ obl (.slice p (acc.length + 1) q)) wu (.slice p (acc.length + 1) q) (acc ++ [l[k]]) → (∀ z ∈ obl (.slice p (acc.length + 1) q), z < wu.heap.size) → Jo w1 wu sg l (k + 1) (acc ++ [l[k]]) (X ++ obl (.slice p (acc.length + 1) q)) (.slice p (acc.length + 1) q)) := fun wr2 kk h wu p q k1 G hb => (HJ.out.keep kk).push hkn h k1 G hb
      have SGk := Lib.hid (SG.out k hkn)
      obtain ⟨x, hx⟩ : ∃ x, l[k] = x := ⟨_, rfl⟩
      rw [hx] at SGk HSK HPU hIe hu hc8
      obtain ⟨c0, c1, c2, c3, c4, c5, c6, c7⟩ := hc8
      have HIX := Lib.hid hIe
      have HU := Lib.hid hu
      have hnl := hIe.l4
      clear hx hx2 hIe hu HEC
      go_upto_region 5 with (fail)
      obtain ⟨W2, hW2⟩ : ∃ W2, wr.alloc (.cells (entC x (.slice ga x.nums.length gc)).toArray 52) = W2 := ⟨_, rfl⟩
      have hbx : Blk W2 wr.heap.size 52 (entC x (.slice ga x.nums.length gc)).toArray := hW2 ▸ Blk.new _ _ _
      have hk2 : Kept [] wr W2 := hW2 ▸ (Kept.refl _ _).alloc _
      have hW2' : wr.alloc (.cells #[.int .i64 x.gate, .int .i64 x.no, .int .i64 x.time, .int .i64 x.kind, .slice ga x.nums.length gc, .string ⟨x.text.toArray⟩, .int .i64 x.c, .int .i64 x.s] 52) = W2 := hW2
      rw [hW2']
      have KW2 := K1.out.trans (HKR.out.trans hk2)
      have s0 : ∀ w', Kept [] W2 w' → w'.cell? ⟨w.heap.size, 0, none⟩ = some (.int .i64 s.P) := fun w' k => S0.out _ (KW2.trans k)
      have s1 : ∀ w', Kept [] W2 w' → w'.cell? ⟨w.heap.size, 1, none⟩ = some (.int .i64 s.Q) := fun w' k => S1.out _ (KW2.trans k)
      have s2 : ∀ w', Kept [] W2 w' → w'.cell? ⟨w.heap.size, 2, none⟩ = some (.int .i64 s.G) := fun w' k => S2.out _ (KW2.trans k)
      have s3 : ∀ w', Kept [] W2 w' → w'.cell? ⟨w.heap.size, 3, none⟩ = some (.slice ad s.bases.length cc) := fun w' k => S3.out _ (KW2.trans k)
      have s4 : ∀ w', Kept [] W2 w' → w'.cell? ⟨w.heap.size, 4, none⟩ = some (.int .i64 s.blind) := fun w' k => S4.out _ (KW2.trans k)
      have x0 : ∀ w', Kept [] W2 w' → w'.cell? ⟨wr.heap.size, 0, none⟩ = some (.int .i64 x.gate) := Kept.cellOf (hbx.cell 0)
      have x1 : ∀ w', Kept [] W2 w' → w'.cell? ⟨wr.heap.size, 1, none⟩ = some (.int .i64 x.no) := Kept.cellOf (hbx.cell 1)
      have x2 : ∀ w', Kept [] W2 w' → w'.cell? ⟨wr.heap.size, 2, none⟩ = some (.int .i64 x.time) := Kept.cellOf (hbx.cell 2)
      have x3 : ∀ w', Kept [] W2 w' → w'.cell? ⟨wr.heap.size, 3, none⟩ = some (.int .i64 x.kind) := Kept.cellOf (hbx.cell 3)
      have x4 : ∀ w', Kept [] W2 w' → w'.cell? ⟨wr.heap.size, 4, none⟩ = some (.slice ga x.nums.length gc) := Kept.cellOf (hbx.cell 4)
      have x5 : ∀ w', Kept [] W2 w' → w'.cell? ⟨wr.heap.size, 5, none⟩ = some (.string ⟨x.text.toArray⟩) := Kept.cellOf (hbx.cell 5)
      have x6 : ∀ w', Kept [] W2 w' → w'.cell? ⟨wr.heap.size, 6, none⟩ = some (.int .i64 x.c) := Kept.cellOf (hbx.cell 6)
      have x7 : ∀ w', Kept [] W2 w' → w'.cell? ⟨wr.heap.size, 7, none⟩ = some (.int .i64 x.s) := Kept.cellOf (hbx.cell 7)
      have HBX := Lib.hid hbx
      have HK2 := Lib.hid hk2
      have HKW2 := Lib.hid KW2
      have SG2 : Hid (∀ w', Kept [] W2 w' → Calls Tryz.prog 40 #[.agg #[.int .i64 s.P, .int .i64 s.Q, .int .i64 s.G, .slice ad s.bases.length cc, .int .i64 s.blind], .slice ka keys.length kc, .agg #[.int .i64 x.gate, .int .i64 x.no, .int .i64 x.time, .int .i64 x.kind, .slice ga x.nums.length gc, .string ⟨x.text.toArray⟩, .int .i64 x.c, .int .i64 x.s]] w' fun en w2 => en = .returned (.bool (sg x)) ∧ Kept [] w' w2) := fun w' k => SGk.out (.agg (entC x (.slice ga x.nums.length gc)).toArray) w' (KW2.trans k) ⟨_, rfl, HU.out.kept (hk2.trans k)⟩
      clear hW2' hW2 hbx hk2 KW2 c0 c1 c2 c3 c4 c5 c6 c7 SGk
      obtain ⟨sb, hsb⟩ : ∃ b, sg x = b := ⟨_, rfl⟩
      rw [hsb] at SG2 HSK HPU
      clear hsb
      replace s0 := s0 _ (Kept.refl _ _)
      replace s1 := s1 _ (Kept.refl _ _)
      replace s2 := s2 _ (Kept.refl _ _)
      replace s3 := s3 _ (Kept.refl _ _)
      replace s4 := s4 _ (Kept.refl _ _)
      replace x0 := x0 _ (Kept.refl _ _)
      replace x1 := x1 _ (Kept.refl _ _)
      replace x2 := x2 _ (Kept.refl _ _)
      replace x3 := x3 _ (Kept.refl _ _)
      replace x4 := x4 _ (Kept.refl _ _)
      replace x5 := x5 _ (Kept.refl _ _)
      replace x6 := x6 _ (Kept.refl _ _)
      replace x7 := x7 _ (Kept.refl _ _)
      go_wp2_with (go_at_call 40; with_reducible refine (SG2.out _ (Kept.refl _ _)).mono ?_)
      rintro e w3 rfl k3
      clear s0 s1 s2 s3 s4 x0 x1 x2 x3 x4 x5 x6 x7
      cases sb
      · go_wp2_with fail
        go_roundw
        case rel => exact ⟨k + 1, acc, X, by omega, by go_num, Lib.hid ((HSK.out (by trivial)).keep (HK2.out.trans k3))⟩
        case measure => simp [intOf]; omega
      · have hbx := HBX.out.kept k3 (by simp)
        have x0 : w3.cell? ⟨wr.heap.size, 0, none⟩ = some (.int .i64 x.gate) := hbx.cell 0
        have x1 : w3.cell? ⟨wr.heap.size, 1, none⟩ = some (.int .i64 x.no) := hbx.cell 1
        have x2 : w3.cell? ⟨wr.heap.size, 2, none⟩ = some (.int .i64 x.time) := hbx.cell 2
        have x3 : w3.cell? ⟨wr.heap.size, 3, none⟩ = some (.int .i64 x.kind) := hbx.cell 3
        have x4 : w3.cell? ⟨wr.heap.size, 4, none⟩ = some (.slice ga x.nums.length gc) := hbx.cell 4
        have x5 : w3.cell? ⟨wr.heap.size, 5, none⟩ = some (.string ⟨x.text.toArray⟩) := hbx.cell 5
        have x6 : w3.cell? ⟨wr.heap.size, 6, none⟩ = some (.int .i64 x.c) := hbx.cell 6
        have x7 : w3.cell? ⟨wr.heap.size, 7, none⟩ = some (.int .i64 x.s) := hbx.cell 7
        have K23 := Lib.hid (HK2.out.trans k3)
        have FR := Lib.hid (fresh_any x ga gc w3 (HU.out.kept K23.out) (by omega))
        clear hbx HBX k3 HKW2
        go_upto_region 6 with (fail)
        go_wp2_with (go_at_call 41; with_reducible refine FR.out.mono ?_)
        rintro e w4 ⟨ra, rc, rfl, hst, k4⟩
        have K35 := K23.out.trans k4
        have ka : Kept [] w4 (w4.alloc (.cells #[.int .i64 x.gate, .int .i64 x.no, .int .i64 x.time, .int .i64 x.kind, .slice ra x.nums.length rc, .string ⟨x.text.toArray⟩, .int .i64 x.c, .int .i64 x.s] 52)) := (Kept.refl _ _).alloc _
        have K45 := K35.trans ka
        have hst5 : Hid (Stable X (fun w => EntR w (entC x (.slice ra x.nums.length rc)) x) (w4.alloc (.cells #[.int .i64 x.gate, .int .i64 x.no, .int .i64 x.time, .int .i64 x.kind, .slice ra x.nums.length rc, .string ⟨x.text.toArray⟩, .int .i64 x.c, .int .i64 x.s] 52))) := (((hst X (fun z hz => Nat.lt_of_lt_of_le (HJ.out.hX z hz) K23.out.size)).step ka (by simp) (fun z hz => Or.inl hz)).imp fun _ h => ⟨_, rfl, h⟩)
        have HJ5 := Lib.hid (HJ.out.keep K45)
        have HP5 := Lib.hid (HPU.out _ K45 (by trivial))
        have hal : acc.length ≤ 12 := by
          rw [HJ.out.hacc]
          exact Nat.le_trans (List.length_filter_le _ _) (by simp; omega)
        have hle := Lib.hid (show w1.heap.size ≤ _ from HJ5.out.kb.size)
        clear x0 x1 x2 x3 x4 x5 x6 x7 hst k4 K35 ka K45
        go_wp2_with (at_builtin; refine wpList_append_grow rfl _ _ 27 rfl i0 zeroEV 88 Tryz.underlying27 hi hz0 hz1 hz2 rfl (by decide) (by decide) rfl HJ5.out.gr _ (entC x (.slice ra x.nums.length rc)) x rfl (rowS rfl _ _ _ rfl) hst5.out (by simp [entC, Value.oneCell']) (by omega) hle.out HJ5.out.vX ?_)
        intro p9 q9 y9 G9 k9 t9
        have HPN := Lib.hid (HP5.out y9 p9 q9 k9 G9 (fun z hz => (G9.ge z hz).2))
        clear G9 k9 t9 HP5 hst5
        go_wp2_with fail
        go_roundw
        case rel => exact ⟨k + 1, acc ++ [x], _, by omega, by go_num, HPN⟩
        case measure => simp [intOf]; omega
    · obtain rfl : k = l.length := by omega
      have hac : acc = l.filter sg := by have := HJ.out.hacc; rwa [List.take_length] at this
      have hal : acc.length ≤ 12 := by rw [hac]; exact Nat.le_trans (List.length_filter_le _ _) hl
      have KW := HKW.out.trans (K1.out.trans HKR.out)
      rcases Nat.eq_zero_or_pos acc.length with h0 | hp
      · obtain rfl : acc = [] := List.eq_nil_of_length_eq_zero h0
        have h00 := HJ.out.nil_ rfl
        injection h00 with h1 _ h3
        subst h1 h3
        have HKA := Lib.hid KW
        have HJI : Hid (JoinIs sg l []) := ⟨List.Pairwise.nil, fun z => by rw [← List.mem_filter, ← hac]⟩
        have SN := Lib.hid (fun v w => sort_none v w)
        have CN := Lib.hid (fun v w => compact_none v w)
        clear KW
        rw [List.length_nil]
        go_wp2_with (go_at_call 42; with_reducible refine (SN.out _ _).mono ?_)
        rintro e w6 ⟨rfl, rfl⟩
        go_wp2_with (go_at_call 44; with_reducible refine (CN.out _ _).mono ?_)
        rintro e w7 ⟨rfl, rfl⟩
        go_wp2_with fail
        go_ret
        exact ⟨_, [], rfl, RowOf.nil_ _ _ _, HJI.out, by simp, HKA.out⟩
      · obtain ⟨g, cap, f, hv, hc, hB, hEC, hst, hf⟩ := HJ.out.gr.ents HJ.out.vX hp
        injection hv with h1 _ h3
        subst h1 h3
        have hEv := HE.out.kept0 (K1.out.trans HKR.out)
        have hIf : ∀ k, k < acc.length → EntI (f k).1 := fun k hk => by
          rw [hf k hk]
          have hm : acc[k] ∈ l.filter sg := hac ▸ List.getElem_mem hk
          exact HI.out _ (List.mem_filter.1 hm).1
        have hgN : NG ≤ g := by
          have h1 := HNG.out; have h2 := HKW.out.size; have h3 := K1.out.size
          omega
        have HAC := Lib.hid hac
        have HF := Lib.hid hf
        clear hf
        have HSO := Lib.hid (sort_any g acc.length jc f wr hEC hst hIf hgN hEv hal)
        have HEV := Lib.hid hEv
        have HKA := Lib.hid KW
        clear hEC KW hac
        go_wp2_with (go_at_call 42; with_reducible refine HSO.out.mono ?_)
        rintro e w6 ⟨rfl, f2, hs2, ho⟩
        have hst2 : Stable [g] (NumsAt acc.length f2) w6 := (hst.step ho.kept (by simp) (fun z hz => Or.inl hz)).imp fun w' h k hk => Mem.all (P := fun p => Row w' 1 p.2 p.1.nums.length (ints p.1.nums)) ho.mem h k hk
        have hIf2 : ∀ k, k < acc.length → EntI (f2 k).1 := fun k hk => Mem.all (P := fun p => EntI p.1) ho.mem (fun j hj => hIf j hj) k hk
        have HCO := Lib.hid (compact_any g acc.length jc f2 w6 ho.ec hst2 hs2 hIf2 hgN (HEV.out.kept ho.kept (by simpa using hgN)) (by omega) hc)
        have HMM := Lib.hid ho.mem
        have HS2 := Lib.hid hst2
        have HKO := Lib.hid ho.kept
        clear hs2 ho hst2
        go_wp2_with (go_at_call 44; with_reducible refine HCO.out.mono ?_)
        rintro e w7 ⟨m, f3, rfl, hmn, hm1, hstr, hme, hfj, hEC7, k7⟩
        have hn7 : NumsAt m f3 w7 := fun i hi => by
          obtain ⟨j, hj, e⟩ := hfj i hi
          rw [e]
          exact HS2.out [g] w7 k7 (fun z hz _ => hz) j hj
        have HEV7 := Lib.hid (EC.list hEC7 hn7 (by omega) (by omega : m ≤ jc))
        have HJ7 := Lib.hid (join_of HAC.out rfl HF.out HMM.out hme hstr)
        have HK7 : Hid (Kept [] w w7) := HKA.out.fresh (HKO.out.trans k7) (fun z hz => by
          rw [List.mem_singleton] at hz
          have h2 := HKW.out.size; have h3 := K1.out.size
          omega)
        clear hn7 hfj hme hstr hEC7 k7 hm1
        go_wp2_with fail
        go_ret
        exact ⟨_, _, rfl, HEV7.out, HJ7.out, by simp; omega, HK7.out⟩
end Go.Proofs.YtcidfldeiklcjaaGreatDoor
