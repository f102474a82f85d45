/- The setup and the entries of the example. -/
import Derived.Test.YtcidfldeiklcjaaGreatDoorSnp
import Derived.Test.YtcidfldeiklcjaaGreatDoorSld
namespace Go.Proofs.YtcidfldeiklcjaaGreatDoor
open Go.RowKit Tm

def StE8 (w : World) (e : Ending) (w' : World) : Prop := ∃ ad cc, e = .returned (.agg #[.int .i64 23, .int .i64 11, .int .i64 4, .slice ad 3 cc, .int .i64 3]) ∧ Row w' 1 (.slice ad 3 cc) 3 (ints [4, 16, 18]) ∧ Kept [] w w'
theorem stp8 {w : World} {ad : Option Addr} {cc : Nat} (h : Row w 1 (.slice ad 3 cc) 3 (ints [4, 16, 18])) : StpV w (.agg #[.int .i64 23, .int .i64 11, .int .i64 4, .slice ad 3 cc, .int .i64 3]) st8 :=
  ⟨⟨ad, cc, rfl, h⟩, ⟨by decide, by decide⟩, ⟨by decide, by decide⟩, ⟨by decide, by decide⟩, fun x hx => by
    have hx' : x ∈ [(4 : Int), 16, 18] := hx
    simp only [List.mem_cons, List.not_mem_nil, or_false] at hx'
    rcases hx' with rfl | rfl | rfl <;> exact ⟨by decide, by decide⟩, ⟨by decide, by decide⟩⟩
set_option maxRecDepth 100000 in
set_option maxHeartbeats 1000000 in
theorem setup8_any (w : World) : Calls Tryz.prog 19 #[] w (StE8 w) := by
  obtain ⟨W, hW⟩ : ∃ W, w.alloc (.cells #[.int .i64 0, .int .i64 0, .int .i64 0, .slice none 0 0, .int .i64 0] 26) = W := ⟨_, rfl⟩
  have hr : Blk W w.heap.size 26 #[.int .i64 0, .int .i64 0, .int .i64 0, .slice none 0 0, .int .i64 0] := hW ▸ Blk.new _ _ _
  have hkW : Kept [] w W := hW ▸ (Kept.refl _ _).alloc _
  have hlt := hr.lt
  have z0 : (W.alloc (.cells #[.int .i64 4, .int .i64 16, .int .i64 18] 3)).cell? ⟨w.heap.size, 0, none⟩ = some (.int .i64 0) := (hr.alloc _).cell 0
  have y0 : (W.alloc (.cells #[.int .i64 4, .int .i64 16, .int .i64 18] 3)).frozen? ⟨w.heap.size, 0, none⟩ = false := (hr.alloc _).frozen 0
  have z1 : (W.alloc (.cells #[.int .i64 4, .int .i64 16, .int .i64 18] 3)).cell? ⟨w.heap.size, 1, none⟩ = some (.int .i64 0) := (hr.alloc _).cell 1
  have y1 : (W.alloc (.cells #[.int .i64 4, .int .i64 16, .int .i64 18] 3)).frozen? ⟨w.heap.size, 1, none⟩ = false := (hr.alloc _).frozen 1
  have z2 : (W.alloc (.cells #[.int .i64 4, .int .i64 16, .int .i64 18] 3)).cell? ⟨w.heap.size, 2, none⟩ = some (.int .i64 0) := (hr.alloc _).cell 2
  have y2 : (W.alloc (.cells #[.int .i64 4, .int .i64 16, .int .i64 18] 3)).frozen? ⟨w.heap.size, 2, none⟩ = false := (hr.alloc _).frozen 2
  have z3 : (W.alloc (.cells #[.int .i64 4, .int .i64 16, .int .i64 18] 3)).cell? ⟨w.heap.size, 3, none⟩ = some (.slice none 0 0) := (hr.alloc _).cell 3
  have y3 : (W.alloc (.cells #[.int .i64 4, .int .i64 16, .int .i64 18] 3)).frozen? ⟨w.heap.size, 3, none⟩ = false := (hr.alloc _).frozen 3
  have z4 : (W.alloc (.cells #[.int .i64 4, .int .i64 16, .int .i64 18] 3)).cell? ⟨w.heap.size, 4, none⟩ = some (.int .i64 0) := (hr.alloc _).cell 4
  have y4 : (W.alloc (.cells #[.int .i64 4, .int .i64 16, .int .i64 18] 3)).frozen? ⟨w.heap.size, 4, none⟩ = false := (hr.alloc _).frozen 4
  have HW := Lib.hid hW
  have HKW := Lib.hid hkW
  have HLT := Lib.hid hlt
  clear hW hr hkW hlt
  go_enter Tryz.func19, Tryz.ntmps19
  go_upto_region 1 with (fail)
  have hW' : w.alloc (.cells #[.int .i64 0, .int .i64 0, .int .i64 0, .slice none 0 0, .int .i64 0] 26) = W := HW.out
  rw [hW']
  clear hW'
  go_wp2_with fail
  refine bodyPost_ret (v := .agg #[.int .i64 23, .int .i64 11, .int .i64 4, .slice (some ⟨W.heap.size, 0, none⟩) 3 3, .int .i64 3]) (by simp [results, Tryz.results19, go_sem, z0, z1, z2, z3, z4]) rfl ?_
  obtain ⟨F, hF⟩ : ∃ F, (((((W.alloc (.cells #[.int .i64 4, .int .i64 16, .int .i64 18] 3)).setCell ⟨w.heap.size, 0, none⟩ (.int .i64 23)).setCell ⟨w.heap.size, 1, none⟩ (.int .i64 11)).setCell ⟨w.heap.size, 2, none⟩ (.int .i64 4)).setCell ⟨w.heap.size, 3, none⟩ (.slice (some ⟨W.heap.size, 0, none⟩) 3 3)).setCell ⟨w.heap.size, 4, none⟩ (.int .i64 3) = F := ⟨_, rfl⟩
  rw [hF]
  have hk : Kept [w.heap.size] (W.alloc (.cells #[.int .i64 4, .int .i64 16, .int .i64 18] 3)) F := by
    rw [← hF]
    repeat (refine Kept.setCell ?_ (Or.inl (by simp)) _)
    exact Kept.refl _ _
  have hb : Blk F W.heap.size 3 #[.int .i64 4, .int .i64 16, .int .i64 18] := (Blk.new W 3 #[.int .i64 4, .int .i64 16, .int .i64 18]).kept hk (by rw [List.mem_singleton]; have := HLT.out; omega)
  exact ⟨_, _, rfl, row_of_blk (cs := ints [4, 16, 18]) hb rfl (by decide), (HKW.out.alloc _).fresh hk (by simp)⟩

/-- entries that lie in one block -/
theorem ents_blk {w : World} {b : Nat} (l : List (Ent × Value)) (h : Blk w b 52 (l.map fun p => entC p.1 p.2).flatten.toArray) (hr : ∀ p ∈ l, Row w 1 p.2 p.1.nums.length (ints p.1.nums)) (hl : l.length ≤ 1000) :
    EntsV w (.slice (some ⟨b, 0, none⟩) l.length l.length) (l.map (·.1)) := by
  have hlen : ∀ (l : List (Ent × Value)), (l.map fun p => entC p.1 p.2).flatten.length = l.length * 8 := by
    intro l
    induction l with
    | nil => rfl
    | cons p l ih => rw [List.map_cons, List.flatten_cons, List.length_append, ih]; simp [entC]; omega
  refine ⟨l.map fun p => entC p.1 p.2, by simp, fun c hc => ?_, fun k x hx => ?_, ?_⟩
  · obtain ⟨p, _, rfl⟩ := List.mem_map.1 hc
    rfl
  · rw [List.getElem?_map] at hx
    obtain ⟨p, hp, rfl⟩ := Option.map_eq_some_iff.1 hx
    exact ⟨entC p.1 p.2, by rw [List.getElem?_map, hp]; rfl, p.2, rfl, hr p (List.mem_of_getElem? hp)⟩
  · have := row_of_blk (n := l.length) (size := 8) h (hlen l) (by omega)
    simpa using this
/-- what clocks gives -/
def ClkE (most : Int) (w : World) (e : Ending) (w' : World) : Prop := ∃ vk vl, e = .returned (.tuple #[vk, vl]) ∧ Row w' 1 vk 2 (ints keys8) ∧ EntsV w' vl (l8 most) ∧ Kept [] w w'
set_option maxRecDepth 100000 in
set_option maxHeartbeats 4000000 in
theorem clocks_any (most : Int) (hm : most = 1100 ∨ most = 2147483648) (w : World) (hE : Env2 w) : Calls Tryz.prog 20 #[.int .i64 most] w (ClkE most w) := by
  have two : ∀ (p q : Int), Wire.I64 p → Wire.I64 q → ∀ x ∈ [p, q], Wire.I64 x := fun p q hp hq x hx => by
    simp only [List.mem_cons, List.not_mem_nil, or_false] at hx
    rcases hx with rfl | rfl
    · exact hp
    · exact hq
  have ISA : EntI ea8 := ⟨⟨by decide, by decide⟩, ⟨by decide, by decide⟩, ⟨by decide, by decide⟩, ⟨by decide, by decide⟩, two 1000 1010 ⟨by decide, by decide⟩ ⟨by decide, by decide⟩, ⟨by decide, by decide⟩, ⟨by decide, by decide⟩, by decide, by decide⟩
  have ISB : EntI (eb8 most) := by
    rcases hm with rfl | rfl <;> exact ⟨⟨by decide, by decide⟩, ⟨by decide, by decide⟩, ⟨by decide, by decide⟩, ⟨by decide, by decide⟩, two 0 _ ⟨by decide, by decide⟩ ⟨by decide, by decide⟩, ⟨by decide, by decide⟩, ⟨by decide, by decide⟩, by decide, by decide⟩
  have ISC : EntI ec8 := ⟨⟨by decide, by decide⟩, ⟨by decide, by decide⟩, ⟨by decide, by decide⟩, ⟨by decide, by decide⟩, two 0 1 ⟨by decide, by decide⟩ ⟨by decide, by decide⟩, ⟨by decide, by decide⟩, ⟨by decide, by decide⟩, by decide, by decide⟩
  have SU := Lib.hid (setup8_any w)
  go_enter Tryz.func20, Tryz.ntmps20
  go_wp2_with (go_at_call 19; with_reducible refine SU.out.mono ?_)
  rintro e w1 ⟨ad, cc, rfl, hrow, hk1⟩
  have SA : Hid (∀ w', Kept [] w1 w' → Calls Tryz.prog 24 #[.agg #[.int .i64 23, .int .i64 11, .int .i64 4, .slice ad 3 cc, .int .i64 3], .int .i64 3, .agg #[.int .i64 0, .int .i64 0, .int .i64 100, .int .i64 1, .slice (some ⟨w'.heap.size, 0, none⟩) 2 2, .string ⟨#[]⟩, .int .i64 0, .int .i64 0]] (w'.alloc (.cells #[.int .i64 1000, .int .i64 1010] 3)) (SeaF a8 true (w'.alloc (.cells #[.int .i64 1000, .int .i64 1010] 3)))) := fun w' kk => by
    have h := seal_form (seal_any (.agg #[.int .i64 23, .int .i64 11, .int .i64 4, .slice ad 3 cc, .int .i64 3]) (.agg (entC ea8 (.slice (some ⟨w'.heap.size, 0, none⟩) 2 2)).toArray) st8 3 ea8 (w'.alloc (.cells #[.int .i64 1000, .int .i64 1010] 3)) (stp8 (hrow.kept (kk.alloc _))) ⟨_, rfl, row_of_blk (cs := ints [1000, 1010]) (Blk.new w' 3 (ints [1000, 1010]).toArray) rfl (by decide)⟩ ISA ⟨by decide, by decide⟩ (hE.kept0 (hk1.trans (kk.alloc _))))
    have hz : sealZ st8 3 ea8 = (a8, true) := by unfold sealZ; rw [ok_a]; rfl
    rw [hz] at h
    exact h
  have SB : Hid (∀ w', Kept [] w1 w' → Calls Tryz.prog 24 #[.agg #[.int .i64 23, .int .i64 11, .int .i64 4, .slice ad 3 cc, .int .i64 3], .int .i64 3, .agg #[.int .i64 0, .int .i64 1, .int .i64 300, .int .i64 1, .slice (some ⟨w'.heap.size, 0, none⟩) 2 2, .string ⟨#[]⟩, .int .i64 0, .int .i64 0]] (w'.alloc (.cells #[.int .i64 0, .int .i64 most] 3)) (SeaF (b8 most) true (w'.alloc (.cells #[.int .i64 0, .int .i64 most] 3)))) := fun w' kk => by
    have h := seal_form (seal_any (.agg #[.int .i64 23, .int .i64 11, .int .i64 4, .slice ad 3 cc, .int .i64 3]) (.agg (entC (eb8 most) (.slice (some ⟨w'.heap.size, 0, none⟩) 2 2)).toArray) st8 3 (eb8 most) (w'.alloc (.cells #[.int .i64 0, .int .i64 most] 3)) (stp8 (hrow.kept (kk.alloc _))) ⟨_, rfl, row_of_blk (cs := ints [0, most]) (Blk.new w' 3 (ints [0, most]).toArray) rfl (by decide)⟩ ISB ⟨by decide, by decide⟩ (hE.kept0 (hk1.trans (kk.alloc _))))
    have hz : sealZ st8 3 (eb8 most) = ((b8 most), true) := by unfold sealZ; rw [ok_b most hm]; rfl
    rw [hz] at h
    exact h
  have SC : Hid (∀ w', Kept [] w1 w' → Calls Tryz.prog 24 #[.agg #[.int .i64 23, .int .i64 11, .int .i64 4, .slice ad 3 cc, .int .i64 3], .int .i64 5, .agg #[.int .i64 1, .int .i64 0, .int .i64 50, .int .i64 2, .slice (some ⟨w'.heap.size, 0, none⟩) 2 2, .string ⟨#[]⟩, .int .i64 0, .int .i64 0]] (w'.alloc (.cells #[.int .i64 0, .int .i64 1] 3)) (SeaF c8 true (w'.alloc (.cells #[.int .i64 0, .int .i64 1] 3)))) := fun w' kk => by
    have h := seal_form (seal_any (.agg #[.int .i64 23, .int .i64 11, .int .i64 4, .slice ad 3 cc, .int .i64 3]) (.agg (entC ec8 (.slice (some ⟨w'.heap.size, 0, none⟩) 2 2)).toArray) st8 5 ec8 (w'.alloc (.cells #[.int .i64 0, .int .i64 1] 3)) (stp8 (hrow.kept (kk.alloc _))) ⟨_, rfl, row_of_blk (cs := ints [0, 1]) (Blk.new w' 3 (ints [0, 1]).toArray) rfl (by decide)⟩ ISC ⟨by decide, by decide⟩ (hE.kept0 (hk1.trans (kk.alloc _))))
    have hz : sealZ st8 5 ec8 = (c8, true) := by unfold sealZ; rw [ok_c]; rfl
    rw [hz] at h
    exact h
  obtain ⟨a, ha⟩ : ∃ a, a8 = a := ⟨_, rfl⟩
  obtain ⟨b, hb⟩ : ∃ b, b8 most = b := ⟨_, rfl⟩
  obtain ⟨c, hc⟩ : ∃ c, c8 = c := ⟨_, rfl⟩
  have HL8 : Hid (l8 most = [c, b, a]) := by show _ = _; unfold l8; rw [ha, hb, hc]
  rw [ha] at SA
  rw [hb] at SB
  rw [hc] at SC
  have HK1 := Lib.hid hk1
  clear SU ha hb hc hk1 hrow hE ISA ISB ISC
  go_upto_region 2 with (fail)
  obtain ⟨W1, hW1⟩ : ∃ W1, w1.alloc (.cells #[.int .i64 23, .int .i64 11, .int .i64 4, .slice ad 3 cc, .int .i64 3] 26) = W1 := ⟨_, rfl⟩
  have hbs : Blk W1 w1.heap.size 26 #[.int .i64 23, .int .i64 11, .int .i64 4, .slice ad 3 cc, .int .i64 3] := hW1 ▸ Blk.new _ _ _
  have k1 : Kept [] w1 W1 := hW1 ▸ (Kept.refl _ _).alloc _
  rw [hW1]
  have HBS := Lib.hid hbs
  have K1 := Lib.hid k1
  clear hW1 hbs k1
  have hsa := HBS.out.kept (show Kept [] W1 W1 from Kept.refl _ _) (by simp)
  have s0 : W1.cell? ⟨w1.heap.size, 0, none⟩ = some (.int .i64 23) := hsa.cell 0
  have s1 : W1.cell? ⟨w1.heap.size, 1, none⟩ = some (.int .i64 11) := hsa.cell 1
  have s2 : W1.cell? ⟨w1.heap.size, 2, none⟩ = some (.int .i64 4) := hsa.cell 2
  have s3 : W1.cell? ⟨w1.heap.size, 3, none⟩ = some (.slice ad 3 cc) := hsa.cell 3
  have s4 : W1.cell? ⟨w1.heap.size, 4, none⟩ = some (.int .i64 3) := hsa.cell 4
  have SA1 := Lib.hid (SA.out W1 K1.out)
  clear hsa SA
  go_wp2_with (go_at_call 24; with_reducible refine SA1.out.mono ?_)
  rintro e va ⟨aa, ac, rfl, hst, kv⟩
  have HSa : Hid (∀ w', Kept [] va w' → Row w' 1 (.slice aa a.nums.length ac) a.nums.length (ints a.nums)) := fun w' kk => hst [] (by simp) [] w' kk (by simp)
  have Ka0 := Lib.hid (show Kept [] W1 va from ((Kept.refl _ _).alloc _).trans kv)
  clear s0 s1 s2 s3 s4 hst kv SA1
  go_upto_region 3 with (fail)
  obtain ⟨Va, hVa⟩ : ∃ V, va.alloc (.cells #[.int .i64 a.gate, .int .i64 a.no, .int .i64 a.time, .int .i64 a.kind, .slice aa a.nums.length ac, .string ⟨a.text.toArray⟩, .int .i64 a.c, .int .i64 a.s] 52) = V := ⟨_, rfl⟩
  have hba : Blk Va va.heap.size 52 #[.int .i64 a.gate, .int .i64 a.no, .int .i64 a.time, .int .i64 a.kind, .slice aa a.nums.length ac, .string ⟨a.text.toArray⟩, .int .i64 a.c, .int .i64 a.s] := hVa ▸ Blk.new _ _ _
  have kV : Kept [] va Va := hVa ▸ (Kept.refl _ _).alloc _
  rw [hVa]
  have HBa := Lib.hid hba
  have KVa := Lib.hid kV
  have KWVa := Lib.hid ((Ka0.out.trans kV))
  have KXa := Lib.hid (K1.out.trans (Ka0.out.trans kV))
  clear hVa hba kV
  have hsb := HBS.out.kept (show Kept [] W1 Va from KWVa.out) (by simp)
  have s0 : Va.cell? ⟨w1.heap.size, 0, none⟩ = some (.int .i64 23) := hsb.cell 0
  have s1 : Va.cell? ⟨w1.heap.size, 1, none⟩ = some (.int .i64 11) := hsb.cell 1
  have s2 : Va.cell? ⟨w1.heap.size, 2, none⟩ = some (.int .i64 4) := hsb.cell 2
  have s3 : Va.cell? ⟨w1.heap.size, 3, none⟩ = some (.slice ad 3 cc) := hsb.cell 3
  have s4 : Va.cell? ⟨w1.heap.size, 4, none⟩ = some (.int .i64 3) := hsb.cell 4
  have SB1 := Lib.hid (SB.out Va KXa.out)
  clear hsb SB
  go_wp2_with (go_at_call 24; with_reducible refine SB1.out.mono ?_)
  rintro e vb ⟨ba, bc, rfl, hst, kv⟩
  have HSb : Hid (∀ w', Kept [] vb w' → Row w' 1 (.slice ba b.nums.length bc) b.nums.length (ints b.nums)) := fun w' kk => hst [] (by simp) [] w' kk (by simp)
  have Kb0 := Lib.hid (show Kept [] Va vb from ((Kept.refl _ _).alloc _).trans kv)
  clear s0 s1 s2 s3 s4 hst kv SB1
  go_upto_region 4 with (fail)
  obtain ⟨Vb, hVb⟩ : ∃ V, vb.alloc (.cells #[.int .i64 b.gate, .int .i64 b.no, .int .i64 b.time, .int .i64 b.kind, .slice ba b.nums.length bc, .string ⟨b.text.toArray⟩, .int .i64 b.c, .int .i64 b.s] 52) = V := ⟨_, rfl⟩
  have hbb : Blk Vb vb.heap.size 52 #[.int .i64 b.gate, .int .i64 b.no, .int .i64 b.time, .int .i64 b.kind, .slice ba b.nums.length bc, .string ⟨b.text.toArray⟩, .int .i64 b.c, .int .i64 b.s] := hVb ▸ Blk.new _ _ _
  have kV : Kept [] vb Vb := hVb ▸ (Kept.refl _ _).alloc _
  rw [hVb]
  have HBb := Lib.hid hbb
  have KVb := Lib.hid kV
  have KWVb := Lib.hid ((KWVa.out.trans (Kb0.out.trans kV)))
  have KXb := Lib.hid (KXa.out.trans (Kb0.out.trans kV))
  clear hVb hbb kV
  have hsc := HBS.out.kept (show Kept [] W1 Vb from KWVb.out) (by simp)
  have s0 : Vb.cell? ⟨w1.heap.size, 0, none⟩ = some (.int .i64 23) := hsc.cell 0
  have s1 : Vb.cell? ⟨w1.heap.size, 1, none⟩ = some (.int .i64 11) := hsc.cell 1
  have s2 : Vb.cell? ⟨w1.heap.size, 2, none⟩ = some (.int .i64 4) := hsc.cell 2
  have s3 : Vb.cell? ⟨w1.heap.size, 3, none⟩ = some (.slice ad 3 cc) := hsc.cell 3
  have s4 : Vb.cell? ⟨w1.heap.size, 4, none⟩ = some (.int .i64 3) := hsc.cell 4
  have SC1 := Lib.hid (SC.out Vb KXb.out)
  clear hsc SC
  go_wp2_with (go_at_call 24; with_reducible refine SC1.out.mono ?_)
  rintro e vc ⟨ca, cq, rfl, hst, kv⟩
  have HSc : Hid (∀ w', Kept [] vc w' → Row w' 1 (.slice ca c.nums.length cq) c.nums.length (ints c.nums)) := fun w' kk => hst [] (by simp) [] w' kk (by simp)
  have Kc0 := Lib.hid (show Kept [] Vb vc from ((Kept.refl _ _).alloc _).trans kv)
  clear s0 s1 s2 s3 s4 hst kv SC1
  go_upto_region 5 with (fail)
  obtain ⟨Vc, hVc⟩ : ∃ V, vc.alloc (.cells #[.int .i64 c.gate, .int .i64 c.no, .int .i64 c.time, .int .i64 c.kind, .slice ca c.nums.length cq, .string ⟨c.text.toArray⟩, .int .i64 c.c, .int .i64 c.s] 52) = V := ⟨_, rfl⟩
  have hbc : Blk Vc vc.heap.size 52 #[.int .i64 c.gate, .int .i64 c.no, .int .i64 c.time, .int .i64 c.kind, .slice ca c.nums.length cq, .string ⟨c.text.toArray⟩, .int .i64 c.c, .int .i64 c.s] := hVc ▸ Blk.new _ _ _
  have kV : Kept [] vc Vc := hVc ▸ (Kept.refl _ _).alloc _
  rw [hVc]
  have HBc := Lib.hid hbc
  have KVc := Lib.hid kV
  have KWVc := Lib.hid ((KWVb.out.trans (Kc0.out.trans kV)))
  have KXc := Lib.hid (KXb.out.trans (Kc0.out.trans kV))
  clear hVc hbc kV
  have kab : Kept [] Va Vc := (Kb0.out.trans KVb.out).trans (Kc0.out.trans KVc.out)
  have kbc : Kept [] Vb Vc := Kc0.out.trans KVc.out
  have a0 : ∀ w', Kept [] Vc w' → w'.cell? ⟨va.heap.size, 0, none⟩ = some (.int .i64 a.gate) := Kept.cellOf ((HBa.out.kept kab (by simp)).cell 0)
  have a1 : ∀ w', Kept [] Vc w' → w'.cell? ⟨va.heap.size, 1, none⟩ = some (.int .i64 a.no) := Kept.cellOf ((HBa.out.kept kab (by simp)).cell 1)
  have a2 : ∀ w', Kept [] Vc w' → w'.cell? ⟨va.heap.size, 2, none⟩ = some (.int .i64 a.time) := Kept.cellOf ((HBa.out.kept kab (by simp)).cell 2)
  have a3 : ∀ w', Kept [] Vc w' → w'.cell? ⟨va.heap.size, 3, none⟩ = some (.int .i64 a.kind) := Kept.cellOf ((HBa.out.kept kab (by simp)).cell 3)
  have a4 : ∀ w', Kept [] Vc w' → w'.cell? ⟨va.heap.size, 4, none⟩ = some (.slice aa a.nums.length ac) := Kept.cellOf ((HBa.out.kept kab (by simp)).cell 4)
  have a5 : ∀ w', Kept [] Vc w' → w'.cell? ⟨va.heap.size, 5, none⟩ = some (.string ⟨a.text.toArray⟩) := Kept.cellOf ((HBa.out.kept kab (by simp)).cell 5)
  have a6 : ∀ w', Kept [] Vc w' → w'.cell? ⟨va.heap.size, 6, none⟩ = some (.int .i64 a.c) := Kept.cellOf ((HBa.out.kept kab (by simp)).cell 6)
  have a7 : ∀ w', Kept [] Vc w' → w'.cell? ⟨va.heap.size, 7, none⟩ = some (.int .i64 a.s) := Kept.cellOf ((HBa.out.kept kab (by simp)).cell 7)
  have b0 : ∀ w', Kept [] Vc w' → w'.cell? ⟨vb.heap.size, 0, none⟩ = some (.int .i64 b.gate) := Kept.cellOf ((HBb.out.kept kbc (by simp)).cell 0)
  have b1 : ∀ w', Kept [] Vc w' → w'.cell? ⟨vb.heap.size, 1, none⟩ = some (.int .i64 b.no) := Kept.cellOf ((HBb.out.kept kbc (by simp)).cell 1)
  have b2 : ∀ w', Kept [] Vc w' → w'.cell? ⟨vb.heap.size, 2, none⟩ = some (.int .i64 b.time) := Kept.cellOf ((HBb.out.kept kbc (by simp)).cell 2)
  have b3 : ∀ w', Kept [] Vc w' → w'.cell? ⟨vb.heap.size, 3, none⟩ = some (.int .i64 b.kind) := Kept.cellOf ((HBb.out.kept kbc (by simp)).cell 3)
  have b4 : ∀ w', Kept [] Vc w' → w'.cell? ⟨vb.heap.size, 4, none⟩ = some (.slice ba b.nums.length bc) := Kept.cellOf ((HBb.out.kept kbc (by simp)).cell 4)
  have b5 : ∀ w', Kept [] Vc w' → w'.cell? ⟨vb.heap.size, 5, none⟩ = some (.string ⟨b.text.toArray⟩) := Kept.cellOf ((HBb.out.kept kbc (by simp)).cell 5)
  have b6 : ∀ w', Kept [] Vc w' → w'.cell? ⟨vb.heap.size, 6, none⟩ = some (.int .i64 b.c) := Kept.cellOf ((HBb.out.kept kbc (by simp)).cell 6)
  have b7 : ∀ w', Kept [] Vc w' → w'.cell? ⟨vb.heap.size, 7, none⟩ = some (.int .i64 b.s) := Kept.cellOf ((HBb.out.kept kbc (by simp)).cell 7)
  have c0 : ∀ w', Kept [] Vc w' → w'.cell? ⟨vc.heap.size, 0, none⟩ = some (.int .i64 c.gate) := Kept.cellOf ((HBc.out.kept (Kept.refl [] Vc) (by simp)).cell 0)
  have c1 : ∀ w', Kept [] Vc w' → w'.cell? ⟨vc.heap.size, 1, none⟩ = some (.int .i64 c.no) := Kept.cellOf ((HBc.out.kept (Kept.refl [] Vc) (by simp)).cell 1)
  have c2 : ∀ w', Kept [] Vc w' → w'.cell? ⟨vc.heap.size, 2, none⟩ = some (.int .i64 c.time) := Kept.cellOf ((HBc.out.kept (Kept.refl [] Vc) (by simp)).cell 2)
  have c3 : ∀ w', Kept [] Vc w' → w'.cell? ⟨vc.heap.size, 3, none⟩ = some (.int .i64 c.kind) := Kept.cellOf ((HBc.out.kept (Kept.refl [] Vc) (by simp)).cell 3)
  have c4 : ∀ w', Kept [] Vc w' → w'.cell? ⟨vc.heap.size, 4, none⟩ = some (.slice ca c.nums.length cq) := Kept.cellOf ((HBc.out.kept (Kept.refl [] Vc) (by simp)).cell 4)
  have c5 : ∀ w', Kept [] Vc w' → w'.cell? ⟨vc.heap.size, 5, none⟩ = some (.string ⟨c.text.toArray⟩) := Kept.cellOf ((HBc.out.kept (Kept.refl [] Vc) (by simp)).cell 5)
  have c6 : ∀ w', Kept [] Vc w' → w'.cell? ⟨vc.heap.size, 6, none⟩ = some (.int .i64 c.c) := Kept.cellOf ((HBc.out.kept (Kept.refl [] Vc) (by simp)).cell 6)
  have c7 : ∀ w', Kept [] Vc w' → w'.cell? ⟨vc.heap.size, 7, none⟩ = some (.int .i64 c.s) := Kept.cellOf ((HBc.out.kept (Kept.refl [] Vc) (by simp)).cell 7)
  have RA : Hid (∀ w', Kept [] Vc w' → Row w' 1 (.slice aa a.nums.length ac) a.nums.length (ints a.nums)) := fun w' kk => HSa.out w' (KVa.out.trans (kab.trans kk))
  have RB : Hid (∀ w', Kept [] Vc w' → Row w' 1 (.slice ba b.nums.length bc) b.nums.length (ints b.nums)) := fun w' kk => HSb.out w' (KVb.out.trans (kbc.trans kk))
  have RC : Hid (∀ w', Kept [] Vc w' → Row w' 1 (.slice ca c.nums.length cq) c.nums.length (ints c.nums)) := fun w' kk => HSc.out w' (KVc.out.trans kk)
  have KE := Lib.hid (HK1.out.trans KXc.out)
  clear kab kbc
  go_region_held3 (fun w' => Kept [] Vc w') (repeat (first | (with_reducible assumption) | (with_reducible exact Kept.refl _ _) | (with_reducible refine Kept.drew ?_) | (with_reducible refine Kept.alloc ?_ _)))
    (fail)
  · rename_i hHeld
    have hkb : Blk (((Vc.alloc (.cells #[.int .i64 18, .int .i64 12] 3)).alloc (.cells #[.int .i64 c.gate, .int .i64 c.no, .int .i64 c.time, .int .i64 c.kind, .slice ca c.nums.length cq, .string ⟨c.text.toArray⟩, .int .i64 c.c, .int .i64 c.s, .int .i64 b.gate, .int .i64 b.no, .int .i64 b.time, .int .i64 b.kind, .slice ba b.nums.length bc, .string ⟨b.text.toArray⟩, .int .i64 b.c, .int .i64 b.s, .int .i64 a.gate, .int .i64 a.no, .int .i64 a.time, .int .i64 a.kind, .slice aa a.nums.length ac, .string ⟨a.text.toArray⟩, .int .i64 a.c, .int .i64 a.s] 52)).drew) (Vc.heap.size) 3 #[.int .i64 18, .int .i64 12] := (Blk.new Vc _ _).alloc _
    have heb : Blk (((Vc.alloc (.cells #[.int .i64 18, .int .i64 12] 3)).alloc (.cells #[.int .i64 c.gate, .int .i64 c.no, .int .i64 c.time, .int .i64 c.kind, .slice ca c.nums.length cq, .string ⟨c.text.toArray⟩, .int .i64 c.c, .int .i64 c.s, .int .i64 b.gate, .int .i64 b.no, .int .i64 b.time, .int .i64 b.kind, .slice ba b.nums.length bc, .string ⟨b.text.toArray⟩, .int .i64 b.c, .int .i64 b.s, .int .i64 a.gate, .int .i64 a.no, .int .i64 a.time, .int .i64 a.kind, .slice aa a.nums.length ac, .string ⟨a.text.toArray⟩, .int .i64 a.c, .int .i64 a.s] 52)).drew) (Vc.heap.size + 1) 52 #[.int .i64 c.gate, .int .i64 c.no, .int .i64 c.time, .int .i64 c.kind, .slice ca c.nums.length cq, .string ⟨c.text.toArray⟩, .int .i64 c.c, .int .i64 c.s, .int .i64 b.gate, .int .i64 b.no, .int .i64 b.time, .int .i64 b.kind, .slice ba b.nums.length bc, .string ⟨b.text.toArray⟩, .int .i64 b.c, .int .i64 b.s, .int .i64 a.gate, .int .i64 a.no, .int .i64 a.time, .int .i64 a.kind, .slice aa a.nums.length ac, .string ⟨a.text.toArray⟩, .int .i64 a.c, .int .i64 a.s] := by
      have := Blk.new (Vc.alloc (.cells #[.int .i64 18, .int .i64 12] 3)) 52 #[.int .i64 c.gate, .int .i64 c.no, .int .i64 c.time, .int .i64 c.kind, .slice ca c.nums.length cq, .string ⟨c.text.toArray⟩, .int .i64 c.c, .int .i64 c.s, .int .i64 b.gate, .int .i64 b.no, .int .i64 b.time, .int .i64 b.kind, .slice ba b.nums.length bc, .string ⟨b.text.toArray⟩, .int .i64 b.c, .int .i64 b.s, .int .i64 a.gate, .int .i64 a.no, .int .i64 a.time, .int .i64 a.kind, .slice aa a.nums.length ac, .string ⟨a.text.toArray⟩, .int .i64 a.c, .int .i64 a.s]
      rw [World.size_alloc] at this
      exact this
    have HKE := Lib.hid (KE.out.trans hHeld)
    have HR : Hid (Row (((Vc.alloc (.cells #[.int .i64 18, .int .i64 12] 3)).alloc (.cells #[.int .i64 c.gate, .int .i64 c.no, .int .i64 c.time, .int .i64 c.kind, .slice ca c.nums.length cq, .string ⟨c.text.toArray⟩, .int .i64 c.c, .int .i64 c.s, .int .i64 b.gate, .int .i64 b.no, .int .i64 b.time, .int .i64 b.kind, .slice ba b.nums.length bc, .string ⟨b.text.toArray⟩, .int .i64 b.c, .int .i64 b.s, .int .i64 a.gate, .int .i64 a.no, .int .i64 a.time, .int .i64 a.kind, .slice aa a.nums.length ac, .string ⟨a.text.toArray⟩, .int .i64 a.c, .int .i64 a.s] 52)).drew) 1 (.slice (some ⟨Vc.heap.size, 0, none⟩) 2 2) 2 (ints keys8)) := row_of_blk (cs := ints keys8) hkb rfl (by decide)
    have HE : Hid (EntsV (((Vc.alloc (.cells #[.int .i64 18, .int .i64 12] 3)).alloc (.cells #[.int .i64 c.gate, .int .i64 c.no, .int .i64 c.time, .int .i64 c.kind, .slice ca c.nums.length cq, .string ⟨c.text.toArray⟩, .int .i64 c.c, .int .i64 c.s, .int .i64 b.gate, .int .i64 b.no, .int .i64 b.time, .int .i64 b.kind, .slice ba b.nums.length bc, .string ⟨b.text.toArray⟩, .int .i64 b.c, .int .i64 b.s, .int .i64 a.gate, .int .i64 a.no, .int .i64 a.time, .int .i64 a.kind, .slice aa a.nums.length ac, .string ⟨a.text.toArray⟩, .int .i64 a.c, .int .i64 a.s] 52)).drew) (.slice (some ⟨Vc.heap.size + 1, 0, none⟩) 3 3) (l8 most)) := by
      rw [HL8.out]
      exact ents_blk [(c, .slice ca c.nums.length cq), (b, .slice ba b.nums.length bc), (a, .slice aa a.nums.length ac)] heb (fun p hp => by
        simp only [List.mem_cons, List.not_mem_nil, or_false] at hp
        rcases hp with rfl | rfl | rfl
        · exact RC.out _ hHeld
        · exact RB.out _ hHeld
        · exact RA.out _ hHeld) (by simp)
    obtain ⟨Y, hY⟩ : ∃ Y, ((Vc.alloc (.cells #[.int .i64 18, .int .i64 12] 3)).alloc (.cells #[.int .i64 c.gate, .int .i64 c.no, .int .i64 c.time, .int .i64 c.kind, .slice ca c.nums.length cq, .string ⟨c.text.toArray⟩, .int .i64 c.c, .int .i64 c.s, .int .i64 b.gate, .int .i64 b.no, .int .i64 b.time, .int .i64 b.kind, .slice ba b.nums.length bc, .string ⟨b.text.toArray⟩, .int .i64 b.c, .int .i64 b.s, .int .i64 a.gate, .int .i64 a.no, .int .i64 a.time, .int .i64 a.kind, .slice aa a.nums.length ac, .string ⟨a.text.toArray⟩, .int .i64 a.c, .int .i64 a.s] 52)).drew = Y := ⟨_, rfl⟩
    rw [hY] at HKE HR HE ⊢
    clear hHeld hkb heb hY a0 b0 c0 a1 b1 c1 a2 b2 c2 a3 b3 c3 a4 b4 c4 a5 b5 c5 a6 b6 c6 a7 b7 c7
    go_wp2_with fail
    go_ret2
    exact ⟨_, _, rfl, HR.out, HE.out, HKE.out⟩
  · rename_i hHeld
    have hkb : Blk (((Vc.alloc (.cells #[.int .i64 c.gate, .int .i64 c.no, .int .i64 c.time, .int .i64 c.kind, .slice ca c.nums.length cq, .string ⟨c.text.toArray⟩, .int .i64 c.c, .int .i64 c.s, .int .i64 b.gate, .int .i64 b.no, .int .i64 b.time, .int .i64 b.kind, .slice ba b.nums.length bc, .string ⟨b.text.toArray⟩, .int .i64 b.c, .int .i64 b.s, .int .i64 a.gate, .int .i64 a.no, .int .i64 a.time, .int .i64 a.kind, .slice aa a.nums.length ac, .string ⟨a.text.toArray⟩, .int .i64 a.c, .int .i64 a.s] 52)).alloc (.cells #[.int .i64 18, .int .i64 12] 3)).drew) (Vc.heap.size + 1) 3 #[.int .i64 18, .int .i64 12] := by
      have := Blk.new (Vc.alloc (.cells #[.int .i64 c.gate, .int .i64 c.no, .int .i64 c.time, .int .i64 c.kind, .slice ca c.nums.length cq, .string ⟨c.text.toArray⟩, .int .i64 c.c, .int .i64 c.s, .int .i64 b.gate, .int .i64 b.no, .int .i64 b.time, .int .i64 b.kind, .slice ba b.nums.length bc, .string ⟨b.text.toArray⟩, .int .i64 b.c, .int .i64 b.s, .int .i64 a.gate, .int .i64 a.no, .int .i64 a.time, .int .i64 a.kind, .slice aa a.nums.length ac, .string ⟨a.text.toArray⟩, .int .i64 a.c, .int .i64 a.s] 52)) 3 #[.int .i64 18, .int .i64 12]
      rw [World.size_alloc] at this
      exact this
    have heb : Blk (((Vc.alloc (.cells #[.int .i64 c.gate, .int .i64 c.no, .int .i64 c.time, .int .i64 c.kind, .slice ca c.nums.length cq, .string ⟨c.text.toArray⟩, .int .i64 c.c, .int .i64 c.s, .int .i64 b.gate, .int .i64 b.no, .int .i64 b.time, .int .i64 b.kind, .slice ba b.nums.length bc, .string ⟨b.text.toArray⟩, .int .i64 b.c, .int .i64 b.s, .int .i64 a.gate, .int .i64 a.no, .int .i64 a.time, .int .i64 a.kind, .slice aa a.nums.length ac, .string ⟨a.text.toArray⟩, .int .i64 a.c, .int .i64 a.s] 52)).alloc (.cells #[.int .i64 18, .int .i64 12] 3)).drew) (Vc.heap.size) 52 #[.int .i64 c.gate, .int .i64 c.no, .int .i64 c.time, .int .i64 c.kind, .slice ca c.nums.length cq, .string ⟨c.text.toArray⟩, .int .i64 c.c, .int .i64 c.s, .int .i64 b.gate, .int .i64 b.no, .int .i64 b.time, .int .i64 b.kind, .slice ba b.nums.length bc, .string ⟨b.text.toArray⟩, .int .i64 b.c, .int .i64 b.s, .int .i64 a.gate, .int .i64 a.no, .int .i64 a.time, .int .i64 a.kind, .slice aa a.nums.length ac, .string ⟨a.text.toArray⟩, .int .i64 a.c, .int .i64 a.s] := (Blk.new Vc _ _).alloc _
    have HKE := Lib.hid (KE.out.trans hHeld)
    have HR : Hid (Row (((Vc.alloc (.cells #[.int .i64 c.gate, .int .i64 c.no, .int .i64 c.time, .int .i64 c.kind, .slice ca c.nums.length cq, .string ⟨c.text.toArray⟩, .int .i64 c.c, .int .i64 c.s, .int .i64 b.gate, .int .i64 b.no, .int .i64 b.time, .int .i64 b.kind, .slice ba b.nums.length bc, .string ⟨b.text.toArray⟩, .int .i64 b.c, .int .i64 b.s, .int .i64 a.gate, .int .i64 a.no, .int .i64 a.time, .int .i64 a.kind, .slice aa a.nums.length ac, .string ⟨a.text.toArray⟩, .int .i64 a.c, .int .i64 a.s] 52)).alloc (.cells #[.int .i64 18, .int .i64 12] 3)).drew) 1 (.slice (some ⟨Vc.heap.size + 1, 0, none⟩) 2 2) 2 (ints keys8)) := row_of_blk (cs := ints keys8) hkb rfl (by decide)
    have HE : Hid (EntsV (((Vc.alloc (.cells #[.int .i64 c.gate, .int .i64 c.no, .int .i64 c.time, .int .i64 c.kind, .slice ca c.nums.length cq, .string ⟨c.text.toArray⟩, .int .i64 c.c, .int .i64 c.s, .int .i64 b.gate, .int .i64 b.no, .int .i64 b.time, .int .i64 b.kind, .slice ba b.nums.length bc, .string ⟨b.text.toArray⟩, .int .i64 b.c, .int .i64 b.s, .int .i64 a.gate, .int .i64 a.no, .int .i64 a.time, .int .i64 a.kind, .slice aa a.nums.length ac, .string ⟨a.text.toArray⟩, .int .i64 a.c, .int .i64 a.s] 52)).alloc (.cells #[.int .i64 18, .int .i64 12] 3)).drew) (.slice (some ⟨Vc.heap.size, 0, none⟩) 3 3) (l8 most)) := by
      rw [HL8.out]
      exact ents_blk [(c, .slice ca c.nums.length cq), (b, .slice ba b.nums.length bc), (a, .slice aa a.nums.length ac)] heb (fun p hp => by
        simp only [List.mem_cons, List.not_mem_nil, or_false] at hp
        rcases hp with rfl | rfl | rfl
        · exact RC.out _ hHeld
        · exact RB.out _ hHeld
        · exact RA.out _ hHeld) (by simp)
    obtain ⟨Y, hY⟩ : ∃ Y, ((Vc.alloc (.cells #[.int .i64 c.gate, .int .i64 c.no, .int .i64 c.time, .int .i64 c.kind, .slice ca c.nums.length cq, .string ⟨c.text.toArray⟩, .int .i64 c.c, .int .i64 c.s, .int .i64 b.gate, .int .i64 b.no, .int .i64 b.time, .int .i64 b.kind, .slice ba b.nums.length bc, .string ⟨b.text.toArray⟩, .int .i64 b.c, .int .i64 b.s, .int .i64 a.gate, .int .i64 a.no, .int .i64 a.time, .int .i64 a.kind, .slice aa a.nums.length ac, .string ⟨a.text.toArray⟩, .int .i64 a.c, .int .i64 a.s] 52)).alloc (.cells #[.int .i64 18, .int .i64 12] 3)).drew = Y := ⟨_, rfl⟩
    rw [hY] at HKE HR HE ⊢
    clear hHeld hkb heb hY a0 b0 c0 a1 b1 c1 a2 b2 c2 a3 b3 c3 a4 b4 c4 a5 b5 c5 a6 b6 c6 a7 b7 c7
    go_wp2_with fail
    go_ret2
    exact ⟨_, _, rfl, HR.out, HE.out, HKE.out⟩
end Go.Proofs.YtcidfldeiklcjaaGreatDoor
