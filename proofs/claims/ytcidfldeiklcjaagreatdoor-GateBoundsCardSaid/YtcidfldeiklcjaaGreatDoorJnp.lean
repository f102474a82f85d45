/- Lists of entries in memory, as Join makes them. -/
import Derived.Test.YtcidfldeiklcjaaGreatDoorIvu
import Derived.Test.YtcidfldeiklcjaaGreatDoorSgd
import Derived.Test.YtcidfldeiklcjaaGreatDoorFmp
/- JOINED: Gsd Jnp -/
/- Signed entries. -/
namespace Go.Proofs.YtcidfldeiklcjaaGreatDoor
open Go.RowKit Tm Tape

/-- whether an entry is signed -/
def signedB (s : Stp) (keys : List Int) (e : Ent) : Bool := formedB s e && (decide (e.gate < keys.length) && sigB s (nth keys e.gate.toNat) (bodyE e) e.c e.s)

set_option maxRecDepth 100000 in
set_option maxHeartbeats 4000000 in
theorem gsigned_any (vs vk ve : Value) (s : Stp) (keys : List Int) (e : Ent) (w : World) (hs : StpV w vs s) (hk : Row w 1 vk keys.length (ints keys)) (he : EntA w ve e) (hi : EntI e) (hki : ∀ x ∈ keys, Wire.I64 x) (hE : Env2 w) :
    Calls Tryz.prog 40 #[vs, vk, ve] w fun en w' => en = .returned (.bool (signedB s keys e)) ∧ Kept [] w w' := by
  have hs' := hs
  have he' := he
  obtain ⟨⟨ad, cc, rfl, hrow⟩, ip, iq, ig, ib, il⟩ := hs'
  obtain ⟨u, rfl, hnu⟩ := he'
  obtain ⟨ua, uc, rfl, _, _⟩ := hnu.form
  obtain ⟨ka, kc, rfl, _, _⟩ := hk.form
  obtain ⟨W, hW⟩ : ∃ W, (w.alloc (.cells (stpA s (.slice ad s.bases.length cc)) 26)).alloc (.cells (entC e (.slice ua e.nums.length uc)).toArray 52) = W := ⟨_, rfl⟩
  have hb : Blk W w.heap.size 26 (stpA s (.slice ad s.bases.length cc)) := hW ▸ (Blk.new _ _ _).alloc _
  have hz : Blk W (w.heap.size + 1) 52 (entC e (.slice ua e.nums.length uc)).toArray := by
    have := Blk.new (w.alloc (.cells (stpA s (.slice ad s.bases.length cc)) 26)) 52 (entC e (.slice ua e.nums.length uc)).toArray
    rw [hW, World.size_alloc] at this
    exact this
  have hkW : Kept [] w W := hW ▸ ((Kept.refl _ _).alloc _).alloc _
  have FO : Hid (∀ x : KW W, Calls Tryz.prog 52 #[.agg #[.int .i64 s.P, .int .i64 s.Q, .int .i64 s.G, .slice ad s.bases.length cc, .int .i64 s.blind], .agg #[.int .i64 e.gate, .int .i64 e.no, .int .i64 e.time, .int .i64 e.kind, .slice ua e.nums.length uc, .string ⟨e.text.toArray⟩, .int .i64 e.c, .int .i64 e.s]] x.val fun en w2 => en = .returned (.bool (formedB s e)) ∧ Kept [] x.val w2) := fun x =>
    formed_any _ _ s e x.val (hs.kept (hkW.trans x.property)) (he.kept (hkW.trans x.property)) hi (hE.kept0 (hkW.trans x.property))
  have BO : Hid (∀ x : KW W, Calls Tryz.prog 53 #[.agg #[.int .i64 e.gate, .int .i64 e.no, .int .i64 e.time, .int .i64 e.kind, .slice ua e.nums.length uc, .string ⟨e.text.toArray⟩, .int .i64 e.c, .int .i64 e.s]] x.val fun en w2 => en = .returned (.string ⟨(bodyE e).toArray⟩) ∧ Kept [] x.val w2) := fun x =>
    body_any _ e x.val (he.kept (hkW.trans x.property)) hi (hE.kept0 (hkW.trans x.property)).toEnv
  have SG : Hid (∀ pub, Wire.I64 pub → ∀ x : KW W, Calls Tryz.prog 71 #[.agg #[.int .i64 s.P, .int .i64 s.Q, .int .i64 s.G, .slice ad s.bases.length cc, .int .i64 s.blind], .int .i64 pub, .string ⟨(bodyE e).toArray⟩, .agg #[.int .i64 e.c, .int .i64 e.s]] x.val fun en w2 => en = .returned (.bool (sigB s pub (bodyE e) e.c e.s)) ∧ Kept [] x.val w2) := fun pub hp x => by
    have := bodyE_len e hi
    exact signed_any _ s pub e.c e.s (bodyE e) x.val (hs.kept (hkW.trans x.property)) hp hi.h5 hi.h6 (by omega) (hE.kept0 (hkW.trans x.property))
  have s0 : ∀ x : KW W, x.val.cell? ⟨w.heap.size, 0, none⟩ = some (.int .i64 s.P) := fun x => x.cell (hb.cell 0)
  have s1 : ∀ x : KW W, x.val.cell? ⟨w.heap.size, 1, none⟩ = some (.int .i64 s.Q) := fun x => x.cell (hb.cell 1)
  have s2 : ∀ x : KW W, x.val.cell? ⟨w.heap.size, 2, none⟩ = some (.int .i64 s.G) := fun x => x.cell (hb.cell 2)
  have s3 : ∀ x : KW W, x.val.cell? ⟨w.heap.size, 3, none⟩ = some (.slice ad s.bases.length cc) := fun x => x.cell (hb.cell 3)
  have s4 : ∀ x : KW W, x.val.cell? ⟨w.heap.size, 4, none⟩ = some (.int .i64 s.blind) := fun x => x.cell (hb.cell 4)
  have c0 : ∀ x : KW W, x.val.cell? ⟨w.heap.size + 1, 0, none⟩ = some (.int .i64 e.gate) := fun x => x.cell (hz.cell 0)
  have c1 : ∀ x : KW W, x.val.cell? ⟨w.heap.size + 1, 1, none⟩ = some (.int .i64 e.no) := fun x => x.cell (hz.cell 1)
  have c2 : ∀ x : KW W, x.val.cell? ⟨w.heap.size + 1, 2, none⟩ = some (.int .i64 e.time) := fun x => x.cell (hz.cell 2)
  have c3 : ∀ x : KW W, x.val.cell? ⟨w.heap.size + 1, 3, none⟩ = some (.int .i64 e.kind) := fun x => x.cell (hz.cell 3)
  have c4 : ∀ x : KW W, x.val.cell? ⟨w.heap.size + 1, 4, none⟩ = some (.slice ua e.nums.length uc) := fun x => x.cell (hz.cell 4)
  have c5 : ∀ x : KW W, x.val.cell? ⟨w.heap.size + 1, 5, none⟩ = some (.string ⟨e.text.toArray⟩) := fun x => x.cell (hz.cell 5)
  have c6 : ∀ x : KW W, x.val.cell? ⟨w.heap.size + 1, 6, none⟩ = some (.int .i64 e.c) := fun x => x.cell (hz.cell 6)
  have c7 : ∀ x : KW W, x.val.cell? ⟨w.heap.size + 1, 7, none⟩ = some (.int .i64 e.s) := fun x => x.cell (hz.cell 7)
  have HKR := Lib.hid (hk.kept hkW)
  have HW := Lib.hid hW
  have HKW := Lib.hid hkW
  have HKI := Lib.hid hki
  have HSB : Hid (signedB s keys e = (formedB s e && (decide (e.gate < keys.length) && sigB s (nth keys e.gate.toNat) (bodyE e) e.c e.s))) := rfl
  have HWF : Hid (formedB s e = true → 0 ≤ e.gate) := fun h => (formedB_wf h).2.2.1.1
  obtain ⟨R, hR⟩ : ∃ R, signedB s keys e = R := ⟨_, rfl⟩
  rw [hR] at HSB ⊢
  obtain ⟨b1, hb1⟩ : ∃ b, formedB s e = b := ⟨_, rfl⟩
  rw [hb1] at FO HSB HWF
  clear hW hb hz hrow hR hb1 hkW hs he hnu hk hi hki hE ib
  show Calls _ _ #[.agg #[.int .i64 s.P, .int .i64 s.Q, .int .i64 s.G, .slice ad s.bases.length cc, .int .i64 s.blind], _, .agg #[.int .i64 e.gate, .int .i64 e.no, .int .i64 e.time, .int .i64 e.kind, .slice ua e.nums.length uc, .string ⟨e.text.toArray⟩, .int .i64 e.c, .int .i64 e.s]] _ _
  cases b1
  · have hR := HSB.out
    simp only [Bool.false_and] at hR
    subst hR
    go_enter Tryz.func40, Tryz.ntmps40
    go_upto_region 1 with (fail)
    have hW' : (w.alloc (.cells #[.int .i64 s.P, .int .i64 s.Q, .int .i64 s.G, .slice ad s.bases.length cc, .int .i64 s.blind] 26)).alloc (.cells #[.int .i64 e.gate, .int .i64 e.no, .int .i64 e.time, .int .i64 e.kind, .slice ua e.nums.length uc, .string ⟨e.text.toArray⟩, .int .i64 e.c, .int .i64 e.s] 52) = W := HW.out
    rw [hW']
    clear hW'
    refine wp_region_kept W (Kept.refl _ _) (by kernel_rfl) (by kernel_rfl) ?_
    repeat (go_big_quiet_step (first | (go_at_call 52; exact quiet_kept (FO.out _))))
    refine wpQuiet_nil ?_
    rintro w5 ⟨⟨_, hk5⟩, rfl⟩
    go_wp2_with fail
    go_ret
    exact ⟨rfl, HKW.out.trans hk5⟩
  by_cases hg : e.gate < keys.length
  rotate_left
  · have hR := HSB.out
    rw [decide_eq_false hg] at hR
    simp only [Bool.false_and, Bool.and_false] at hR
    subst hR
    have dg : decide (e.gate < (keys.length : Int)) = false := decide_eq_false hg
    clear hg
    go_enter Tryz.func40, Tryz.ntmps40
    go_upto_region 1 with (fail)
    have hW' : (w.alloc (.cells #[.int .i64 s.P, .int .i64 s.Q, .int .i64 s.G, .slice ad s.bases.length cc, .int .i64 s.blind] 26)).alloc (.cells #[.int .i64 e.gate, .int .i64 e.no, .int .i64 e.time, .int .i64 e.kind, .slice ua e.nums.length uc, .string ⟨e.text.toArray⟩, .int .i64 e.c, .int .i64 e.s] 52) = W := HW.out
    rw [hW']
    clear hW'
    refine wp_region_kept W (Kept.refl _ _) (by kernel_rfl) (by kernel_rfl) ?_
    repeat (go_big_quiet_step (first | (go_at_call 52; exact quiet_kept (FO.out _))))
    refine wpQuiet_nil ?_
    rintro w5 ⟨⟨_, hk5⟩, rfl⟩
    go_wp2_with fail
    go_ret
    exact ⟨rfl, HKW.out.trans hk5⟩
  have hR := HSB.out
  rw [decide_eq_true hg] at hR
  simp only [Bool.true_and] at hR
  obtain ⟨g, hgn⟩ := Int.eq_ofNat_of_zero_le (HWF.out (by trivial))
  have hgl : g < keys.length := by omega
  obtain ⟨kb, ko, rfl, hcell⟩ := HKR.out.at_ (by omega)
  have y0 : ∀ x : KW W, x.val.cell? ⟨kb, ko + g, none⟩ = some (.int .i64 keys[g]) := fun x => x.cell (hcell g _ (ints_get hgl))
  rw [hgn, Int.toNat_natCast, show nth keys g = keys[g] by unfold nth; rw [List.getD_eq_getElem?_getD, List.getElem?_eq_getElem hgl]; rfl] at hR
  have SG2 := SG.out keys[g] (HKI.out _ (List.getElem_mem hgl))
  rw [← hR] at SG2
  have SG3 := Lib.hid SG2
  have dg : decide ((g : Int) < (keys.length : Int)) = true := decide_eq_true (by omega)
  have hgi : Hid (e.gate = (g : Int)) := hgn
  have cg : ∀ x : KW W, x.val.cell? ⟨w.heap.size + 1, 0, none⟩ = some (.int .i64 (g : Int)) := fun x => by rw [← hgi.out]; exact c0 x
  clear hR SG2 hcell hg SG
  obtain ⟨eg, heg⟩ : ∃ eg, e.gate = eg := ⟨_, rfl⟩
  have HW2 : Hid ((w.alloc (.cells #[.int .i64 s.P, .int .i64 s.Q, .int .i64 s.G, .slice ad s.bases.length cc, .int .i64 s.blind] 26)).alloc (.cells #[.int .i64 e.gate, .int .i64 e.no, .int .i64 e.time, .int .i64 e.kind, .slice ua e.nums.length uc, .string ⟨e.text.toArray⟩, .int .i64 e.c, .int .i64 e.s] 52) = W) := HW.out
  rw [heg] at FO BO HW2 c0 ⊢
  have hge : eg = (g : Int) := heg.symm.trans hgn
  subst hge
  clear heg hgn cg
  go_enter Tryz.func40, Tryz.ntmps40
  go_upto_region 1 with (fail)
  have hW' : (w.alloc (.cells #[.int .i64 s.P, .int .i64 s.Q, .int .i64 s.G, .slice ad s.bases.length cc, .int .i64 s.blind] 26)).alloc (.cells #[.int .i64 (g : Int), .int .i64 e.no, .int .i64 e.time, .int .i64 e.kind, .slice ua e.nums.length uc, .string ⟨e.text.toArray⟩, .int .i64 e.c, .int .i64 e.s] 52) = W := HW2.out
  rw [hW']
  clear hW'
  refine wp_region_kept W (Kept.refl _ _) (by kernel_rfl) (by kernel_rfl) ?_
  repeat (go_big_quiet_step (first | (go_at_call 52; exact quiet_kept (FO.out _)) | (go_at_call 53; exact quiet_kept (BO.out _)) | (go_at_call 71; exact quiet_kept (SG3.out _))))
  refine wpQuiet_nil ?_
  rintro w5 ⟨⟨_, hk5⟩, rfl⟩
  go_wp2_with fail
  go_ret
  exact ⟨rfl, HKW.out.trans hk5⟩
end Go.Proofs.YtcidfldeiklcjaaGreatDoor
namespace Go.Proofs.YtcidfldeiklcjaaGreatDoor
open Go.RowKit Tm

def zeroEnt : Ent := ⟨0, 0, 0, 0, [], [], 0, 0⟩
theorem flatE_get (m : Nat) (f : Nat → EV) (k : Nat) (u : Value) (h : ((List.range m).map fun i => entC (f i).1 (f i).2).flatten[k]? = some u) : k / 8 < m ∧ (entC (f (k / 8)).1 (f (k / 8)).2)[k % 8]? = some u := by
  have hl : ∀ c ∈ (List.range m).map fun i => entC (f i).1 (f i).2, c.length = 8 := fun c hc => by
    obtain ⟨i, _, rfl⟩ := List.mem_map.1 hc
    rfl
  have h1 := (List.getElem?_eq_some_iff.1 h).1
  rw [flatten_len _ 8 hl, List.length_map, List.length_range] at h1
  have h2 : k / 8 < m := by omega
  refine ⟨h2, ?_⟩
  have h3 := flatten_get ((List.range m).map fun i => entC (f i).1 (f i).2) 8 (k / 8) (k % 8) (entC (f (k / 8)).1 (f (k / 8)).2) hl (by simp [h2]) (Nat.mod_lt _ (by omega))
  rw [show k / 8 * 8 + k % 8 = k by omega, h] at h3
  exact h3.symm
/-- the entries of a block read as a list -/
theorem EC.list {w : World} {rb m cap : Nat} {f : Nat → EV} (h : EC w rb m f) (hn : NumsAt m f w) (hm : m ≤ 1000000) (hc : m ≤ cap) : EntsV w (.slice (some ⟨rb, 0, none⟩) m cap) ((List.range m).map fun i => (f i).1) := by
  refine ⟨(List.range m).map fun i => entC (f i).1 (f i).2, by simp, fun c hc => ?_, fun k a hk => ?_, ?_⟩
  · obtain ⟨i, _, rfl⟩ := List.mem_map.1 hc
    rfl
  · have hkm : k < m := by have := (List.getElem?_eq_some_iff.1 hk).1; simpa using this
    rw [List.getElem?_map, List.getElem?_range hkm] at hk
    simp only [Option.map_some, Option.some.injEq] at hk
    subst hk
    refine ⟨entC (f k).1 (f k).2, by simp [hkm], (f k).2, rfl, hn k hkm⟩
  · rw [List.length_map, List.length_range]
    refine ⟨?_, by omega, _, _, rfl, hc, fun _ => ⟨_, _, rfl, fun k u hu => ?_⟩⟩
    · rw [flatten_len _ 8 (fun c hc => by obtain ⟨i, _, rfl⟩ := List.mem_map.1 hc; rfl), List.length_map, List.length_range]
    · obtain ⟨h1, h2⟩ := flatE_get m f k u hu
      have h3 := h.cell (k / 8) h1 (k % 8) u h2
      rw [show k / 8 * 8 + k % 8 = k by omega] at h3
      rw [Nat.zero_add]
      exact h3
/-- a row that grows, as entries of a block -/
theorem Grow.ents {B : Nat} {X : List Nat} {w : World} {v : Value} {l : List Ent} (h : Grow EntR 8 52 B X w v l) (hvX : ∀ z ∈ obl v, z ∈ X) (hl : 0 < l.length) :
    ∃ (g cap : Nat) (f : Nat → EV), v = .slice (some ⟨g, 0, none⟩) l.length cap ∧ l.length ≤ cap ∧ B ≤ g ∧ EC w g l.length f ∧ Stable [g] (NumsAt l.length f) w ∧ (∀ i (hi : i < l.length), (f i).1 = l[i]) := by
  obtain ⟨vs, h1, h2⟩ := h
  rcases h1.2 with ⟨_, hn0⟩ | ⟨g, cap, cur, hv, hB, hg, hnc, _, hcs, htk⟩
  · omega
  have hgX : g ∈ X := hvX g (by rw [hv]; exact obl_some rfl)
  have h3 := h2.get
  have hvl := h3.1
  have key : ∀ w', Elems EntR 8 vs l w' → ∀ i (hi : i < l.length), vs[i]? = some (entC l[i] ((vs.getD i []).getD 4 default)) ∧ Row w' 1 ((vs.getD i []).getD 4 default) l[i].nums.length (ints l[i].nums) := fun w' he i hi => by
    obtain ⟨c, hc, v, rfl, hr⟩ := he.2.2 i _ (List.getElem?_eq_getElem hi)
    have hd : (vs.getD i []).getD 4 default = v := by
      have : vs.getD i [] = entC l[i] v := by rw [List.getD_eq_getElem?_getD, hc]; rfl
      rw [this]; rfl
    rw [hd]
    exact ⟨hc, hr⟩
  refine ⟨g, cap, fun i => (l.getD i zeroEnt, (vs.getD i []).getD 4 default), hv, hnc, hB, ⟨fun i hi j u hu => ?_, fun k => ?_, (Array.getElem?_eq_some_iff.1 hg).1⟩, fun S w' k hS => ?_, fun i hi => ?_⟩
  · simp only [List.getD_eq_getElem?_getD (l := l), List.getElem?_eq_getElem hi, Option.getD_some] at hu
    have hj : j < 8 := by have := (List.getElem?_eq_some_iff.1 hu).1; simpa [entC] using this
    have h5 := flatten_get vs 8 i j _ h3.2.1 (key w h3 i hi).1 hj
    rw [hu, ← htk, List.getElem?_take] at h5
    have hb : Blk w g 52 cur := hg
    rw [hb.cell]
    rw [if_pos (by omega)] at h5
    simpa using h5
  · have hb : Blk w g 52 cur := hg
    exact hb.frozen k
  · have h4 := h2 S w' k (fun z hz hlt => by have := hS z hz hlt; rw [List.mem_singleton] at this; rw [this]; exact hgX)
    intro i hi
    simp only [List.getD_eq_getElem?_getD (l := l), List.getElem?_eq_getElem hi, Option.getD_some]
    exact (key w' h4 i hi).2
  · simp only [List.getD_eq_getElem?_getD (l := l), List.getElem?_eq_getElem hi, Option.getD_some]
theorem up_of {m : Nat} {f : Nat → EV} (h : StrictE m f) : Up ((List.range m).map fun i => (f i).1) := by
  rw [Up, List.pairwise_iff_getElem]
  intro i j hi hj hij
  simp only [List.length_map, List.length_range] at hi hj
  simp only [List.getElem_map, List.getElem_range]
  exact h i j hij hj
theorem mem_range (m : Nat) (f : Nat → EV) (z : Ent) : z ∈ (List.range m).map (fun i => (f i).1) ↔ ∃ i, i < m ∧ (f i).1 = z := by
  rw [List.mem_map]
  constructor
  · rintro ⟨i, hi, h⟩; exact ⟨i, List.mem_range.1 hi, h⟩
  · rintro ⟨i, hi, h⟩; exact ⟨i, List.mem_range.2 hi, h⟩
/-- a joined list -/
theorem join_of {n m : Nat} {f0 f f2 : Nat → EV} {l acc : List Ent} {sg : Ent → Bool} (ha : acc = l.filter sg) (hn : n = acc.length) (h0 : ∀ i (hi : i < acc.length), (f0 i).1 = acc[i]) (h1 : Mem n f0 f) (h2 : MemE m n f2 f) (h3 : StrictE m f2) :
    JoinIs sg l ((List.range m).map fun i => (f2 i).1) := by
  refine ⟨up_of h3, fun z => ?_⟩
  rw [mem_range, h2 z, ← List.mem_filter, ← ha]
  constructor
  · rintro ⟨i, hi, rfl⟩
    obtain ⟨j, hj, e⟩ := (h1 (f i)).1 ⟨i, hi, rfl⟩
    rw [← e, h0 j (by omega)]
    exact List.getElem_mem _
  · intro hz
    obtain ⟨j, hj, e⟩ := List.mem_iff_getElem.1 hz
    obtain ⟨i, hi, e2⟩ := (h1 (f0 j)).2 ⟨j, by omega, rfl⟩
    exact ⟨i, hi, by rw [e2, h0 j hj, e]⟩

/-! ### none at all -/
set_option maxRecDepth 100000 in
set_option maxHeartbeats 1000000 in
theorem ins_none (v : Value) (w : World) : Calls Tryz.prog 108 #[.slice none 0 0, .int .i64 0, .int .i64 0, v] w fun e w' => e = .returned (.tuple #[]) ∧ w = w' := by
  go_enter Tryz.func108, Tryz.ntmps108
  go_wp2_with fail
  refine wp_loop_rounds 1 ?_
  rw [rounds_succ]
  go_wp2_with fail
  go_end0
  exact ⟨rfl, rfl⟩
set_option maxRecDepth 100000 in
set_option maxHeartbeats 1000000 in
theorem pdq_none (v : Value) (lim : Int) (w : World) : Calls Tryz.prog 72 #[.slice none 0 0, .int .i64 0, .int .i64 0, .int .i64 lim, v] w fun e w' => e = .returned (.tuple #[]) ∧ w = w' := by
  have IN := Lib.hid (fun w => ins_none v w)
  go_enter Tryz.func72, Tryz.ntmps72
  go_wp2_with fail
  refine wp_loop_rounds 1 ?_
  rw [rounds_succ]
  go_wp2_with (go_at_call 108; ((with_reducible refine (IN.out _).mono ?_); rintro e w1 ⟨rfl, rfl⟩))
  refine bodyPost_ret (results_none rfl _ _ _) rfl ?_
  exact ⟨rfl, rfl⟩
set_option maxRecDepth 100000 in
set_option maxHeartbeats 1000000 in
theorem sort_none (v : Value) (w : World) : Calls Tryz.prog 42 #[.slice none 0 0, v] w fun e w' => e = .returned (.tuple #[]) ∧ w = w' := by
  have PQ := Lib.hid (fun lim w => pdq_none v lim w)
  have BL := Lib.hid (Tryz.bits_Len 0 w (by omega) (by omega))
  go_enter Tryz.func42, Tryz.ntmps42
  go_wp2_with (go_at_call 73; refine BL.out.mono ?_)
  rintro e w1 ⟨rfl, rfl⟩
  go_wp2_with fail
  refine (PQ.out _ _).mono ?_
  rintro e w2 ⟨rfl, rfl⟩
  go_wp2_with fail
  go_end0
  exact ⟨rfl, rfl⟩
set_option maxRecDepth 100000 in
set_option maxHeartbeats 1000000 in
theorem compact_none (v : Value) (w : World) : Calls Tryz.prog 44 #[.slice none 0 0, v] w fun e w' => e = .returned (.slice none 0 0) ∧ w = w' := by
  go_enter Tryz.func44, Tryz.ntmps44
  go_wp2_with fail
  go_ret
  exact ⟨rfl, rfl⟩
end Go.Proofs.YtcidfldeiklcjaaGreatDoor
