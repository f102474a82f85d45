/- Equal neighbours among entries in order are left out: slices.CompactFunc. -/
import Derived.Test.YtcidfldeiklcjaaGreatDoorIns
namespace Go.Proofs.YtcidfldeiklcjaaGreatDoor
open Go.RowKit Tm

theorem infoEnt : (Tryz.prog.info? 52).map (fun i => (i.zero, i.size, i.bytes)) = some (some (.agg #[.int .i64 0, .int .i64 0, .int .i64 0, .int .i64 0, .slice none 0 0, .string ⟨#[]⟩, .int .i64 0, .int .i64 0]), 8, 88) := by kernel_rfl
def zeroEV : Value := .agg #[.int .i64 0, .int .i64 0, .int .i64 0, .int .i64 0, .slice none 0 0, .string ⟨#[]⟩, .int .i64 0, .int .i64 0]
def zl8 (m : Nat) : List Value := (Builtin.zeroCells zeroEV.cells m).toList
theorem zl8_len (m : Nat) : (zl8 m).length = m * 8 := by simp [zl8, Builtin.zeroCells, zeroEV, Value.cells]
theorem zl8_one (m : Nat) : ∀ v ∈ zl8 m, v.oneCell' = true := by
  intro v hv
  unfold zl8 at hv
  rw [Array.mem_toList_iff] at hv
  unfold Builtin.zeroCells at hv
  rw [Array.mem_map] at hv
  obtain ⟨i, _, rfl⟩ := hv
  have : ∀ j, j < 8 → (zeroEV.cells[j]!).oneCell' = true := by decide
  exact this (i % zeroEV.cells.size) (Nat.mod_lt _ (by decide))
theorem clear_ents (w : World) (b k m c : Nat) (hm : 0 < m) (hc : ∀ j, j < m * 8 → (w.cell? ⟨b, k + j, none⟩).isSome = true) (hf : ∀ j, w.frozen? ⟨b, j, none⟩ = false) (ty : TypeId) :
    (Builtin.clear_ #[27] ty #[.slice (some ⟨b, k, none⟩) m c]).run Tryz.prog w = .ok (.tuple #[]) (w.setCells b k (zl8 m)) := by
  have hz : ∀ w, (zeroValue 52).run Tryz.prog w = .ok zeroEV w := Tryz.zeroValue52
  have hst := run_storeCells_cells (P := Tryz.prog) b k (zl8 m) 0 w (fun j hj => by rw [Nat.add_zero]; exact hc j (by rw [zl8_len] at hj; exact hj)) (fun j hj => hf _) (zl8_one m)
  simp only [Nat.add_zero] at hst
  obtain ⟨q, rfl⟩ : ∃ q, m = q + 1 := ⟨m - 1, by omega⟩
  unfold zl8 at hst ⊢
  simp [Builtin.clear_, run_underlying Tryz.underlying27, hz, hst]

theorem wpList_clear {P : Program} {ops : Array Oper} {rest : List Oper} {o : Oper} {a : Act} {Q : Exit → Act → World → Prop} {w w' : World} (hg : o.guard = none) (s : Operand) (t : TypeId)
    (ho : o.op = .call { callee := .builtin .clear, args := #[s], argTypes := #[t] }) (u : Value) (hs : a.eval s = u)
    (hrun : (Builtin.clear_ #[t] o.type #[u]).run P w = .ok (.tuple #[]) w') (hK : wpList P ops Q rest (a.put o.dst (.tuple #[])) w') : wpList P ops Q (o :: rest) a w := by
  refine wpList_plain hg fun K' hK' => ?_
  unfold Oper.wp
  simp [execOp, ho, resolve, invoke, builtin, hs, hrun, Result.andThen]
  exact hK' _ _ hK
theorem kept_setCells (b : Nat) : ∀ (o : Nat) (l : List Value) (w : World), Kept [b] w (w.setCells b o l)
  | _, [], w => Kept.refl _ _
  | o, v :: l, w => ((Kept.refl _ _).setCell (p := ⟨b, o, none⟩) (Or.inl (by simp)) v).trans (kept_setCells b (o + 1) l _)
theorem EC.cleared {w : World} {rb n k : Nat} {f : Nat → EV} (h : EC w rb n f) (L : List Value) (hk : k ≤ n) : EC (w.setCells rb (k * 8) L) rb k f :=
  ⟨fun i hi j v hv => by
    have hj : j < 8 := by have := (List.getElem?_eq_some_iff.1 hv).1; simpa [entC] using this
    rw [World.cell?_setCells_out rb L (k * 8) w ⟨rb, i * 8 + j, none⟩ (fun _ _ => Or.inl (by simp; omega))]
    exact h.cell i (by omega) j v hv, fun j => by rw [World.frozen?_setCells]; exact h.fz j, Nat.lt_of_lt_of_le h.lt (kept_setCells rb (k * 8) L w).size⟩
def StrictE (k : Nat) (f : Nat → EV) : Prop := ∀ a b, a < b → b < k → ltE (f a).1 (f b).1
def MemE (k m : Nat) (f g : Nat → EV) : Prop := ∀ e, (∃ i, i < k ∧ (f i).1 = e) ↔ (∃ i, i < m ∧ (g i).1 = e)
theorem StrictE.snoc {k : Nat} {f : Nat → EV} (h : StrictE (k + 1) f) (hl : ltE (f k).1 (f (k + 1)).1) : StrictE (k + 2) f := fun a b hab hb => by
  by_cases e : b = k + 1
  · subst e
    by_cases e2 : a = k
    · subst e2; exact hl
    · exact ltE_trans (h a k (by omega) (by omega)) hl
  · exact h a b hab (by omega)
/-- the second loop: the first k are done, out of the first K + k2 -/
structure CpI (n K : Nat) (f0 f : Nat → EV) (k k2 : Nat) : Prop where
  hk : 1 ≤ k
  hk2 : 1 ≤ k2
  hlt : k + 1 ≤ K + k2
  hn : K + k2 ≤ n
  rest : ∀ i, K + k2 ≤ i + 1 → i < n → f i = f0 i
  strict : StrictE k f
  mem : MemE k (K + k2) f f0
  last : (f (k - 1)).1 = (f0 (K + k2 - 1)).1
  vals : ∀ i, i < n → ∃ j, j < n ∧ f i = f0 j
theorem CpI.start {n K : Nat} {f0 : Nat → EV} (hK : 1 ≤ K) (hn : K < n) (hs : StrictE K f0) (he : (f0 K).1 = (f0 (K - 1)).1) : CpI n K f0 f0 K 1 :=
  ⟨hK, Nat.le_refl _, by omega, by omega, fun i _ _ => rfl, hs, fun e => ⟨fun ⟨i, h1, h2⟩ => ⟨i, by omega, h2⟩, fun ⟨i, h1, h2⟩ => by
    by_cases e2 : i = K
    · exact ⟨K - 1, by omega, by rw [← he, ← e2]; exact h2⟩
    · exact ⟨i, by omega, h2⟩⟩, by rw [show K + 1 - 1 = K by omega, he], fun i hi => ⟨i, hi, rfl⟩⟩
theorem CpI.skip {n K k k2 : Nat} {f0 f : Nat → EV} (h : CpI n K f0 f k k2) (hl : K + k2 < n) (he : (f0 (K + k2)).1 = (f0 (K + k2 - 1)).1) : CpI n K f0 f k (k2 + 1) :=
  ⟨h.hk, by omega, by have := h.hlt; omega, by omega, fun i hi hin => h.rest i (by omega) hin, h.strict, fun e => (h.mem e).trans ⟨fun ⟨i, h1, h2⟩ => ⟨i, by omega, h2⟩, fun ⟨i, h1, h2⟩ => by
    by_cases e2 : i = K + k2
    · exact ⟨K + k2 - 1, by have := h.hk2; omega, by rw [← he, ← e2]; exact h2⟩
    · exact ⟨i, by omega, h2⟩⟩, by rw [h.last, show K + (k2 + 1) - 1 = K + k2 by omega, he], h.vals⟩
theorem CpI.take {n K k k2 : Nat} {f0 f : Nat → EV} (h : CpI n K f0 f k k2) (hl : K + k2 < n) (hs : ltE (f0 (K + k2 - 1)).1 (f0 (K + k2)).1) : CpI n K f0 (updE f k (f (K + k2))) (k + 1) (k2 + 1) := by
  have hkk := h.hlt
  have h1 := h.hk
  have hr := h.rest (K + k2) (by omega) hl
  have uk : updE f k (f (K + k2)) k = f0 (K + k2) := by unfold updE; rw [if_pos rfl, hr]
  have un : ∀ i, i ≠ k → updE f k (f (K + k2)) i = f i := fun i hi => by unfold updE; rw [if_neg hi]
  refine ⟨by omega, by omega, by omega, by omega, fun i hi hin => by rw [un i (by omega)]; exact h.rest i (by omega) hin, fun a b hab hb => ?_, fun e => ?_, by rw [show k + 1 - 1 = k by omega, uk, show K + (k2 + 1) - 1 = K + k2 by omega], fun i hi => ?_⟩
  · by_cases e : b = k
    · subst e
      rw [uk, un a (by omega)]
      by_cases e2 : a = b - 1
      · subst e2; rw [h.last]; exact hs
      · have h2 := h.strict a (b - 1) (by omega) (by omega)
        rw [h.last] at h2
        exact ltE_trans h2 hs
    · rw [un a (by omega), un b e]
      exact h.strict a b hab (by omega)
  · constructor
    · rintro ⟨i, h2, h3⟩
      by_cases e2 : i = k
      · subst e2; rw [uk] at h3; exact ⟨K + k2, by omega, h3⟩
      · rw [un i e2] at h3
        obtain ⟨j, h4, h5⟩ := (h.mem e).1 ⟨i, by omega, h3⟩
        exact ⟨j, by omega, h5⟩
    · rintro ⟨i, h2, h3⟩
      by_cases e2 : i = K + k2
      · subst e2; exact ⟨k, by omega, by rw [uk]; exact h3⟩
      · obtain ⟨j, h4, h5⟩ := (h.mem e).2 ⟨i, by omega, h3⟩
        exact ⟨j, by omega, by rw [un j (by omega)]; exact h5⟩
  · by_cases e : i = k
    · subst e; exact ⟨K + k2, hl, uk⟩
    · rw [un i e]; exact h.vals i hi
theorem lt_of_sorted {n : Nat} {f : Nat → EV} (hs : SortedE n f) (hI : ∀ k, k < n → EntI (f k).1) {a b : Nat} (hab : a < b) (hb : b < n) (hne : (f b).1 ≠ (f a).1) : ltE (f a).1 (f b).1 := by
  rcases ltE_tri (hI a (by omega)) (hI b hb) with h | h | h
  · exact h
  · exact absurd h.symm hne
  · exact absurd h (hs a b hab hb)
/-- how CompactFunc ends -/
def CpE (w : World) (rb n cap : Nat) (f0 : Nat → EV) (e : Ending) (w' : World) : Prop := ∃ (m : Nat) (f : Nat → EV), e = .returned (.slice (some ⟨rb, 0, none⟩) m cap) ∧ m ≤ n ∧ (1 ≤ n → 1 ≤ m) ∧ StrictE m f ∧ MemE m n f f0 ∧ (∀ i, i < m → ∃ j, j < n ∧ f i = f0 j) ∧ EC w' rb m f ∧ Kept [rb] w w'

set_option maxRecDepth 100000 in
set_option maxHeartbeats 1000000 in
theorem eqc_any (a b : Ent) (ua ub : Value) (w : World) (ha : EntA w (.agg (entF a ua)) a) (hb : EntA w (.agg (entF b ub)) b) (ia : EntI a) (ib : EntI b) (hE : Env w) :
    Calls Tryz.prog 45 #[.agg (entF a ua), .agg (entF b ub)] w fun en w' => en = .returned (.bool (decide (cmpE a b = 0))) ∧ Kept [] w w' := by
  obtain ⟨va, hva, hna⟩ := ha
  obtain ⟨vb, hvb, hnb⟩ := hb
  obtain ⟨aa, ac, rfl, _, _⟩ := hna.form
  obtain ⟨ba, bc, rfl, _, _⟩ := hnb.form
  obtain rfl : ua = .slice aa a.nums.length ac := by
    injection hva with h1
    have := congrArg (fun x : Array Value => x[4]?) h1
    simpa [entF, entC] using this
  obtain rfl : ub = .slice ba b.nums.length bc := by
    injection hvb with h1
    have := congrArg (fun x : Array Value => x[4]?) h1
    simpa [entF, entC] using this
  obtain ⟨W, hW⟩ : ∃ W, (w.alloc (.cells (entC a (.slice aa a.nums.length ac)).toArray 52)).alloc (.cells (entC b (.slice ba b.nums.length bc)).toArray 52) = W := ⟨_, rfl⟩
  have hx : Blk W w.heap.size 52 (entC a (.slice aa a.nums.length ac)).toArray := hW ▸ (Blk.new _ _ _).alloc _
  have hz : Blk W (w.heap.size + 1) 52 (entC b (.slice ba b.nums.length bc)).toArray := by
    have := Blk.new (w.alloc (.cells (entC a (.slice aa a.nums.length ac)).toArray 52)) 52 (entC b (.slice ba b.nums.length bc)).toArray
    rw [hW, World.size_alloc] at this
    exact this
  have hkW : Kept [] w W := hW ▸ ((Kept.refl _ _).alloc _).alloc _
  have BF : Hid (Calls Tryz.prog 43 #[.agg #[.int .i64 a.gate, .int .i64 a.no, .int .i64 a.time, .int .i64 a.kind, .slice aa a.nums.length ac, .string ⟨a.text.toArray⟩, .int .i64 a.c, .int .i64 a.s], .agg #[.int .i64 b.gate, .int .i64 b.no, .int .i64 b.time, .int .i64 b.kind, .slice ba b.nums.length bc, .string ⟨b.text.toArray⟩, .int .i64 b.c, .int .i64 b.s]] W fun en w2 => en = .returned (.int .i64 (cmpE a b)) ∧ Kept [] W w2) :=
    before_any _ _ a b W ⟨_, rfl, hna.kept hkW⟩ ⟨_, rfl, hnb.kept hkW⟩ ia ib (hE.kept0 hkW)
  have p0 : W.cell? ⟨w.heap.size, 0, none⟩ = some (.int .i64 a.gate) := hx.cell 0
  have q0 : W.cell? ⟨w.heap.size + 1, 0, none⟩ = some (.int .i64 b.gate) := hz.cell 0
  have p1 : W.cell? ⟨w.heap.size, 1, none⟩ = some (.int .i64 a.no) := hx.cell 1
  have q1 : W.cell? ⟨w.heap.size + 1, 1, none⟩ = some (.int .i64 b.no) := hz.cell 1
  have p2 : W.cell? ⟨w.heap.size, 2, none⟩ = some (.int .i64 a.time) := hx.cell 2
  have q2 : W.cell? ⟨w.heap.size + 1, 2, none⟩ = some (.int .i64 b.time) := hz.cell 2
  have p3 : W.cell? ⟨w.heap.size, 3, none⟩ = some (.int .i64 a.kind) := hx.cell 3
  have q3 : W.cell? ⟨w.heap.size + 1, 3, none⟩ = some (.int .i64 b.kind) := hz.cell 3
  have p4 : W.cell? ⟨w.heap.size, 4, none⟩ = some (.slice aa a.nums.length ac) := hx.cell 4
  have q4 : W.cell? ⟨w.heap.size + 1, 4, none⟩ = some (.slice ba b.nums.length bc) := hz.cell 4
  have p5 : W.cell? ⟨w.heap.size, 5, none⟩ = some (.string ⟨a.text.toArray⟩) := hx.cell 5
  have q5 : W.cell? ⟨w.heap.size + 1, 5, none⟩ = some (.string ⟨b.text.toArray⟩) := hz.cell 5
  have p6 : W.cell? ⟨w.heap.size, 6, none⟩ = some (.int .i64 a.c) := hx.cell 6
  have q6 : W.cell? ⟨w.heap.size + 1, 6, none⟩ = some (.int .i64 b.c) := hz.cell 6
  have p7 : W.cell? ⟨w.heap.size, 7, none⟩ = some (.int .i64 a.s) := hx.cell 7
  have q7 : W.cell? ⟨w.heap.size + 1, 7, none⟩ = some (.int .i64 b.s) := hz.cell 7
  obtain ⟨cv, hcv⟩ : ∃ c, cmpE a b = c := ⟨_, rfl⟩
  rw [hcv] at BF ⊢
  have HW := Lib.hid hW
  have HKW := Lib.hid hkW
  clear hW hx hz hkW hna hnb ia ib hE hcv hva hvb
  show Calls _ _ #[.agg #[.int .i64 a.gate, .int .i64 a.no, .int .i64 a.time, .int .i64 a.kind, .slice aa a.nums.length ac, .string ⟨a.text.toArray⟩, .int .i64 a.c, .int .i64 a.s], .agg #[.int .i64 b.gate, .int .i64 b.no, .int .i64 b.time, .int .i64 b.kind, .slice ba b.nums.length bc, .string ⟨b.text.toArray⟩, .int .i64 b.c, .int .i64 b.s]] _ _
  go_enter Tryz.func45, Tryz.ntmps45
  go_upto_region 1 with (fail)
  have hW' : (w.alloc (.cells #[.int .i64 a.gate, .int .i64 a.no, .int .i64 a.time, .int .i64 a.kind, .slice aa a.nums.length ac, .string ⟨a.text.toArray⟩, .int .i64 a.c, .int .i64 a.s] 52)).alloc (.cells #[.int .i64 b.gate, .int .i64 b.no, .int .i64 b.time, .int .i64 b.kind, .slice ba b.nums.length bc, .string ⟨b.text.toArray⟩, .int .i64 b.c, .int .i64 b.s] 52) = W := HW.out
  rw [hW']
  clear hW'
  go_wp2_with (go_at_call 43; with_reducible refine BF.out.mono ?_)
  first | (rintro e1 w1 rfl k1) | (rintro e1 w1 ⟨rfl, k1⟩)
  go_wp2_with fail
  go_ret
  exact ⟨rfl, HKW.out.trans k1⟩
set_option maxRecDepth 100000 in
set_option maxHeartbeats 8000000 in
theorem compact_any (rb n cap : Nat) (f0 : Nat → EV) (w : World) (hc : EC w rb n f0) (hn : Stable [rb] (NumsAt n f0) w) (hs : SortedE n f0) (hI : ∀ k, k < n → EntI (f0 k).1) (hrb : NG ≤ rb) (hE : Env w) (hl : n ≤ 1000) (hcap : n ≤ cap) :
    Calls Tryz.prog 44 #[.slice (some ⟨rb, 0, none⟩) n cap, .func (.func 45) #[] #[]] w (CpE w rb n cap f0) := by
  have HNU : Hid (∀ wr, Kept [rb] w wr → NumsAt n f0 wr) := fun wr k => hn [rb] wr k (fun z hz _ => hz)
  have HQ : Hid (∀ wr a b ea ua eb ub, Kept [rb] w wr → a < n → b < n → f0 a = (ea, ua) → f0 b = (eb, ub) → ∀ x : KW wr, Calls Tryz.prog 45 #[.agg (entF ea ua), .agg (entF eb ub)] x.val fun en w2 => en = .returned (.bool (decide (cmpE ea eb = 0))) ∧ Kept [] x.val w2) := fun wr a b ea ua eb ub hk ha hb h1 h2 x => by
    have kk : Kept [rb] w x.val := hk.then_ x.property (by simp)
    have hr := HNU.out x.val kk
    have r1 := hr a ha
    have r2 := hr b hb
    have i1 := hI a ha
    have i2 := hI b hb
    rw [h1] at r1 i1
    rw [h2] at r2 i2
    exact eqc_any ea eb ua ub x.val ⟨ua, rfl, r1⟩ ⟨ub, rfl, r2⟩ i1 i2 (hE.kept kk (by simpa using hrb))
  have HI := Lib.hid hI
  have HSO := Lib.hid hs
  have HC := Lib.hid hc
  by_cases h2 : n < 2
  · have d0 : decide ((n : Int) < 2) = true := decide_eq_true (by omega)
    have d1 : decide (n < 2) = true := decide_eq_true h2
    clear hc hn hs hI hE
    go_enter Tryz.func44, Tryz.ntmps44
    go_wp2_with fail
    go_ret
    exact ⟨n, f0, rfl, Nat.le_refl _, fun h => h, fun a b hab hb => by omega, fun e => Iff.rfl, fun i hi => ⟨i, hi, rfl⟩, HC.out, Kept.refl _ _⟩
  have d0 : decide ((n : Int) < 2) = false := decide_eq_false (by omega)
  have d1 : decide (n < 2) = false := decide_eq_false h2
  clear hc hn hs hI hE
  go_enter Tryz.func44, Tryz.ntmps44
  go_wp2_with fail
  clear d0 d1
  go_loopw [5] (fun vk wr => ∃ k : Nat, 1 ≤ k ∧ k ≤ n ∧ vk = .int .i64 k ∧ StrictE k f0 ∧ Kept [] w wr) (fun vk _ => n - (intOf vk).toNat)
  case atStart => exact ⟨1, Nat.le_refl _, by omega, rfl, fun a b hab hb => by omega, Kept.refl _ _⟩
  case round =>
    obtain ⟨K, hK1, hKn, rfl, hst, hkr⟩ := hrel
    have HST := Lib.hid hst
    have HKR := Lib.hid hkr
    clear hst hkr
    by_cases hlt : K < n
    rotate_left
    · have hKe : Hid (K = n) := Lib.hid (by omega)
      have hlt' : ¬ (K : Int) < (n : Int) := by omega
      go_wp2_with fail
      go_ret
      exact ⟨n, f0, rfl, Nat.le_refl _, fun h => h, by have := HST.out; rwa [hKe.out] at this, fun e => Iff.rfl, fun i hi => ⟨i, hi, rfl⟩, HC.out.kept HKR.out (by simp), HKR.out.mono (by simp)⟩
    · obtain ⟨q, hq⟩ : ∃ q, K = q + 1 := ⟨K - 1, by omega⟩
      have hqn : q < n := by omega
      have hw : IntKind.i64.wrap ((K : Int) - 1) = (q : Int) := by rw [IntKind.wrap_i64]; omega
      obtain ⟨ej, uj, hgj⟩ : ∃ e u, f0 K = (e, u) := ⟨_, _, rfl⟩
      obtain ⟨em, um, hgm⟩ : ∃ e u, f0 q = (e, u) := ⟨_, _, rfl⟩
      have CL := Lib.hid (HQ.out wr K q ej uj em um (HKR.out.mono (by simp)) hlt hqn hgj hgm)
      have hrr := HNU.out wr (HKR.out.mono (by simp))
      have hr1 := hrr K hlt
      have hr2 := hrr q hqn
      have c1 := (HC.out.kept HKR.out (by simp)).cell K hlt
      have c2 := (HC.out.kept HKR.out (by simp)).cell q hqn
      rw [hgj] at hr1 c1
      rw [hgm] at hr2 c2
      simp only at hr1 hr2 c1 c2
      obtain ⟨ja, jc, rfl, _, _⟩ := hr1.form
      obtain ⟨ma, mc, rfl, _, _⟩ := hr2.form
      have HQK := Lib.hid hq
      have HGJ := Lib.hid hgj
      have HGM := Lib.hid hgm
      have hKI : (K : Int) < (n : Int) := by omega
      have hqI : (q : Int) < (n : Int) := by omega
      have p0 : ∀ x : KW wr, x.val.cell? ⟨rb, K * 8, none⟩ = some (.int .i64 ej.gate) := fun x => x.cell (c1 0 _ rfl)
      have p1 : ∀ x : KW wr, x.val.cell? ⟨rb, K * 8 + 1, none⟩ = some (.int .i64 ej.no) := fun x => x.cell (c1 1 _ rfl)
      have p2 : ∀ x : KW wr, x.val.cell? ⟨rb, K * 8 + 2, none⟩ = some (.int .i64 ej.time) := fun x => x.cell (c1 2 _ rfl)
      have p3 : ∀ x : KW wr, x.val.cell? ⟨rb, K * 8 + 3, none⟩ = some (.int .i64 ej.kind) := fun x => x.cell (c1 3 _ rfl)
      have p4 : ∀ x : KW wr, x.val.cell? ⟨rb, K * 8 + 4, none⟩ = some (.slice ja ej.nums.length jc) := fun x => x.cell (c1 4 _ rfl)
      have p5 : ∀ x : KW wr, x.val.cell? ⟨rb, K * 8 + 5, none⟩ = some (.string ⟨ej.text.toArray⟩) := fun x => x.cell (c1 5 _ rfl)
      have p6 : ∀ x : KW wr, x.val.cell? ⟨rb, K * 8 + 6, none⟩ = some (.int .i64 ej.c) := fun x => x.cell (c1 6 _ rfl)
      have p7 : ∀ x : KW wr, x.val.cell? ⟨rb, K * 8 + 7, none⟩ = some (.int .i64 ej.s) := fun x => x.cell (c1 7 _ rfl)
      have q0 : ∀ x : KW wr, x.val.cell? ⟨rb, q * 8, none⟩ = some (.int .i64 em.gate) := fun x => x.cell (c2 0 _ rfl)
      have q1 : ∀ x : KW wr, x.val.cell? ⟨rb, q * 8 + 1, none⟩ = some (.int .i64 em.no) := fun x => x.cell (c2 1 _ rfl)
      have q2 : ∀ x : KW wr, x.val.cell? ⟨rb, q * 8 + 2, none⟩ = some (.int .i64 em.time) := fun x => x.cell (c2 2 _ rfl)
      have q3 : ∀ x : KW wr, x.val.cell? ⟨rb, q * 8 + 3, none⟩ = some (.int .i64 em.kind) := fun x => x.cell (c2 3 _ rfl)
      have q4 : ∀ x : KW wr, x.val.cell? ⟨rb, q * 8 + 4, none⟩ = some (.slice ma em.nums.length mc) := fun x => x.cell (c2 4 _ rfl)
      have q5 : ∀ x : KW wr, x.val.cell? ⟨rb, q * 8 + 5, none⟩ = some (.string ⟨em.text.toArray⟩) := fun x => x.cell (c2 5 _ rfl)
      have q6 : ∀ x : KW wr, x.val.cell? ⟨rb, q * 8 + 6, none⟩ = some (.int .i64 em.c) := fun x => x.cell (c2 6 _ rfl)
      have q7 : ∀ x : KW wr, x.val.cell? ⟨rb, q * 8 + 7, none⟩ = some (.int .i64 em.s) := fun x => x.cell (c2 7 _ rfl)
      clear hq hgj hgm hrr hr1 hr2 c1 c2
      go_upto_region 6 with (fail)
      refine wp_region_kept wr (Kept.refl _ _) (by kernel_rfl) (by kernel_rfl) ?_
      repeat (go_big_quiet_step (first | (go_at_call 45; exact quiet_kept (CL.out _))))
      refine wpQuiet_nil ?_
      rintro w5 ⟨⟨_, hk5⟩, rfl⟩
      have HK5 := Lib.hid (HKR.out.trans hk5)
      have HII : Hid (EntI ej ∧ EntI em) := by
        have h1 := HI.out K hlt
        have h2 := HI.out q hqn
        rw [HGJ.out] at h1
        rw [HGM.out] at h2
        exact ⟨h1, h2⟩
      clear p0 p1 p2 p3 p4 p5 p6 p7 q0 q1 q2 q3 q4 q5 q6 q7 CL hk5
      by_cases hz : cmpE ej em = 0
      rotate_left
      · have hd : decide (cmpE ej em = 0) = false := decide_eq_false hz
        have HNZ : Hid (StrictE (K + 1) f0) := by
          have hne : ej ≠ em := fun e => hz ((cmpE_zero HII.out.1 HII.out.2).2 e)
          have hq := HQK.out
          subst hq
          exact StrictE.snoc HST.out (lt_of_sorted HSO.out HI.out (by omega) hlt (by rw [HGJ.out, HGM.out]; exact hne))
        obtain ⟨t, ht⟩ : ∃ t, decide (cmpE ej em = 0) = t := ⟨_, rfl⟩
        rw [ht]
        obtain rfl : t = false := ht.symm.trans hd
        clear hz hd ht
        go_wp2_with fail
        refine ⟨⟨K + 1, by omega, by omega, by go_num, HNZ.out, HK5.out⟩, by simp [intOf]; omega⟩
      · have hd : decide (cmpE ej em = 0) = true := decide_eq_true hz
        have HEQ : Hid (ej = em) := (cmpE_zero HII.out.1 HII.out.2).1 hz
        have HCS : Hid (CpI n K f0 f0 K 1) := by
          have hq := HQK.out
          refine CpI.start hK1 hlt HST.out ?_
          rw [show K - 1 = q by omega, HGJ.out, HGM.out]
          exact HEQ.out
        obtain ⟨t, ht⟩ : ∃ t, decide (cmpE ej em = 0) = t := ⟨_, rfl⟩
        rw [ht]
        obtain rfl : t = true := ht.symm.trans hd
        clear hz hd ht
        have hcK : ¬ cap = K := by omega
        have hKc : K ≤ cap := by omega
        have hKcI : (K : Int) ≤ (cap : Int) := by omega
        go_wp2_with fail
        go_loopw [5, 7] (fun v5 v7 wr => ∃ (k k2 : Nat) (f : Nat → EV), v5 = .int .i64 k ∧ v7 = .int .i64 k2 ∧ CpI n K f0 f k k2 ∧ EC wr rb n f ∧ Kept [rb] w wr) (fun _ v7 _ => n - (intOf v7).toNat)
        case atStart => exact ⟨K, 1, f0, rfl, rfl, HCS.out, HC.out.kept HK5.out (by simp), HK5.out.mono (by simp)⟩
        case round =>
          obtain ⟨k, k2, f, rfl, rfl, hcp, hec, hkz⟩ := hrel
          have HCP := Lib.hid hcp
          have HEC := Lib.hid hec
          have HKZ := Lib.hid hkz
          have e1 := hcp.hk
          have e2 := hcp.hk2
          have e3 := hcp.hlt
          have e4 := hcp.hn
          clear hcp hec hkz
          by_cases hl2 : k2 < n - K
          · obtain ⟨r, hr⟩ : ∃ r, k2 = r + 1 := ⟨k2 - 1, by omega⟩
            have hw2 : IntKind.i64.wrap ((k2 : Int) - 1) = (r : Int) := by rw [IntKind.wrap_i64]; omega
            have hi1 : K + k2 < n := by omega
            have hi0 : K + r < n := by omega
            have hl2' : r < n - K := by omega
            have r1 := HCP.out.rest (K + k2) (by omega) hi1
            have r0 := HCP.out.rest (K + r) (by omega) hi0
            obtain ⟨dj, vj, hdj⟩ : ∃ e u, f0 (K + k2) = (e, u) := ⟨_, _, rfl⟩
            obtain ⟨dm, vm, hdm⟩ : ∃ e u, f0 (K + r) = (e, u) := ⟨_, _, rfl⟩
            have CL := Lib.hid (HQ.out wr (K + k2) (K + r) dj vj dm vm HKZ.out hi1 hi0 hdj hdm)
            have hrr := HNU.out wr HKZ.out
            have hr1 := hrr (K + k2) hi1
            have hr2 := hrr (K + r) hi0
            have c1 := HEC.out.cell (K + k2) hi1
            have c2 := HEC.out.cell (K + r) hi0
            rw [hdj] at hr1 r1
            rw [hdm] at hr2 r0
            rw [r1, Nat.add_mul] at c1
            rw [r0, Nat.add_mul] at c2
            simp only at hr1 hr2 c1 c2
            obtain ⟨na, nc, rfl, _, _⟩ := hr1.form
            obtain ⟨la, lc, rfl, _, _⟩ := hr2.form
            have HRQ := Lib.hid hr
            have HDJ := Lib.hid hdj
            have HDM := Lib.hid hdm
            have HR1 := Lib.hid r1
            have HC1 := Lib.hid c1
            have hk2I : (k2 : Int) < ((n - K : Nat) : Int) := by omega
            have hrI : (r : Int) < ((n - K : Nat) : Int) := by omega
            have p0 : ∀ x : KW wr, x.val.cell? ⟨rb, K * 8 + k2 * 8, none⟩ = some (.int .i64 dj.gate) := fun x => x.cell (c1 0 _ rfl)
            have p1 : ∀ x : KW wr, x.val.cell? ⟨rb, K * 8 + k2 * 8 + 1, none⟩ = some (.int .i64 dj.no) := fun x => x.cell (c1 1 _ rfl)
            have p2 : ∀ x : KW wr, x.val.cell? ⟨rb, K * 8 + k2 * 8 + 2, none⟩ = some (.int .i64 dj.time) := fun x => x.cell (c1 2 _ rfl)
            have p3 : ∀ x : KW wr, x.val.cell? ⟨rb, K * 8 + k2 * 8 + 3, none⟩ = some (.int .i64 dj.kind) := fun x => x.cell (c1 3 _ rfl)
            have p4 : ∀ x : KW wr, x.val.cell? ⟨rb, K * 8 + k2 * 8 + 4, none⟩ = some (.slice na dj.nums.length nc) := fun x => x.cell (c1 4 _ rfl)
            have p5 : ∀ x : KW wr, x.val.cell? ⟨rb, K * 8 + k2 * 8 + 5, none⟩ = some (.string ⟨dj.text.toArray⟩) := fun x => x.cell (c1 5 _ rfl)
            have p6 : ∀ x : KW wr, x.val.cell? ⟨rb, K * 8 + k2 * 8 + 6, none⟩ = some (.int .i64 dj.c) := fun x => x.cell (c1 6 _ rfl)
            have p7 : ∀ x : KW wr, x.val.cell? ⟨rb, K * 8 + k2 * 8 + 7, none⟩ = some (.int .i64 dj.s) := fun x => x.cell (c1 7 _ rfl)
            have q0 : ∀ x : KW wr, x.val.cell? ⟨rb, K * 8 + r * 8, none⟩ = some (.int .i64 dm.gate) := fun x => x.cell (c2 0 _ rfl)
            have q1 : ∀ x : KW wr, x.val.cell? ⟨rb, K * 8 + r * 8 + 1, none⟩ = some (.int .i64 dm.no) := fun x => x.cell (c2 1 _ rfl)
            have q2 : ∀ x : KW wr, x.val.cell? ⟨rb, K * 8 + r * 8 + 2, none⟩ = some (.int .i64 dm.time) := fun x => x.cell (c2 2 _ rfl)
            have q3 : ∀ x : KW wr, x.val.cell? ⟨rb, K * 8 + r * 8 + 3, none⟩ = some (.int .i64 dm.kind) := fun x => x.cell (c2 3 _ rfl)
            have q4 : ∀ x : KW wr, x.val.cell? ⟨rb, K * 8 + r * 8 + 4, none⟩ = some (.slice la dm.nums.length lc) := fun x => x.cell (c2 4 _ rfl)
            have q5 : ∀ x : KW wr, x.val.cell? ⟨rb, K * 8 + r * 8 + 5, none⟩ = some (.string ⟨dm.text.toArray⟩) := fun x => x.cell (c2 5 _ rfl)
            have q6 : ∀ x : KW wr, x.val.cell? ⟨rb, K * 8 + r * 8 + 6, none⟩ = some (.int .i64 dm.c) := fun x => x.cell (c2 6 _ rfl)
            have q7 : ∀ x : KW wr, x.val.cell? ⟨rb, K * 8 + r * 8 + 7, none⟩ = some (.int .i64 dm.s) := fun x => x.cell (c2 7 _ rfl)
            clear hr hdj hdm hrr hr1 hr2 c1 c2 r1 r0
            go_upto_region 11 with (fail)
            refine wp_region_kept wr (Kept.refl _ _) (by kernel_rfl) (by kernel_rfl) ?_
            repeat (go_big_quiet_step (first | (go_at_call 45; exact quiet_kept (CL.out _))))
            refine wpQuiet_nil ?_
            rintro w5 ⟨⟨_, hk5⟩, rfl⟩
            have HEC5 := Lib.hid (HEC.out.kept hk5 (by simp))
            have HKZ5 := Lib.hid (HKZ.out.then_ hk5 (by simp))
            have HII : Hid (EntI dj ∧ EntI dm) := by
              have h1 := HI.out (K + k2) hi1
              have h2 := HI.out (K + r) hi0
              rw [HDJ.out] at h1
              rw [HDM.out] at h2
              exact ⟨h1, h2⟩
            have HK5' := Lib.hid hk5
            clear p0 p1 p2 p3 p4 p5 p6 p7 q0 q1 q2 q3 q4 q5 q6 q7 CL hk5
            by_cases hz : cmpE dj dm = 0
            · have hd : decide (cmpE dj dm = 0) = true := decide_eq_true hz
              have HNX : Hid (CpI n K f0 f k (k2 + 1)) := by
                refine HCP.out.skip hi1 ?_
                rw [show K + k2 - 1 = K + r by have := HRQ.out; omega, HDJ.out, HDM.out]
                exact (cmpE_zero HII.out.1 HII.out.2).1 hz
              obtain ⟨t, ht⟩ : ∃ t, decide (cmpE dj dm = 0) = t := ⟨_, rfl⟩
              rw [ht]
              obtain rfl : t = true := ht.symm.trans hd
              clear hz hd ht
              go_wp2_with fail
              refine ⟨⟨k, k2 + 1, f, rfl, by go_num, HNX.out, HEC5.out, HKZ5.out⟩, by simp [intOf]; omega⟩
            · have hd : decide (cmpE dj dm = 0) = false := decide_eq_false hz
              have HNX : Hid (CpI n K f0 (updE f k (f (K + k2))) (k + 1) (k2 + 1)) := by
                refine HCP.out.take hi1 ?_
                have hne : dj ≠ dm := fun e => hz ((cmpE_zero HII.out.1 HII.out.2).2 e)
                rw [show K + k2 - 1 = K + r by have := HRQ.out; omega]
                exact lt_of_sorted HSO.out HI.out (by have := HRQ.out; omega) hi1 (by rw [HDJ.out, HDM.out]; exact hne)
              obtain ⟨t, ht⟩ : ∃ t, decide (cmpE dj dm = 0) = t := ⟨_, rfl⟩
              rw [ht]
              obtain rfl : t = false := ht.symm.trans hd
              have hkn : k < n := by omega
              have hkI : (k : Int) < (n : Int) := by omega
              have c1 := HC1.out
              have c2 := HEC5.out.cell k hkn
              have c3 := HEC5.out.fz
              have hru : ∃ a m c, (f k).2 = .slice a m c := by
                obtain ⟨j, hj, e⟩ := HCP.out.vals k hkn
                obtain ⟨a, c, h, _, _⟩ := (HNU.out wr HKZ.out j hj).form
                exact ⟨a, _, c, by rw [e]; exact h⟩
              obtain ⟨xa, xm, xc, hxu⟩ := hru
              obtain ⟨ek, uk, hfk⟩ : ∃ e u, f k = (e, u) := ⟨_, _, rfl⟩
              rw [hfk] at c2 hxu
              simp only at c2 hxu
              subst hxu
              have HS5 : Hid (EC (put8 w5 rb (k * 8) dj (.slice na dj.nums.length nc)) rb n (updE f k (f (K + k2)))) := by
                have := HEC5.out.put hkn dj (.slice na dj.nums.length nc)
                rw [HR1.out]
                exact this
              have k5 := HK5'.out
              have p0 : w5.cell? ⟨rb, K * 8 + k2 * 8, none⟩ = some (.int .i64 dj.gate) := Kept.cellOf (c1 0 _ rfl) _ k5
              have q0 : w5.cell? ⟨rb, k * 8, none⟩ = some (.int .i64 ek.gate) := c2 0 _ rfl
              have y0 : w5.frozen? ⟨rb, k * 8, none⟩ = false := c3 _
              have p1 : w5.cell? ⟨rb, K * 8 + k2 * 8 + 1, none⟩ = some (.int .i64 dj.no) := Kept.cellOf (c1 1 _ rfl) _ k5
              have q1 : w5.cell? ⟨rb, k * 8 + 1, none⟩ = some (.int .i64 ek.no) := c2 1 _ rfl
              have y1 : w5.frozen? ⟨rb, k * 8 + 1, none⟩ = false := c3 _
              have p2 : w5.cell? ⟨rb, K * 8 + k2 * 8 + 2, none⟩ = some (.int .i64 dj.time) := Kept.cellOf (c1 2 _ rfl) _ k5
              have q2 : w5.cell? ⟨rb, k * 8 + 2, none⟩ = some (.int .i64 ek.time) := c2 2 _ rfl
              have y2 : w5.frozen? ⟨rb, k * 8 + 2, none⟩ = false := c3 _
              have p3 : w5.cell? ⟨rb, K * 8 + k2 * 8 + 3, none⟩ = some (.int .i64 dj.kind) := Kept.cellOf (c1 3 _ rfl) _ k5
              have q3 : w5.cell? ⟨rb, k * 8 + 3, none⟩ = some (.int .i64 ek.kind) := c2 3 _ rfl
              have y3 : w5.frozen? ⟨rb, k * 8 + 3, none⟩ = false := c3 _
              have p4 : w5.cell? ⟨rb, K * 8 + k2 * 8 + 4, none⟩ = some (.slice na dj.nums.length nc) := Kept.cellOf (c1 4 _ rfl) _ k5
              have q4 : w5.cell? ⟨rb, k * 8 + 4, none⟩ = some (.slice xa xm xc) := c2 4 _ rfl
              have y4 : w5.frozen? ⟨rb, k * 8 + 4, none⟩ = false := c3 _
              have p5 : w5.cell? ⟨rb, K * 8 + k2 * 8 + 5, none⟩ = some (.string ⟨dj.text.toArray⟩) := Kept.cellOf (c1 5 _ rfl) _ k5
              have q5 : w5.cell? ⟨rb, k * 8 + 5, none⟩ = some (.string ⟨ek.text.toArray⟩) := c2 5 _ rfl
              have y5 : w5.frozen? ⟨rb, k * 8 + 5, none⟩ = false := c3 _
              have p6 : w5.cell? ⟨rb, K * 8 + k2 * 8 + 6, none⟩ = some (.int .i64 dj.c) := Kept.cellOf (c1 6 _ rfl) _ k5
              have q6 : w5.cell? ⟨rb, k * 8 + 6, none⟩ = some (.int .i64 ek.c) := c2 6 _ rfl
              have y6 : w5.frozen? ⟨rb, k * 8 + 6, none⟩ = false := c3 _
              have p7 : w5.cell? ⟨rb, K * 8 + k2 * 8 + 7, none⟩ = some (.int .i64 dj.s) := Kept.cellOf (c1 7 _ rfl) _ k5
              have q7 : w5.cell? ⟨rb, k * 8 + 7, none⟩ = some (.int .i64 ek.s) := c2 7 _ rfl
              have y7 : w5.frozen? ⟨rb, k * 8 + 7, none⟩ = false := c3 _
              clear hz hd ht c1 c2 c3 hfk k5
              go_upto_region 13 with (fail)
              obtain ⟨w6, hw6⟩ : ∃ w6, put8 w5 rb (k * 8) dj (.slice na dj.nums.length nc) = w6 := ⟨_, rfl⟩
              have HS6 : Hid (EC w6 rb n (updE f k (f (K + k2)))) := hw6 ▸ HS5.out
              have HK6 : Hid (Kept [rb] w w6) := Lib.hid (hw6 ▸ HKZ5.out.trans (put8_kept _ _ _))
              rw [show (((((((w5.setCell ⟨rb, k * 8, none⟩ (.int .i64 dj.gate)).setCell ⟨rb, k * 8 + 1, none⟩ (.int .i64 dj.no)).setCell ⟨rb, k * 8 + 2, none⟩ (.int .i64 dj.time)).setCell ⟨rb, k * 8 + 3, none⟩ (.int .i64 dj.kind)).setCell ⟨rb, k * 8 + 4, none⟩ (.slice na dj.nums.length nc)).setCell ⟨rb, k * 8 + 5, none⟩ (.string ⟨dj.text.toArray⟩)).setCell ⟨rb, k * 8 + 6, none⟩ (.int .i64 dj.c)).setCell ⟨rb, k * 8 + 7, none⟩ (.int .i64 dj.s) = w6 from hw6]
              clear hw6 p0 p1 p2 p3 p4 p5 p6 p7 q0 q1 q2 q3 q4 q5 q6 q7 y0 y1 y2 y3 y4 y5 y6 y7 HS5
              go_wp2_with fail
              refine ⟨⟨k + 1, k2 + 1, _, by go_num, by go_num, HNX.out, HS6.out, HK6.out⟩, by simp [intOf]; omega⟩
          · have hKk : Hid (K + k2 = n) := Lib.hid (by omega)
            have hkn : k < n := by omega
            have hck : ¬ cap = k := by omega
            have hkc : k ≤ cap := by omega
            have hl2' : ¬ (k2 : Int) < ((n - K : Nat) : Int) := by omega
            have hse : ∀ j, j < (n - k) * 8 → (wr.cell? ⟨rb, k * 8 + j, none⟩).isSome = true := fun j hj => by
              have h1 := HEC.out.some_ (i := k + j / 8) (by omega) (j % 8) (Nat.mod_lt _ (by omega))
              rw [show (k + j / 8) * 8 + j % 8 = k * 8 + j by omega] at h1
              exact h1
            have HCL := Lib.hid (clear_ents wr rb (k * 8) (n - k) (cap - k) (by omega) hse HEC.out.fz)
            have HE6 := Lib.hid (HEC.out.cleared (k := k) (zl8 (n - k)) (by omega))
            have HK6 := Lib.hid (HKZ.out.trans (kept_setCells rb (k * 8) (zl8 (n - k)) wr))
            clear hse
            go_wp2_with (refine wpList_clear rfl (.tmp 61) 27 rfl _ rfl (HCL.out _) ?_)
            have hkI : (k : Int) ≤ (n : Int) := by omega
            go_wp2_with fail
            go_ret
            have hm := HCP.out.mem
            rw [hKk.out] at hm
            exact ⟨k, f, rfl, by omega, fun _ => e1, HCP.out.strict, hm, fun i hi => HCP.out.vals i (by omega), HE6.out, HK6.out⟩
end Go.Proofs.YtcidfldeiklcjaaGreatDoor
