/- Rows that grow: what is finished stays as it is while some blocks change. -/
import Derived.Test.YtcidfldeiklcjaaGreatDoorEbd
import Derived.Test.YtcidfldeiklcjaaGreatDoorApp
import Derived.Outline
/- JOINED: Bfo DecP Tp Stb -/
/- The order of entries: before. -/
namespace Go.Proofs.YtcidfldeiklcjaaGreatDoor
open Go.RowKit Tm

theorem cmpI_any (x y : Int) (w : World) : Calls Tryz.prog 75 #[.int .i64 x, .int .i64 y] w fun e w' => e = .returned (.int .i64 (cmpI x y)) ∧ w = w' :=
  (Tryz.cmp_Compare_int x y w).mono fun _ _ ⟨h1, h2⟩ => ⟨by rw [h1]; unfold Lib.compareInt cmpI; split <;> rfl, h2.symm⟩
theorem isNaN_s (s : List UInt8) (w : World) : Calls Tryz.prog 119 #[.string ⟨s.toArray⟩] w fun e w' => e = .returned (.bool false) ∧ w = w' := by
  go_enter Tryz.func119, Tryz.ntmps119
  go_wp2_with fail
  go_ret
  exact ⟨by simp, rfl⟩
set_option maxRecDepth 100000 in
set_option maxHeartbeats 800000 in
theorem cmpS_any (a b : List UInt8) (w : World) : Calls Tryz.prog 76 #[.string ⟨a.toArray⟩, .string ⟨b.toArray⟩] w fun e w' => e = .returned (.int .i64 (cmpB a b)) ∧ w = w' := by
  have NA := Lib.hid (isNaN_s a w)
  have NB := Lib.hid (isNaN_s b w)
  have HT := Lib.hid (bl_tri a b)
  unfold cmpB
  cases h1 : Op.bytesLess a b
  · cases h2 : Op.bytesLess b a
    · have hab : a = b := by
        rcases HT.out with h | h | h
        · rw [h1] at h; cases h
        · exact h
        · rw [h2] at h; cases h
      subst hab
      go_enter Tryz.func76, Tryz.ntmps76
      go_wp2_with (go_at_call 119; ((with_reducible refine NA.out.mono ?_); rintro e w1 ⟨rfl, rfl⟩))
      go_ret
      exact ⟨rfl, rfl⟩
    · have hab : ¬ a = b := fun e => by subst e; rw [bl_irrefl] at h2; cases h2
      have h3 : (a == b) = false := by simpa using hab
      clear h2
      go_enter Tryz.func76, Tryz.ntmps76
      go_wp2_with (go_at_call 119; first | ((with_reducible refine NA.out.mono ?_); rintro e w1 ⟨rfl, rfl⟩) | ((with_reducible refine NB.out.mono ?_); rintro e w1 ⟨rfl, rfl⟩))
      go_ret
      exact ⟨rfl, rfl⟩
  · go_enter Tryz.func76, Tryz.ntmps76
    go_wp2_with (go_at_call 119; first | ((with_reducible refine NA.out.mono ?_); rintro e w1 ⟨rfl, rfl⟩) | ((with_reducible refine NB.out.mono ?_); rintro e w1 ⟨rfl, rfl⟩))
    go_ret
    exact ⟨rfl, rfl⟩

theorem orI_one {x y : Int} (h : x ≠ 0) : orI x y = x := by unfold orI; rw [if_neg h]
theorem orI_two {x y : Int} (h : x = 0) : orI x y = y := by unfold orI; rw [if_pos h]
set_option maxRecDepth 100000 in
set_option maxHeartbeats 800000 in
theorem or_any (x y z : Int) (v : Value) (w : World) (hv : Row w 1 v 3 (ints [x, y, z])) : Calls Tryz.prog 74 #[v] w fun e w' => e = .returned (.int .i64 (orI x (orI y z))) ∧ w = w' := by
  obtain ⟨a, c, rfl, _, _⟩ := hv.form
  obtain ⟨b, off, rfl, hc⟩ := hv.at_ (by omega)
  have x0 : w.cell? ⟨b, off, none⟩ = some (.int .i64 x) := by have := hc 0 (.int .i64 x) rfl; simpa using this
  have x1 := hc 1 (.int .i64 y) rfl
  have x2 := hc 2 (.int .i64 z) rfl
  obtain ⟨R, hR⟩ : ∃ R, orI x (orI y z) = R := ⟨_, rfl⟩
  rw [hR]
  have HR := Lib.hid hR
  clear hR hv hc
  go_enter Tryz.func74, Tryz.ntmps74
  go_wp2_with fail
  go_loop [5, 8] (fun _ vi => ∃ k : Nat, k ≤ 3 ∧ vi = .int .i64 k ∧ (1 ≤ k → x = 0) ∧ (2 ≤ k → y = 0) ∧ (3 ≤ k → z = 0)) (fun _ vi => 3 - (intOf vi).toNat)
  case atStart => exact ⟨0, by omega, rfl, fun h => by omega, fun h => by omega, fun h => by omega⟩
  case round =>
    obtain ⟨k, hk, rfl, h1, h2, h3⟩ := hrel
    rcases (by omega : k = 0 ∨ k = 1 ∨ k = 2 ∨ k = 3) with rfl | rfl | rfl | rfl
    · by_cases hx : x = 0
      · have d : (x != 0) = false := by simpa using hx
        have HX := Lib.hid hx
        clear hx
        go_wp2_with fail
        go_round
        case rel => exact ⟨1, by omega, rfl, fun _ => HX.out, fun h => by omega, fun h => by omega⟩
        case measure => simp [intOf]
      · have d : (x != 0) = true := by simpa using hx
        have hR := HR.out
        rw [orI_one hx] at hR
        subst hR
        go_wp2_with fail
        go_ret
        exact ⟨rfl, rfl⟩
    · have hx := h1 (by omega)
      by_cases hy : y = 0
      · have d : (y != 0) = false := by simpa using hy
        have HX := Lib.hid hx
        have HY := Lib.hid hy
        clear hx hy
        go_wp2_with fail
        go_round
        case rel => exact ⟨2, by omega, rfl, fun _ => HX.out, fun _ => HY.out, fun h => by omega⟩
        case measure => simp [intOf]
      · have d : (y != 0) = true := by simpa using hy
        have hR := HR.out
        rw [orI_two hx, orI_one hy] at hR
        subst hR
        clear hx h1 h2 h3 HR
        go_wp2_with fail
        go_ret
        exact ⟨rfl, rfl⟩
    · have hx := h1 (by omega)
      have hy := h2 (by omega)
      by_cases hz : z = 0
      · have d : (z != 0) = false := by simpa using hz
        have HX := Lib.hid hx
        have HY := Lib.hid hy
        have HZ := Lib.hid hz
        clear hx hy hz
        go_wp2_with fail
        go_round
        case rel => exact ⟨3, by omega, rfl, fun _ => HX.out, fun _ => HY.out, fun _ => HZ.out⟩
        case measure => simp [intOf]
      · have d : (z != 0) = true := by simpa using hz
        have hR := HR.out
        rw [orI_two hx, orI_two hy] at hR
        subst hR
        clear hx hy h1 h2 h3 HR
        go_wp2_with fail
        go_ret
        exact ⟨rfl, rfl⟩
    · have hR := HR.out
      rw [orI_two (h1 (by omega)), orI_two (h2 (by omega)), h3 (by omega)] at hR
      subst hR
      clear h1 h2 h3 HR
      go_wp2_with fail
      go_ret
      exact ⟨rfl, rfl⟩
theorem row3e (w : World) (x y z : Int) (T : TypeId) : Row (w.alloc (.cells #[.int .i64 x, .int .i64 y, .int .i64 z] T)) 1 (.slice (some ⟨w.heap.size, 0, none⟩) 3 3) 3 (ints [x, y, z]) := by
  refine ⟨rfl, by omega, _, _, rfl, by omega, fun _ => ⟨_, _, rfl, fun k v hv => ?_⟩⟩
  rw [Nat.zero_add]
  have := (Blk.new w T #[.int .i64 x, .int .i64 y, .int .i64 z]).cell k
  rw [this]
  simpa [ints] using hv

set_option maxRecDepth 100000 in
set_option maxHeartbeats 2000000 in
theorem before_any (va vb : Value) (a b : Ent) (w : World) (ha : EntA w va a) (hb : EntA w vb b) (ia : EntI a) (ib : EntI b) (hE : Env w) :
    Calls Tryz.prog 43 #[va, vb] w fun en w' => en = .returned (.int .i64 (cmpE a b)) ∧ Kept [] w w' := by
  have ha' := ha
  have hb' := hb
  obtain ⟨ua, rfl, hna⟩ := ha
  obtain ⟨ub, rfl, hnb⟩ := hb
  obtain ⟨aa, ac, rfl, _, _⟩ := hna.form
  obtain ⟨ba, bc, rfl, _, _⟩ := hnb.form
  obtain ⟨W, hW⟩ : ∃ W, (w.alloc (.cells (entC a (.slice aa a.nums.length ac)).toArray 52)).alloc (.cells (entC b (.slice ba b.nums.length bc)).toArray 52) = W := ⟨_, rfl⟩
  have hx : Blk W w.heap.size 52 (entC a (.slice aa a.nums.length ac)).toArray := hW ▸ (Blk.new _ _ _).alloc _
  have hz : Blk W (w.heap.size + 1) 52 (entC b (.slice ba b.nums.length bc)).toArray := by
    have := Blk.new (w.alloc (.cells (entC a (.slice aa a.nums.length ac)).toArray 52)) 52 (entC b (.slice ba b.nums.length bc)).toArray
    rw [hW, World.size_alloc] at this
    exact this
  have hkW : Kept [] w W := hW ▸ ((Kept.refl _ _).alloc _).alloc _
  have EA : Hid (∀ w', Kept [] W w' → Calls Tryz.prog 77 #[.agg #[.int .i64 a.gate, .int .i64 a.no, .int .i64 a.time, .int .i64 a.kind, .slice aa a.nums.length ac, .string ⟨a.text.toArray⟩, .int .i64 a.c, .int .i64 a.s]] w' fun en w2 => en = .returned (.string ⟨(encE a).toArray⟩) ∧ Kept [] w' w2) :=
    fun w' k => encode_any _ a w' (ha'.kept (hkW.trans k)) ia (hE.kept0 (hkW.trans k))
  have EB : Hid (∀ w', Kept [] W w' → Calls Tryz.prog 77 #[.agg #[.int .i64 b.gate, .int .i64 b.no, .int .i64 b.time, .int .i64 b.kind, .slice ba b.nums.length bc, .string ⟨b.text.toArray⟩, .int .i64 b.c, .int .i64 b.s]] w' fun en w2 => en = .returned (.string ⟨(encE b).toArray⟩) ∧ Kept [] w' w2) :=
    fun w' k => encode_any _ b w' (hb'.kept (hkW.trans k)) ib (hE.kept0 (hkW.trans k))
  have CG : Hid (∀ w', Calls Tryz.prog 75 #[.int .i64 a.gate, .int .i64 b.gate] w' fun e w2 => e = .returned (.int .i64 (cmpI a.gate b.gate)) ∧ w' = w2) := fun w' => cmpI_any _ _ w'
  have CN : Hid (∀ w', Calls Tryz.prog 75 #[.int .i64 a.no, .int .i64 b.no] w' fun e w2 => e = .returned (.int .i64 (cmpI a.no b.no)) ∧ w' = w2) := fun w' => cmpI_any _ _ w'
  have CS : Hid (∀ w', Calls Tryz.prog 76 #[.string ⟨(encE a).toArray⟩, .string ⟨(encE b).toArray⟩] w' fun e w2 => e = .returned (.int .i64 (cmpB (encE a) (encE b))) ∧ w' = w2) := fun w' => cmpS_any _ _ w'
  have OR : Hid (∀ w' v, Row w' 1 v 3 (ints [cmpI a.gate b.gate, cmpI a.no b.no, cmpB (encE a) (encE b)]) → Calls Tryz.prog 74 #[v] w' fun e w2 => e = .returned (.int .i64 (cmpE a b)) ∧ w' = w2) := fun w' v h => or_any _ _ _ v w' h
  obtain ⟨R, hR⟩ : ∃ R, cmpE a b = R := ⟨_, rfl⟩
  obtain ⟨x1, hx1⟩ : ∃ R, cmpI a.gate b.gate = R := ⟨_, rfl⟩
  obtain ⟨x2, hx2⟩ : ∃ R, cmpI a.no b.no = R := ⟨_, rfl⟩
  obtain ⟨x3, hx3⟩ : ∃ R, cmpB (encE a) (encE b) = R := ⟨_, rfl⟩
  obtain ⟨sa, hsa⟩ : ∃ R, encE a = R := ⟨_, rfl⟩
  obtain ⟨sb, hsb⟩ : ∃ R, encE b = R := ⟨_, rfl⟩
  rw [hx1] at CG OR
  rw [hx2] at CN OR
  rw [hx3] at CS OR
  rw [hR] at OR ⊢
  rw [hsa] at EA CS
  rw [hsb] at EB CS
  have p0 : ∀ w', Kept [] W w' → w'.cell? ⟨w.heap.size, 0, none⟩ = some (.int .i64 a.gate) := Kept.cellOf (hx.cell 0)
  have p1 : ∀ w', Kept [] W w' → w'.cell? ⟨w.heap.size, 1, none⟩ = some (.int .i64 a.no) := Kept.cellOf (hx.cell 1)
  have p2 : ∀ w', Kept [] W w' → w'.cell? ⟨w.heap.size, 2, none⟩ = some (.int .i64 a.time) := Kept.cellOf (hx.cell 2)
  have p3 : ∀ w', Kept [] W w' → w'.cell? ⟨w.heap.size, 3, none⟩ = some (.int .i64 a.kind) := Kept.cellOf (hx.cell 3)
  have p4 : ∀ w', Kept [] W w' → w'.cell? ⟨w.heap.size, 4, none⟩ = some (.slice aa a.nums.length ac) := Kept.cellOf (hx.cell 4)
  have p5 : ∀ w', Kept [] W w' → w'.cell? ⟨w.heap.size, 5, none⟩ = some (.string ⟨a.text.toArray⟩) := Kept.cellOf (hx.cell 5)
  have p6 : ∀ w', Kept [] W w' → w'.cell? ⟨w.heap.size, 6, none⟩ = some (.int .i64 a.c) := Kept.cellOf (hx.cell 6)
  have p7 : ∀ w', Kept [] W w' → w'.cell? ⟨w.heap.size, 7, none⟩ = some (.int .i64 a.s) := Kept.cellOf (hx.cell 7)
  have q0 : ∀ w', Kept [] W w' → w'.cell? ⟨w.heap.size + 1, 0, none⟩ = some (.int .i64 b.gate) := Kept.cellOf (hz.cell 0)
  have q1 : ∀ w', Kept [] W w' → w'.cell? ⟨w.heap.size + 1, 1, none⟩ = some (.int .i64 b.no) := Kept.cellOf (hz.cell 1)
  have q2 : ∀ w', Kept [] W w' → w'.cell? ⟨w.heap.size + 1, 2, none⟩ = some (.int .i64 b.time) := Kept.cellOf (hz.cell 2)
  have q3 : ∀ w', Kept [] W w' → w'.cell? ⟨w.heap.size + 1, 3, none⟩ = some (.int .i64 b.kind) := Kept.cellOf (hz.cell 3)
  have q4 : ∀ w', Kept [] W w' → w'.cell? ⟨w.heap.size + 1, 4, none⟩ = some (.slice ba b.nums.length bc) := Kept.cellOf (hz.cell 4)
  have q5 : ∀ w', Kept [] W w' → w'.cell? ⟨w.heap.size + 1, 5, none⟩ = some (.string ⟨b.text.toArray⟩) := Kept.cellOf (hz.cell 5)
  have q6 : ∀ w', Kept [] W w' → w'.cell? ⟨w.heap.size + 1, 6, none⟩ = some (.int .i64 b.c) := Kept.cellOf (hz.cell 6)
  have q7 : ∀ w', Kept [] W w' → w'.cell? ⟨w.heap.size + 1, 7, none⟩ = some (.int .i64 b.s) := Kept.cellOf (hz.cell 7)
  have HW := Lib.hid hW
  have HKW := Lib.hid hkW
  clear hW hx hz hkW hna hnb ha' hb' ia ib hE hR hx1 hx2 hx3 hsa hsb
  show Calls _ _ #[.agg #[.int .i64 a.gate, .int .i64 a.no, .int .i64 a.time, .int .i64 a.kind, .slice aa a.nums.length ac, .string ⟨a.text.toArray⟩, .int .i64 a.c, .int .i64 a.s], .agg #[.int .i64 b.gate, .int .i64 b.no, .int .i64 b.time, .int .i64 b.kind, .slice ba b.nums.length bc, .string ⟨b.text.toArray⟩, .int .i64 b.c, .int .i64 b.s]] _ _
  go_enter Tryz.func43, Tryz.ntmps43
  go_upto_region 1 with (fail)
  have hW' : (w.alloc (.cells #[.int .i64 a.gate, .int .i64 a.no, .int .i64 a.time, .int .i64 a.kind, .slice aa a.nums.length ac, .string ⟨a.text.toArray⟩, .int .i64 a.c, .int .i64 a.s] 52)).alloc (.cells #[.int .i64 b.gate, .int .i64 b.no, .int .i64 b.time, .int .i64 b.kind, .slice ba b.nums.length bc, .string ⟨b.text.toArray⟩, .int .i64 b.c, .int .i64 b.s] 52) = W := HW.out
  rw [hW']
  clear hW'
  go_region_held3 (fun w' => Kept [] W w') (first | assumption | exact (Kept.refl _ _).drew | exact Kept.alloc (by assumption) _)
    (first
      | (go_at_call 75; ((with_reducible refine (CG.out _).mono ?_); rintro e1 w1 ⟨rfl, rfl⟩))
      | (go_at_call 75; ((with_reducible refine (CN.out _).mono ?_); rintro e1 w1 ⟨rfl, rfl⟩))
      | (go_at_call 76; ((with_reducible refine (CS.out _).mono ?_); rintro e1 w1 ⟨rfl, rfl⟩))
      | (go_at_call 77; with_reducible refine (kept_from (W := W) (by assumption) (EA.out _ (by assumption))).mono ?_; rintro e2 w2 ⟨rfl, hk2⟩)
      | (go_at_call 77; with_reducible refine (kept_from (W := W) (by assumption) (EB.out _ (by assumption))).mono ?_; rintro e2 w3 ⟨rfl, hk3⟩)
      | (go_at_call 74; refine (OR.out _ _ (by exact row3e _ _ _ _ _)).mono ?_; rintro e4 w4 ⟨rfl, rfl⟩))
  go_wp2_with fail
  go_ret
  exact ⟨rfl, HKW.out.trans (by assumption)⟩
end Go.Proofs.YtcidfldeiklcjaaGreatDoor
/- The plain law of reading: what the loops of Decode keep. -/
namespace Go.Proofs.YtcidfldeiklcjaaGreatDoor.Tape
open Wire (I64)

theorem times_succ {α : Type} (one : Tp → α × Tp) (n : Nat) (r : Tp) (acc : List α) : times one (n + 1) r acc = times one n (one r).2 (acc ++ [(one r).1]) := rfl
theorem times_pre {α : Type} (one : Tp → α × Tp) : ∀ (n : Nat) (r : Tp) (acc : List α), ∃ l, (times one n r acc).1 = acc ++ l
  | 0, _, acc => ⟨[], by simp [times]⟩
  | n + 1, r, acc => by
    obtain ⟨l, hl⟩ := times_pre one n (one r).2 (acc ++ [(one r).1])
    exact ⟨(one r).1 :: l, by rw [times, hl]; simp⟩

/-- how much is left: each round reads on -/
theorem list_le (r : Tp) : (list r).2.left.length ≤ r.left.length := list_codec.le r
theorem list_len (r : Tp) : (list r).1.length ≤ r.left.length := by
  unfold list
  have := count_le r
  simp only [List.length_take]
  omega

theorem total_app (a b : List (List Lnk)) : total (a ++ b) = total a + total b := by
  induction a with
  | nil => simp [total]
  | cons x a ih => simp only [List.cons_append, total, ih]; omega

/-- the terms run out ahead of the links -/
theorem total_out {m m' : Nat} {r' : Tp} {accL : List (List (Lnk × List UInt8))} {acc : List (Lnk × List UInt8)} {fin : List (List Lnk) × Tp} {ts : List (List UInt8)}
    {li : List Lnk × Tp} (hli : times lnk (m' + 1) r' (acc.map Prod.fst) = li) (hf : times (many lnk) m li.2 (strip accL ++ [li.1]) = fin) (ht : terms accL ++ acc.map Prod.snd = ts) : ts.length < total fin.1 := by
  obtain ⟨l, hl⟩ := times_pre (many lnk) m li.2 (strip accL ++ [li.1])
  rw [hf] at hl
  have h1 : li.1.length = acc.length + (m' + 1) := by rw [← hli, times_len]; simp
  rw [hl, total_app, total_app, total_strip, ← ht]
  simp only [total, List.length_append, List.length_map]
  omega

theorem strip_snoc (a : List (List (Lnk × List UInt8))) (x : List (Lnk × List UInt8)) : strip (a ++ [x]) = strip a ++ [x.map Prod.fst] := by simp [strip]
theorem terms_snoc (a : List (List (Lnk × List UInt8))) (x : List (Lnk × List UInt8)) : terms (a ++ [x]) = terms a ++ x.map Prod.snd := by simp [terms]

/-- a list of a record reads back from its parts: the terms are all used -/
theorem attach_of {accL : List (List (Lnk × List UInt8))} {lk : List (List Lnk)} {ts : List (List UInt8)} (h1 : strip accL = lk) (h2 : terms accL = ts) : attach lk ts = accL ∧ total lk = ts.length := by
  subst h1 h2
  exact ⟨attach_strip accL, total_strip accL⟩
end Go.Proofs.YtcidfldeiklcjaaGreatDoor.Tape
/- Numbers read one after the other: the state in memory. -/
namespace Go.Proofs.YtcidfldeiklcjaaGreatDoor
open Go.RowKit Tape

/-- ints behind one another in block g -/
def Src (w : World) (g : Nat) (a : Option Addr) (c : Nat) (l : List Int) : Prop :=
  l.length ≤ c ∧ l.length ≤ 9223372036854775807 ∧ (0 < l.length → ∃ off, a = some ⟨g, off, none⟩ ∧ ∀ (k : Nat) n, l[k]? = some n → w.cell? ⟨g, off + k, none⟩ = some (.int .i64 n))
section
variable {w w' : World} {g : Nat} {a : Option Addr} {c : Nat} {l : List Int} {S : List Nat}
theorem Src.keep (h : Src w g a c l) (k : Kept S w w') (hg : g ∉ S) : Src w' g a c l := by
  refine ⟨h.1, h.2.1, fun hp => ?_⟩
  obtain ⟨off, ha, hc⟩ := h.2.2 hp
  refine ⟨off, ha, fun i n hn => ?_⟩
  have := hc i n hn
  exact (k.cell (World.block_lt_of_cell? w _ this) hg).trans this
theorem Src.of_own {B : Nat} (h : w.ownsRow B 3 1 (.slice a l.length c) l.length (ints l)) (hl : l.length ≤ 9223372036854775807) : ∃ g, Src w g a c l ∧ (g = 0 ∨ (B ≤ g ∧ g < w.heap.size)) := by
  rcases Nat.eq_zero_or_pos l.length with h0 | hp
  · have := List.eq_nil_of_length_eq_zero h0
    subst this
    exact ⟨0, ⟨Nat.zero_le _, by simp, fun h => absurd h (by simp)⟩, Or.inl rfl⟩
  · have hr := Row.of_own h hl
    obtain ⟨b, off, ha, hc⟩ := hr.at_ hp
    refine ⟨b, ⟨(hr.form).elim (fun a h => h.elim fun c h => by have := h.1; injection this with _ _ e; omega), hl, fun _ => ⟨off, ha, fun k n hn => hc k _ ?_⟩⟩, Or.inr ?_⟩
    · simp [ints, hn]
    · exact own_ge h b (by subst ha; unfold obl; simp [Value.ownBlock])
theorem Src.empty (w : World) (g : Nat) (a : Option Addr) (c : Nat) : Src w g a c [] := ⟨Nat.zero_le _, by simp, fun h => absurd h (by simp)⟩
/-- the rest behind the first m -/
theorem Src.drop (h : Src w g a c l) (m : Nat) (hm : m ≤ l.length) (a' : Option Addr) (ha : m < l.length → ∀ off, a = some ⟨g, off, none⟩ → a' = some ⟨g, off + m, none⟩) : Src w g a' (c - m) (l.drop m) := by
  refine ⟨by rw [List.length_drop]; have := h.1; omega, by rw [List.length_drop]; have := h.2.1; omega, fun hp => ?_⟩
  rw [List.length_drop] at hp
  obtain ⟨off, ho, hc⟩ := h.2.2 (by omega)
  refine ⟨off + m, ha (by omega) off ho, fun k n hn => ?_⟩
  rw [List.getElem?_drop] at hn
  rw [Nat.add_assoc]
  exact hc _ _ hn
end

/-- what reads numbers one after the other -/
structure TpAt (T : TypeId) (w : World) (b g : Nat) (r : Tp) : Prop where
  st : ∃ a c, Blk w b T #[.slice a r.left.length c, .bool r.bad] ∧ Src w g a c r.left
  ne : b ≠ g
theorem TpAt.keep {T : TypeId} {w w' : World} {b g : Nat} {r : Tp} {S : List Nat} (h : TpAt T w b g r) (k : Kept S w w') (hb : b ∉ S) (hg : g ∉ S) : TpAt T w' b g r := by
  obtain ⟨a, c, h1, h2⟩ := h.st
  exact ⟨⟨a, c, h1.kept k hb, h2.keep k hg⟩, h.ne⟩
theorem TpAt.lt {T : TypeId} {w : World} {b g : Nat} {r : Tp} (h : TpAt T w b g r) : b < w.heap.size := by
  obtain ⟨a, c, h1, h2⟩ := h.st
  exact h1.lt
end Go.Proofs.YtcidfldeiklcjaaGreatDoor
namespace Go.Proofs.YtcidfldeiklcjaaGreatDoor
open Go.RowKit Tape

/-- it holds whatever becomes of the blocks of X, and of new ones -/
def Stable (X : List Nat) (P : World → Prop) (w : World) : Prop := ∀ S w', Kept S w w' → (∀ z ∈ S, z < w.heap.size → z ∈ X) → P w'
section
variable {X X' S : List Nat} {P Q : World → Prop} {w w' : World}
theorem Stable.get (h : Stable X P w) : P w := h [] w (Kept.refl _ _) (by simp)
theorem Stable.step (h : Stable X P w) (k : Kept S w w') (hS : ∀ z ∈ S, z < w.heap.size → z ∈ X) (hX : ∀ z ∈ X', z ∈ X ∨ w.heap.size ≤ z) : Stable X' P w' := fun S' w'' k' hS' =>
  h (S ++ S') w'' ((k.mono fun z _ hz => List.mem_append_left _ hz).then_ k' fun z _ hz => List.mem_append_right _ hz) fun z hz hlt => by
    rcases List.mem_append.1 hz with h1 | h1
    · exact hS z h1 hlt
    · have := k.size
      rcases hX z (hS' z h1 (by omega)) with h2 | h2
      · exact h2
      · omega
theorem Stable.less (h : Stable X P w) (hX : ∀ z ∈ X', z ∈ X ∨ w.heap.size ≤ z) : Stable X' P w := h.step (Kept.refl [] _) (by simp) hX
theorem Stable.imp (h : Stable X P w) (hPQ : ∀ w, P w → Q w) : Stable X Q w := fun S w' k hS => hPQ _ (h S w' k hS)
theorem Stable.and (h : Stable X P w) (k : Stable X Q w) : Stable X (fun w => P w ∧ Q w) w := fun S w' kk hS => ⟨h S w' kk hS, k S w' kk hS⟩
theorem Stable.const {p : Prop} (h : p) : Stable X (fun _ => p) w := fun _ _ _ _ => h
theorem Stable.own {B : Nat} {e : TypeId} {size n : Nat} {v : Value} {xs : List Value} (h : w.ownsRow B e size v n xs) (hX : ∀ z ∈ obl v, z ∉ X) : Stable X (fun w => w.ownsRow B e size v n xs) w := fun _ _ k hS =>
  own_keep h k fun z hz hm => hX z hz (hS z hm (own_ge h z hz).2)
theorem Stable.row {B : Nat} {e : TypeId} {size n : Nat} {v : Value} {xs : List Value} (h : w.ownsRow B e size v n xs) (hX : ∀ z ∈ obl v, z ∉ X) (hn : n ≤ 9223372036854775807) : Stable X (fun w => Row w size v n xs) w :=
  (Stable.own h hX).imp fun _ h => Row.of_own h hn
end

/-- the cells of the members of a list -/
def Elems {α : Type} (R : World → List Value → α → Prop) (m : Nat) (vs : List (List Value)) (l : List α) (w : World) : Prop :=
  vs.length = l.length ∧ (∀ c ∈ vs, c.length = m) ∧ ∀ (k : Nat) a, l[k]? = some a → ∃ c, vs[k]? = some c ∧ R w c a
theorem Elems.nil_ {α : Type} (R : World → List Value → α → Prop) (m : Nat) (w : World) : Elems R m [] [] w := ⟨rfl, by simp, by simp⟩
theorem Elems.snoc {α : Type} {R : World → List Value → α → Prop} {m : Nat} {vs : List (List Value)} {l : List α} {w : World} (h : Elems R m vs l w) {c : List Value} {a : α} (hc : c.length = m) (hR : R w c a) : Elems R m (vs ++ [c]) (l ++ [a]) w := by
  obtain ⟨h1, h2, h3⟩ := h
  refine ⟨by simp [h1], fun x hx => ?_, fun k b hb => ?_⟩
  · rcases List.mem_append.1 hx with h | h
    · exact h2 x h
    · rw [List.mem_singleton] at h; subst h; exact hc
  · by_cases hk : k < l.length
    · rw [List.getElem?_append_left hk] at hb
      obtain ⟨c', hc', hR'⟩ := h3 k b hb
      exact ⟨c', by rw [List.getElem?_append_left (by omega)]; exact hc', hR'⟩
    · rw [List.getElem?_append_right (by omega)] at hb
      have hk0 : k - l.length = 0 := by
        rcases Nat.eq_zero_or_pos (k - l.length) with h | h
        · exact h
        · rw [List.getElem?_eq_none (by simp; omega)] at hb; cases hb
      rw [hk0] at hb
      simp at hb
      subst hb
      exact ⟨c, by rw [List.getElem?_append_right (by omega), h1, hk0]; rfl, hR⟩

/-- a row of the call's own that grows -/
def Grow {α : Type} (R : World → List Value → α → Prop) (m : Nat) (e : TypeId) (B : Nat) (X : List Nat) (w : World) (v : Value) (l : List α) : Prop :=
  ∃ vs, w.ownsRow B e m v l.length vs.flatten ∧ Stable X (Elems R m vs l) w
section
variable {α : Type} {R : World → List Value → α → Prop} {m : Nat} {e : TypeId} {B : Nat} {X X' S : List Nat} {w w' : World} {v : Value} {l : List α}
theorem Grow.nil_ (R : World → List Value → α → Prop) (m : Nat) (e : TypeId) (B : Nat) (X : List Nat) (w : World) : Grow R m e B X w (.slice none 0 0) [] :=
  ⟨[], World.ownsRow_nil _ _ _ _, fun _ _ _ _ => Elems.nil_ _ _ _⟩
theorem Grow.step (h : Grow R m e B X w v l) (k : Kept S w w') (hv : ∀ z ∈ obl v, z ∉ S) (hS : ∀ z ∈ S, z < w.heap.size → z ∈ X) (hX : ∀ z ∈ X', z ∈ X ∨ w.heap.size ≤ z) : Grow R m e B X' w' v l := by
  obtain ⟨vs, h1, h2⟩ := h
  exact ⟨vs, own_keep h1 k hv, h2.step k hS hX⟩
theorem Grow.ge (h : Grow R m e B X w v l) : ∀ z ∈ obl v, B ≤ z ∧ z < w.heap.size := by
  obtain ⟨vs, h1, h2⟩ := h
  exact own_ge h1
theorem own_len {w : World} {B : Nat} {e : TypeId} {size n : Nat} {v : Value} {xs : List Value} (h : w.ownsRow B e size v n xs) (hs : 0 < size) : ∃ a c, v = .slice a n c := by
  rcases h.2 with ⟨h3, h4⟩ | ⟨g, cap, cur, hv, _⟩
  · have h5 := h.1
    rw [h4] at h5
    have hn : n = 0 := by
      rcases Nat.eq_zero_or_pos n with h | h
      · exact h
      · have := Nat.mul_pos h hs
        simp at h5
        omega
    subst hn
    exact ⟨_, _, h3⟩
  · exact ⟨_, _, hv⟩
theorem Grow.form (h : Grow R m e B X w v l) (hm : 0 < m) : ∃ a c, v = .slice a l.length c := by
  obtain ⟨vs, h1, h2⟩ := h
  exact own_len h1 hm
/-- it is finished -/
theorem Grow.done (h : Grow R m e B X w v l) (hX : ∀ z ∈ X', z ∈ X ∨ w.heap.size ≤ z) (hv : ∀ z ∈ obl v, z ∉ X') (hl : l.length ≤ 9223372036854775807) : Stable X' (fun w => RowOf R m w v l) w := by
  obtain ⟨vs, h1, h2⟩ := h
  exact ((Stable.own h1 hv).and (h2.less hX)).imp fun w' h => RowOf.of_own h.1 h.2.1 h.2.2.1 h.2.2.2 hl
theorem Grow.row (h : Grow R m e B X w v l) (hl : l.length ≤ 9223372036854775807) : RowOf R m w v l := by
  obtain ⟨vs, h1, h2⟩ := h
  have h3 := h2.get
  exact RowOf.of_own h1 h3.1 h3.2.1 h3.2.2 hl

/-- one element behind a row that grows -/
theorem wp_append_grow {P : Program} {o : Oper} {a : Act} {K : Act → World → Prop} {Q : Exit → Act → World → Prop} (s x : Operand) (t : TypeId)
    (ho : o.op = .call { callee := .builtin .append, args := #[s, x], argTypes := #[t, t] })
    (i : TypeInfo) (z : Value) (bytes : Nat) (ht : P.underlying t = some (.slice e)) (hi : P.info? e = some i) (hz : i.zero = some z)
    (hsize : i.size = m) (hby : i.bytes = bytes) (hzs : z.cells.size = m) (hsz : 0 < m) (hbs : bytes ≤ 128)
    (hs : a.eval s = v) (hg : Grow R m e B X w v l) (u : Value) (c : List Value) (b : α) (hx : a.eval x = u) (hrow : Row w m u 1 c) (hR : Stable X (fun w => R w c b) w) (h1 : ∀ u ∈ c, u.oneCell' = true)
    (hn : l.length ≤ 1000000000) (hbase : B ≤ w.heap.size) (hvX : ∀ z ∈ obl v, z ∈ X)
    (h : ∀ a' c' w', Grow R m e B (X ++ obl (.slice a' (l.length + 1) c')) w' (.slice a' (l.length + 1) c') (l ++ [b]) → Kept (obl v) w w' → (∀ k ∈ obl (.slice a' (l.length + 1) c'), k ∈ obl v ∨ k = w.heap.size) → K (a.put o.dst (.slice a' (l.length + 1) c')) w') : o.wp P a w K Q := by
  obtain ⟨vs, h2, h3⟩ := hg
  refine wp_append_row s x t ho B e i z m bytes ht hi hz hsize hby hzs hsz v l.length vs.flatten hs h2 u 1 c hx hrow h1 (by unfold maxLen; omega) ?_ hbase ?_
  · have : (l.length + 1) * bytes ≤ 1000000001 * 128 := Nat.mul_le_mul (by omega) hbs
    omega
  · intro a' c' w' own k hb
    have hcm : c.length = m := by have := hrow.1; omega
    refine h a' c' w' ⟨vs ++ [c], by simpa using own, ?_⟩ k hb
    have h4 : Stable X (Elems R m (vs ++ [c]) (l ++ [b])) w := (h3.and hR).imp fun _ h => h.1.snoc hcm h.2
    exact h4.step k (fun z hz _ => hvX z hz) fun z hz => by
      rcases List.mem_append.1 hz with h | h
      · exact Or.inl h
      · rcases hb z h with h | h
        · exact Or.inl (hvX z h)
        · exact Or.inr (by omega)
theorem wpList_append_grow {P : Program} {ops : Array Oper} {rest : List Oper} {o : Oper} {a : Act} {Q : Exit → Act → World → Prop} (hgd : o.guard = none) (s x : Operand) (t : TypeId)
    (ho : o.op = .call { callee := .builtin .append, args := #[s, x], argTypes := #[t, t] })
    (i : TypeInfo) (z : Value) (bytes : Nat) (ht : P.underlying t = some (.slice e)) (hi : P.info? e = some i) (hz : i.zero = some z)
    (hsize : i.size = m) (hby : i.bytes = bytes) (hzs : z.cells.size = m) (hsz : 0 < m) (hbs : bytes ≤ 128)
    (hs : a.eval s = v) (hg : Grow R m e B X w v l) (u : Value) (c : List Value) (b : α) (hx : a.eval x = u) (hrow : Row w m u 1 c) (hR : Stable X (fun w => R w c b) w) (h1 : ∀ u ∈ c, u.oneCell' = true)
    (hn : l.length ≤ 1000000000) (hbase : B ≤ w.heap.size) (hvX : ∀ z ∈ obl v, z ∈ X)
    (h : ∀ a' c' w', Grow R m e B (X ++ obl (.slice a' (l.length + 1) c')) w' (.slice a' (l.length + 1) c') (l ++ [b]) → Kept (obl v) w w' → (∀ k ∈ obl (.slice a' (l.length + 1) c'), k ∈ obl v ∨ k = w.heap.size) → wpList P ops Q rest (a.put o.dst (.slice a' (l.length + 1) c')) w') :
    wpList P ops Q (o :: rest) a w :=
  wpList_plain hgd fun _ hK => wp_append_grow s x t ho i z bytes ht hi hz hsize hby hzs hsz hbs hs hg u c b hx hrow hR h1 hn hbase hvX fun a' c' w' h2 h3 h4 => hK _ _ (h a' c' w' h2 h3 h4)
theorem step_append_grow {P : Program} {ops : Array Oper} {o : Oper} {a : Act} {K : Act → World → Prop} {Q : Exit → Act → World → Prop} {E : Prop} (hgd : o.guard = none) (s x : Operand) (t : TypeId)
    (ho : o.op = .call { callee := .builtin .append, args := #[s, x], argTypes := #[t, t] })
    (i : TypeInfo) (z : Value) (bytes : Nat) (ht : P.underlying t = some (.slice e)) (hi : P.info? e = some i) (hz : i.zero = some z)
    (hsize : i.size = m) (hby : i.bytes = bytes) (hzs : z.cells.size = m) (hsz : 0 < m) (hbs : bytes ≤ 128)
    (hs : a.eval s = v) (hg : Grow R m e B X w v l) (u : Value) (c : List Value) (b : α) (hx : a.eval x = u) (hrow : Row w m u 1 c) (hR : Stable X (fun w => R w c b) w) (h1 : ∀ u ∈ c, u.oneCell' = true)
    (hn : l.length ≤ 1000000000) (hbase : B ≤ w.heap.size) (hvX : ∀ z ∈ obl v, z ∈ X)
    (h : ∀ a' c' w', Grow R m e B (X ++ obl (.slice a' (l.length + 1) c')) w' (.slice a' (l.length + 1) c') (l ++ [b]) → Kept (obl v) w w' → (∀ k ∈ obl (.slice a' (l.length + 1) c'), k ∈ obl v ∨ k = w.heap.size) → K (a.put o.dst (.slice a' (l.length + 1) c')) w') :
    if Region.wanted o (yielded ops a.tmps) = true then Oper.wp P o a w K Q else E := by
  rw [if_pos (by simp [Region.wanted, hgd])]
  exact wp_append_grow s x t ho i z bytes ht hi hz hsize hby hzs hsz hbs hs hg u c b hx hrow hR h1 hn hbase hvX h
end
end Go.Proofs.YtcidfldeiklcjaaGreatDoor
