/- Signatures: the reference's challenge. -/
import Derived.Test.YtcidfldeiklcjaaGreatDoorFewT
import Derived.Test.YtcidfldeiklcjaaGreatDoorEbd
import Derived.Test.YtcidfldeiklcjaaGreatDoorDtk
import Derived.Test.YtcidfldeiklcjaaGreatDoorSr4
import Derived.Test.YtcidfldeiklcjaaGreatDoorRdS
/- JOINED: Fmk Rc1 Rc2 Sg2 -/
/- The form of entries: shaped. -/
namespace Go.Proofs.YtcidfldeiklcjaaGreatDoor
open Go.RowKit Tm Tape

theorem quietE {P : Program} {f : FuncId} {args : Array Value} {w : World} {n : Nat} {v : Value}
    (h : Calls P f args (w.drewN n) fun e w' => e = .returned v ∧ w.drewN n = w') : Calls P f args (w.drewN n) fun e w'' => e = .returned v ∧ ∃ m, w'' = w.drewN m :=
  h.mono fun _ _ ⟨he, hm⟩ => ⟨he, n, hm.symm⟩
theorem rowTwo {w : World} {ua : Option Addr} {n uc : Nat} {l : List Int} {x y : Int} (h : Row w 1 (.slice ua n uc) n (ints l)) (hl : l = [x, y]) (hn : n = 2) : ∃ b off, ua = some ⟨b, off, none⟩ ∧ w.cell? ⟨b, off, none⟩ = some (.int .i64 x) ∧ w.cell? ⟨b, off + 1, none⟩ = some (.int .i64 y) := by
  obtain ⟨b, off, h1, h2⟩ := h.at_ (by omega)
  exact ⟨b, off, h1, by have := h2 0 (.int .i64 x) (by rw [hl]; rfl); simpa using this, h2 1 (.int .i64 y) (by rw [hl]; rfl)⟩
theorem two_of {l : List Int} (h : l.length = 2) : ∃ x y, l = [x, y] := by
  match l, h with
  | [x, y], _ => exact ⟨x, y, rfl⟩
theorem twoB_no {l : List Int} {a b c d : Int} (h : l.length ≠ 2) : twoB l a b c d = false := by unfold twoB; rw [decide_eq_false h]; rfl
theorem twoB_at (x y a b c d : Int) : twoB [x, y] a b c d = (inB x a b && inB y c d) := by unfold twoB nth; simp

set_option maxRecDepth 100000 in
set_option maxHeartbeats 800000 in
/-- the closure that asks two numbers -/
theorem clo_two (a b c d : Int) (bk n uc : Nat) (ua : Option Addr) (e : Ent) (w : World) (hb : w.cell? ⟨bk, 4, none⟩ = some (.slice ua n uc)) (hn : e.nums.length = n) (hr : Row w 1 (.slice ua n uc) n (ints e.nums)) :
    Calls Tryz.prog 121 #[.int .i64 a, .int .i64 b, .int .i64 c, .int .i64 d, .pointer (some ⟨bk, 0, none⟩)] w fun en w' => en = .returned (.bool (twoB e.nums a b c d)) ∧ w = w' := by
  by_cases h2 : n = 2
  · obtain ⟨x, y, hxy⟩ := two_of (hn.trans h2)
    obtain ⟨rb, ro, rfl, x0, x1⟩ := rowTwo hr hxy h2
    subst h2
    rw [hxy, twoB_at]
    have W1 := Lib.hid (within_any x a b w)
    have W2 := Lib.hid (within_any y c d w)
    obtain ⟨t1, ht1⟩ : ∃ t, inB x a b = t := ⟨_, rfl⟩
    obtain ⟨t2, ht2⟩ : ∃ t, inB y c d = t := ⟨_, rfl⟩
    rw [ht1] at W1 ⊢
    rw [ht2] at W2 ⊢
    clear ht1 ht2 hxy hn hr
    cases t1
    · go_enter Tryz.func121, Tryz.ntmps121
      go_wp2_with (go_at_call 37; with_reducible refine W1.out.mono ?_; rintro e w2 ⟨rfl, rfl⟩)
      go_ret
      exact ⟨rfl, rfl⟩
    · go_enter Tryz.func121, Tryz.ntmps121
      go_wp2_with (go_at_call 37; with_reducible refine W1.out.mono ?_)
      rintro e w2 ⟨rfl, rfl⟩
      go_wp2_with (go_at_call 37; with_reducible refine W2.out.mono ?_)
      rintro e w2 ⟨rfl, rfl⟩
      go_wp2_with fail
      go_ret
      exact ⟨rfl, rfl⟩
  · have h2' : ((n : Int) == 2) = false := by simp; omega
    rw [twoB_no (by rw [hn]; exact h2)]
    clear h2 hr hn
    go_enter Tryz.func121, Tryz.ntmps121
    go_wp2_with fail
    go_ret
    exact ⟨rfl, rfl⟩

set_option maxRecDepth 100000 in
set_option maxHeartbeats 4000000 in
theorem shaped_any (vs ve : Value) (s : Stp) (q : Nat) (e : Ent) (w : World) (hs : StpV w vs s) (hok : GrpOk s.P s.Q s.G q) (hgn : groupN q s.G = true) (he : EntA w ve e) (hi : EntI e) (hno : 0 ≤ e.no) (hE : Env2 w) :
    Calls Tryz.prog 81 #[vs, ve] w fun en w' => en = .returned (.bool (shapedB s e)) ∧ Kept [] w w' := by
  have hs' := hs
  obtain ⟨⟨ad, c, rfl, hrow⟩, ip, iq, ig, ib, il⟩ := hs'
  obtain ⟨u, rfl, hnu⟩ := he
  obtain ⟨ua, uc, rfl, _, _⟩ := hnu.form
  obtain ⟨W, hW⟩ : ∃ W, (w.alloc (.cells (stpA s (.slice ad s.bases.length c)) 26)).alloc (.cells (entC e (.slice ua e.nums.length uc)).toArray 52) = W := ⟨_, rfl⟩
  have hb : Blk W w.heap.size 26 (stpA s (.slice ad s.bases.length c)) := hW ▸ (Blk.new _ _ _).alloc _
  have hz : Blk W (w.heap.size + 1) 52 (entC e (.slice ua e.nums.length uc)).toArray := by
    have := Blk.new (w.alloc (.cells (stpA s (.slice ad s.bases.length c)) 26)) 52 (entC e (.slice ua e.nums.length uc)).toArray
    rw [hW, World.size_alloc] at this
    exact this
  have hkW : Kept [] w W := hW ▸ ((Kept.refl _ _).alloc _).alloc _
  have hq5 := hok.h5
  have hqq := hok.hq
  have hQ := hok.hQ
  have hl4 := hi.l4
  have LE : Hid (Calls Tryz.prog 122 #[.agg (stpA s (.slice ad s.bases.length c)), .slice ua e.nums.length uc] W fun en w' => en = .returned (.bool (learntB s e.nums)) ∧ Kept [] W w') :=
    learnt_any _ s q _ e.nums W (hs.kept hkW) hok hgn (hnu.kept hkW) (by omega) hi.h4 (hE.kept0 hkW)
  have MA : Hid (Calls Tryz.prog 123 #[.agg (stpA s (.slice ad s.bases.length c)), .slice ua e.nums.length uc] W fun en w' => en = .returned (.bool (markedB s e.nums)) ∧ Kept [] W w') :=
    marked_any _ s q _ e.nums W (hs.kept hkW) hok hgn (hnu.kept hkW) (by omega) hi.h4 (hE.kept0 hkW)
  have TW : Hid (∀ (a b c d : Int) (k : Nat), Calls Tryz.prog 121 #[.int .i64 a, .int .i64 b, .int .i64 c, .int .i64 d, .pointer (some ⟨w.heap.size + 1, 0, none⟩)] (W.drewN k) fun en w' => en = .returned (.bool (twoB e.nums a b c d)) ∧ W.drewN k = w') :=
    fun a b c d k => clo_two a b c d (w.heap.size + 1) e.nums.length uc ua e (W.drewN k) (hz.cell 4) rfl ((hnu.kept hkW).drewN k)
  have TW0 : Hid (∀ (a b c d : Int), Calls Tryz.prog 121 #[.int .i64 a, .int .i64 b, .int .i64 c, .int .i64 d, .pointer (some ⟨w.heap.size + 1, 0, none⟩)] W fun en w' => en = .returned (.bool (twoB e.nums a b c d)) ∧ W = w') :=
    fun a b c d => clo_two a b c d (w.heap.size + 1) e.nums.length uc ua e W (hz.cell 4) rfl (hnu.kept hkW)
  have hmf : ∀ (fn : Fn) (first cap : Array Value) (w : World), (Instr.makeFunc fn first cap).run Tryz.prog w = .ok (.func fn first cap) w := fun _ _ _ _ => rfl
  have s0 : W.cell? ⟨w.heap.size, 0, none⟩ = some (.int .i64 s.P) := hb.cell 0
  have s1 : W.cell? ⟨w.heap.size, 1, none⟩ = some (.int .i64 s.Q) := hb.cell 1
  have s2 : W.cell? ⟨w.heap.size, 2, none⟩ = some (.int .i64 s.G) := hb.cell 2
  have s3 : W.cell? ⟨w.heap.size, 3, none⟩ = some (.slice ad s.bases.length c) := hb.cell 3
  have s4 : W.cell? ⟨w.heap.size, 4, none⟩ = some (.int .i64 s.blind) := hb.cell 4
  have c0 : W.cell? ⟨w.heap.size + 1, 0, none⟩ = some (.int .i64 e.gate) := hz.cell 0
  have c1 : W.cell? ⟨w.heap.size + 1, 1, none⟩ = some (.int .i64 e.no) := hz.cell 1
  have c3 : W.cell? ⟨w.heap.size + 1, 3, none⟩ = some (.int .i64 e.kind) := hz.cell 3
  have c4 : W.cell? ⟨w.heap.size + 1, 4, none⟩ = some (.slice ua e.nums.length uc) := hz.cell 4
  have wq : IntKind.i64.wrap (s.Q - 1) = s.Q - 1 := by rw [IntKind.wrap_i64]; omega
  have hnI := hi.h1
  have wn : IntKind.i64.wrap (e.no - 1) = e.no - 1 := by rw [IntKind.wrap_i64]; unfold Wire.I64 at hnI; omega
  have HN := Lib.hid (hnu.kept hkW)
  have HW := Lib.hid hW
  have HS : Hid (shapedB s e = if e.kind = 0 then learntB s e.nums else if e.kind = 1 then twoB e.nums 0 2147483648 0 2147483648 && decide (nth e.nums 0 ≤ nth e.nums 1)
    else if e.kind = 2 then twoB e.nums 0 23 0 4095 && !decide (nth e.nums 0 = e.gate) else if e.kind = 3 then twoB e.nums 0 15 1 (s.Q - 1) else if e.kind = 4 then decide (e.nums.length = 1) && inB (nth e.nums 0) 0 (e.no - 1)
    else if e.kind = 5 then twoB e.nums 0 (e.no - 1) 1 100 else if e.kind = 6 then markedB s e.nums else false) := rfl
  obtain ⟨R, hR⟩ : ∃ R, shapedB s e = R := ⟨_, rfl⟩
  rw [hR] at HS ⊢
  obtain ⟨K, hK⟩ : ∃ K, e.kind = K := ⟨_, rfl⟩
  rw [hK] at HS c3
  have HKW := Lib.hid hkW
  have HNU := Lib.hid hnu
  have HZ := Lib.hid hz
  clear hW hb hz hrow hnu hE hi hs hok hgn hR ib hkW hnI hQ
  have HG : Hid (e.kind = K) := Lib.hid hK
  clear hK
  have hent : Array Value → Prop := fun _ => True
  clear hent
  show Calls _ _ #[.agg #[.int .i64 s.P, .int .i64 s.Q, .int .i64 s.G, .slice ad s.bases.length c, .int .i64 s.blind], .agg #[.int .i64 e.gate, .int .i64 e.no, .int .i64 e.time, .int .i64 e.kind, .slice ua e.nums.length uc, .string ⟨e.text.toArray⟩, .int .i64 e.c, .int .i64 e.s]] _ _
  by_cases k0 : K = 0
  · subst k0
    have hR := HS.out
    rw [if_pos rfl] at hR
    have LE2 := LE.out
    rw [← hR] at LE2
    have LE3 := Lib.hid LE2
    clear hR LE2
    go_enter Tryz.func81, Tryz.ntmps81
    go_upto_region 1 with (fail)
    have hW' : (w.alloc (.cells #[.int .i64 s.P, .int .i64 s.Q, .int .i64 s.G, .slice ad s.bases.length c, .int .i64 s.blind] 26)).alloc (.cells #[.int .i64 e.gate, .int .i64 e.no, .int .i64 e.time, .int .i64 e.kind, .slice ua e.nums.length uc, .string ⟨e.text.toArray⟩, .int .i64 e.c, .int .i64 e.s] 52) = W := HW.out
    rw [hW']
    clear hW'
    go_wp2_with (go_at_call 122; with_reducible refine LE3.out.mono ?_; rintro e2 w2 ⟨rfl, k2⟩)
    go_ret
    exact ⟨rfl, HKW.out.trans k2⟩
  by_cases k1 : K = 1
  · subst k1
    have hR := HS.out
    rw [if_neg (by decide)] at hR
    rw [if_pos rfl] at hR
    clear k0
    have LQ : Hid (∀ k, Calls Tryz.prog 121 #[.int .i64 0, .int .i64 2147483648, .int .i64 0, .int .i64 2147483648, .pointer (some ⟨w.heap.size + 1, 0, none⟩)] (W.drewN k) fun en w' => en = .returned (.bool (twoB e.nums 0 2147483648 0 2147483648)) ∧ W.drewN k = w') := fun k => TW.out 0 2147483648 0 2147483648 k
    obtain ⟨t, ht⟩ : ∃ t, twoB e.nums 0 2147483648 0 2147483648 = t := ⟨_, rfl⟩
    rw [ht] at LQ hR
    cases t
    · rw [Bool.false_and] at hR
      subst hR
      clear ht
      go_enter Tryz.func81, Tryz.ntmps81
      go_upto_region 1 with (fail)
      have hW' : (w.alloc (.cells #[.int .i64 s.P, .int .i64 s.Q, .int .i64 s.G, .slice ad s.bases.length c, .int .i64 s.blind] 26)).alloc (.cells #[.int .i64 e.gate, .int .i64 e.no, .int .i64 e.time, .int .i64 e.kind, .slice ua e.nums.length uc, .string ⟨e.text.toArray⟩, .int .i64 e.c, .int .i64 e.s] 52) = W := HW.out
      rw [hW']
      clear hW'
      go_wp2_with fail
      go_quiet ((go_at_call 121; exact quietE (LQ.out _)))
      go_wp2_with fail
      go_ret
      exact ⟨rfl, HKW.out.drewN _⟩
    · rw [Bool.true_and] at hR
      obtain ⟨x, y, hxy, _, _⟩ := twoB_iff ht
      have hn2 : e.nums.length = 2 := by rw [hxy]; rfl
      obtain ⟨rb, ro, rfl, x0, x1⟩ := rowTwo HN.out hxy hn2
      rw [hxy] at hR
      have hR2 : Hid ((decide (x ≤ y)) = R) := by show _ = _; rw [hR]; rfl
      have l0 : (0 : Nat) < e.nums.length := by omega
      have l1 : (1 : Nat) < e.nums.length := by omega
      clear ht hxy hn2 hR
      go_enter Tryz.func81, Tryz.ntmps81
      go_upto_region 1 with (fail)
      have hW' : (w.alloc (.cells #[.int .i64 s.P, .int .i64 s.Q, .int .i64 s.G, .slice ad s.bases.length c, .int .i64 s.blind] 26)).alloc (.cells #[.int .i64 e.gate, .int .i64 e.no, .int .i64 e.time, .int .i64 e.kind, .slice (some ⟨rb, ro, none⟩) e.nums.length uc, .string ⟨e.text.toArray⟩, .int .i64 e.c, .int .i64 e.s] 52) = W := HW.out
      rw [hW']
      clear hW'
      go_wp2_with fail
      go_quiet ((go_at_call 121; exact quietE (LQ.out _)))
      go_wp2_with fail
      go_ret
      refine ⟨?_, HKW.out.drewN _⟩
      rw [← hR2.out]
      first | (simp; done) | (simp; rfl)
  by_cases k2 : K = 2
  · subst k2
    have hR := HS.out
    rw [if_neg (by decide)] at hR
    rw [if_neg (by decide)] at hR
    rw [if_pos rfl] at hR
    clear k0
    clear k1
    have LQ : Hid (∀ k, Calls Tryz.prog 121 #[.int .i64 0, .int .i64 23, .int .i64 0, .int .i64 4095, .pointer (some ⟨w.heap.size + 1, 0, none⟩)] (W.drewN k) fun en w' => en = .returned (.bool (twoB e.nums 0 23 0 4095)) ∧ W.drewN k = w') := fun k => TW.out 0 23 0 4095 k
    obtain ⟨t, ht⟩ : ∃ t, twoB e.nums 0 23 0 4095 = t := ⟨_, rfl⟩
    rw [ht] at LQ hR
    cases t
    · rw [Bool.false_and] at hR
      subst hR
      clear ht
      go_enter Tryz.func81, Tryz.ntmps81
      go_upto_region 1 with (fail)
      have hW' : (w.alloc (.cells #[.int .i64 s.P, .int .i64 s.Q, .int .i64 s.G, .slice ad s.bases.length c, .int .i64 s.blind] 26)).alloc (.cells #[.int .i64 e.gate, .int .i64 e.no, .int .i64 e.time, .int .i64 e.kind, .slice ua e.nums.length uc, .string ⟨e.text.toArray⟩, .int .i64 e.c, .int .i64 e.s] 52) = W := HW.out
      rw [hW']
      clear hW'
      go_wp2_with fail
      go_quiet ((go_at_call 121; exact quietE (LQ.out _)))
      go_wp2_with fail
      go_ret
      exact ⟨rfl, HKW.out.drewN _⟩
    · rw [Bool.true_and] at hR
      obtain ⟨x, y, hxy, _, _⟩ := twoB_iff ht
      have hn2 : e.nums.length = 2 := by rw [hxy]; rfl
      obtain ⟨rb, ro, rfl, x0, x1⟩ := rowTwo HN.out hxy hn2
      rw [hxy] at hR
      have hR2 : Hid ((!decide (x = e.gate)) = R) := by show _ = _; rw [hR]; rfl
      have l0 : (0 : Nat) < e.nums.length := by omega
      have l1 : (1 : Nat) < e.nums.length := by omega
      clear ht hxy hn2 hR
      go_enter Tryz.func81, Tryz.ntmps81
      go_upto_region 1 with (fail)
      have hW' : (w.alloc (.cells #[.int .i64 s.P, .int .i64 s.Q, .int .i64 s.G, .slice ad s.bases.length c, .int .i64 s.blind] 26)).alloc (.cells #[.int .i64 e.gate, .int .i64 e.no, .int .i64 e.time, .int .i64 e.kind, .slice (some ⟨rb, ro, none⟩) e.nums.length uc, .string ⟨e.text.toArray⟩, .int .i64 e.c, .int .i64 e.s] 52) = W := HW.out
      rw [hW']
      clear hW'
      go_wp2_with fail
      go_quiet ((go_at_call 121; exact quietE (LQ.out _)))
      go_wp2_with fail
      go_ret
      refine ⟨?_, HKW.out.drewN _⟩
      rw [← hR2.out]
      first | (simp; done) | (simp; rfl)
  by_cases k3 : K = 3
  · subst k3
    have hR := HS.out
    rw [if_neg (by decide)] at hR
    rw [if_neg (by decide)] at hR
    rw [if_neg (by decide)] at hR
    rw [if_pos rfl] at hR
    clear k0
    clear k1
    clear k2
    have LE2 := TW0.out 0 15 1 (s.Q - 1)
    rw [← hR] at LE2
    have LE3 := Lib.hid LE2
    clear hR LE2
    go_enter Tryz.func81, Tryz.ntmps81
    go_upto_region 1 with (fail)
    have hW' : (w.alloc (.cells #[.int .i64 s.P, .int .i64 s.Q, .int .i64 s.G, .slice ad s.bases.length c, .int .i64 s.blind] 26)).alloc (.cells #[.int .i64 e.gate, .int .i64 e.no, .int .i64 e.time, .int .i64 e.kind, .slice ua e.nums.length uc, .string ⟨e.text.toArray⟩, .int .i64 e.c, .int .i64 e.s] 52) = W := HW.out
    rw [hW']
    clear hW'
    go_wp2_with (go_at_call 121; with_reducible refine LE3.out.mono ?_; rintro e2 w2 ⟨rfl, rfl⟩)
    go_ret
    exact ⟨rfl, HKW.out⟩
  by_cases k4 : K = 4
  · subst k4
    have hR := HS.out
    rw [if_neg (by decide)] at hR
    rw [if_neg (by decide)] at hR
    rw [if_neg (by decide)] at hR
    rw [if_neg (by decide)] at hR
    rw [if_pos rfl] at hR
    clear k0
    clear k1
    clear k2
    clear k3
    by_cases h1 : e.nums.length = 1
    · rw [decide_eq_true h1, Bool.true_and] at hR
      obtain ⟨x, hx⟩ : ∃ x, e.nums = [x] := by
        match hm : e.nums, h1 with
        | [x], _ => exact ⟨x, rfl⟩
      obtain ⟨rb, ro, rfl, hcell⟩ := HN.out.at_ (by omega)
      have x0 : W.cell? ⟨rb, ro, none⟩ = some (.int .i64 x) := by have := hcell 0 (.int .i64 x) (by rw [hx]; rfl); simpa using this
      have WI : Hid (∀ k, Calls Tryz.prog 37 #[.int .i64 x, .int .i64 0, .int .i64 (e.no - 1)] (W.drewN k) fun en w' => en = .returned (.bool R) ∧ W.drewN k = w') := fun k => by
        have := within_any x 0 (e.no - 1) (W.drewN k)
        rw [hx] at hR
        rw [hR]
        exact this
      have d1 : ((e.nums.length : Int) == 1) = true := by rw [h1]; rfl
      have l0 : (0 : Nat) < e.nums.length := by omega
      clear hcell hx hR h1
      go_enter Tryz.func81, Tryz.ntmps81
      go_upto_region 1 with (fail)
      have hW' : (w.alloc (.cells #[.int .i64 s.P, .int .i64 s.Q, .int .i64 s.G, .slice ad s.bases.length c, .int .i64 s.blind] 26)).alloc (.cells #[.int .i64 e.gate, .int .i64 e.no, .int .i64 e.time, .int .i64 e.kind, .slice (some ⟨rb, ro, none⟩) e.nums.length uc, .string ⟨e.text.toArray⟩, .int .i64 e.c, .int .i64 e.s] 52) = W := HW.out
      rw [hW']
      clear hW'
      go_wp2_with fail
      go_quiet ((go_at_call 37; exact quietE (WI.out _)))
      go_wp2_with fail
      go_ret
      exact ⟨rfl, HKW.out.drewN _⟩
    · rw [decide_eq_false h1, Bool.false_and] at hR
      subst hR
      have d1 : ((e.nums.length : Int) == 1) = false := by simp; omega
      clear h1
      go_enter Tryz.func81, Tryz.ntmps81
      go_upto_region 1 with (fail)
      have hW' : (w.alloc (.cells #[.int .i64 s.P, .int .i64 s.Q, .int .i64 s.G, .slice ad s.bases.length c, .int .i64 s.blind] 26)).alloc (.cells #[.int .i64 e.gate, .int .i64 e.no, .int .i64 e.time, .int .i64 e.kind, .slice ua e.nums.length uc, .string ⟨e.text.toArray⟩, .int .i64 e.c, .int .i64 e.s] 52) = W := HW.out
      rw [hW']
      clear hW'
      go_wp2_with fail
      go_quiet (fail)
      go_wp2_with fail
      go_ret
      exact ⟨rfl, HKW.out.drewN _⟩
  by_cases k5 : K = 5
  · subst k5
    have hR := HS.out
    rw [if_neg (by decide)] at hR
    rw [if_neg (by decide)] at hR
    rw [if_neg (by decide)] at hR
    rw [if_neg (by decide)] at hR
    rw [if_neg (by decide)] at hR
    rw [if_pos rfl] at hR
    clear k0
    clear k1
    clear k2
    clear k3
    clear k4
    have LE2 := TW0.out 0 (e.no - 1) 1 100
    rw [← hR] at LE2
    have LE3 := Lib.hid LE2
    clear hR LE2
    go_enter Tryz.func81, Tryz.ntmps81
    go_upto_region 1 with (fail)
    have hW' : (w.alloc (.cells #[.int .i64 s.P, .int .i64 s.Q, .int .i64 s.G, .slice ad s.bases.length c, .int .i64 s.blind] 26)).alloc (.cells #[.int .i64 e.gate, .int .i64 e.no, .int .i64 e.time, .int .i64 e.kind, .slice ua e.nums.length uc, .string ⟨e.text.toArray⟩, .int .i64 e.c, .int .i64 e.s] 52) = W := HW.out
    rw [hW']
    clear hW'
    go_wp2_with (go_at_call 121; with_reducible refine LE3.out.mono ?_; rintro e2 w2 ⟨rfl, rfl⟩)
    go_ret
    exact ⟨rfl, HKW.out⟩
  by_cases k6 : K = 6
  · subst k6
    have hR := HS.out
    rw [if_neg (by decide)] at hR
    rw [if_neg (by decide)] at hR
    rw [if_neg (by decide)] at hR
    rw [if_neg (by decide)] at hR
    rw [if_neg (by decide)] at hR
    rw [if_neg (by decide)] at hR
    rw [if_pos rfl] at hR
    clear k0
    clear k1
    clear k2
    clear k3
    clear k4
    clear k5
    have LE2 := MA.out
    rw [← hR] at LE2
    have LE3 := Lib.hid LE2
    clear hR LE2
    go_enter Tryz.func81, Tryz.ntmps81
    go_upto_region 1 with (fail)
    have hW' : (w.alloc (.cells #[.int .i64 s.P, .int .i64 s.Q, .int .i64 s.G, .slice ad s.bases.length c, .int .i64 s.blind] 26)).alloc (.cells #[.int .i64 e.gate, .int .i64 e.no, .int .i64 e.time, .int .i64 e.kind, .slice ua e.nums.length uc, .string ⟨e.text.toArray⟩, .int .i64 e.c, .int .i64 e.s] 52) = W := HW.out
    rw [hW']
    clear hW'
    go_wp2_with (go_at_call 123; with_reducible refine LE3.out.mono ?_; rintro e2 w2 ⟨rfl, k2⟩)
    go_ret
    exact ⟨rfl, HKW.out.trans k2⟩
  · have hR := HS.out
    rw [if_neg k0, if_neg k1, if_neg k2, if_neg k3, if_neg k4, if_neg k5, if_neg k6] at hR
    subst hR
    have d0 : (K == 0) = false := by simpa using k0
    have d1 : (K == 1) = false := by simpa using k1
    have d2 : (K == 2) = false := by simpa using k2
    have d3 : (K == 3) = false := by simpa using k3
    have d4 : (K == 4) = false := by simpa using k4
    have d5 : (K == 5) = false := by simpa using k5
    have d6 : (K == 6) = false := by simpa using k6
    clear k0 k1 k2 k3 k4 k5 k6
    go_enter Tryz.func81, Tryz.ntmps81
    go_upto_region 1 with (fail)
    have hW' : (w.alloc (.cells #[.int .i64 s.P, .int .i64 s.Q, .int .i64 s.G, .slice ad s.bases.length c, .int .i64 s.blind] 26)).alloc (.cells #[.int .i64 e.gate, .int .i64 e.no, .int .i64 e.time, .int .i64 e.kind, .slice ua e.nums.length uc, .string ⟨e.text.toArray⟩, .int .i64 e.c, .int .i64 e.s] 52) = W := HW.out
    rw [hW']
    clear hW'
    go_wp2_with fail
    go_ret
    exact ⟨rfl, HKW.out⟩
end Go.Proofs.YtcidfldeiklcjaaGreatDoor
/- The reference's encoder. -/
namespace Go.Proofs.YtcidfldeiklcjaaGreatDoor
open Go.RowKit

end Go.Proofs.YtcidfldeiklcjaaGreatDoor
/- The reference's encoder of lists of ints. -/
namespace Go.Proofs.YtcidfldeiklcjaaGreatDoor
open Go.RowKit

end Go.Proofs.YtcidfldeiklcjaaGreatDoor
namespace Go.Proofs.YtcidfldeiklcjaaGreatDoor
open Go.RowKit ShaP

end Go.Proofs.YtcidfldeiklcjaaGreatDoor
