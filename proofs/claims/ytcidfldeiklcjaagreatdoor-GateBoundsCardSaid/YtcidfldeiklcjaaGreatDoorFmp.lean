/- What form of an entry is. Plain Lean. -/
import Derived.Test.YtcidfldeiklcjaaGreatDoorCpt
import Derived.Lib.AppendZerosOnto
import Derived.Test.YtcidfldeiklcjaaGreatDoorApp
import Derived.Test.YtcidfldeiklcjaaGreatDoorRdS
import Derived.Test.YtcidfldeiklcjaaGreatDoorGe
import Derived.Test.YtcidfldeiklcjaaGreatDoorShaP
import Derived.Test.YtcidfldeiklcjaaGreatDoorEbd
/- JOINED: Cte Dt Txb Dtb Fmp -/
/- A list of entries joined with none: slices.Grow, slices.Concat. -/
namespace Go.Proofs.YtcidfldeiklcjaaGreatDoor
open Go.RowKit Tm

theorem wpList_append_mk {P : Program} {ops : Array Oper} {rest : List Oper} {o : Oper} {a : Act} {Q : Exit → Act → World → Prop} {w w' : World} (hg : o.guard = none) (s x : Operand) (t k : TypeId)
    (ho : o.op = .call { callee := .builtin .append, args := #[s, x], argTypes := #[t, k] }) (u y v : Value) (hs : a.eval s = u) (hx : a.eval x = y)
    (hrun : (Builtin.append_ #[t, k] o.type #[u, y]).run P w = .ok v w') (hK : wpList P ops Q rest (a.put o.dst v) w') : wpList P ops Q (o :: rest) a w := by
  refine wpList_plain hg fun K' hK' => ?_
  unfold Oper.wp
  simp [execOp, ho, resolve, invoke, builtin, hs, hx, hrun, Result.andThen]
  exact hK' _ _ hK

def GrwE (w : World) (e : Ending) (w' : World) : Prop := ∃ v, e = .returned v ∧ w'.ownsRow w.heap.size 52 8 v 0 [] ∧ Kept [] w w' ∧ ∃ a c, v = .slice a 0 c
set_option maxRecDepth 100000 in
set_option maxHeartbeats 1000000 in
theorem growE_any (N : Nat) (w : World) (hN : N ≤ 1000) : Calls Tryz.prog 70 #[.slice none 0 0, .int .i64 N] w (GrwE w) := by
  by_cases h1 : N = 0
  · subst h1
    go_enter Tryz.func70, Tryz.ntmps70
    go_wp2_with fail
    go_ret
    exact ⟨_, rfl, World.ownsRow_nil _ _ _ _, Kept.refl _ _, _, _, rfl⟩
  obtain ⟨i0, hi, hz0, hz1, hz2⟩ := info_parts infoEnt
  have hG := grownCap_ge w N 0 52
  have hL := grownCap_le_maxLen w N 0 52 (by unfold maxLen; omega)
  have hrun := Lib.run_append_grow_zeros w 27 3 27 52 i0 zeroEV .i64 .i64 Tryz.underlying27 Tryz.underlying3 hi hz0 none 0 0 [] (run_firstCells_none (w := w.drew) i0.size 0 0 0) N (by omega) (by rw [hz1]; omega) (by omega) (by omega)
    (by rw [hz2]; omega) (growslice_fits (by omega) (by rw [hz2]; omega))
  simp only [Nat.zero_add] at hrun
  obtain ⟨G, hGq⟩ : ∃ G, grownCap w N 0 52 = G := ⟨_, rfl⟩
  rw [hGq] at hrun hG hL
  unfold maxLen at hL
  obtain ⟨cs, hcs⟩ : ∃ cs, (#[] ++ Builtin.zeroCells zeroEV.cells N ++ Builtin.zeroCells zeroEV.cells (G - N) : Array Value) = cs := ⟨_, rfl⟩
  have hsz : cs.size = G * 8 := by
    rw [← hcs]
    simp [Builtin.zeroCells, zeroEV, Value.cells]
    omega
  have hrun' : ∀ ty, (Builtin.append_ #[27, 3] ty #[.slice none 0 0, .int .i64 N]).run Tryz.prog w = .ok (.slice (some ⟨w.heap.size, 0, none⟩) N G) (w.drew.alloc (.cells cs 52)) := by
    intro ty
    rw [← hcs]
    exact hrun
  have hown : (w.drew.alloc (.cells cs 52)).ownsRow w.heap.size 52 8 (.slice (some ⟨w.heap.size, 0, none⟩) 0 G) 0 [] :=
    ⟨rfl, Or.inr ⟨w.heap.size, G, cs, rfl, Nat.le_refl _, heap_alloc_new w.drew _, by omega, by unfold maxLen; omega, hsz, by simp⟩⟩
  have hk : Kept [] w (w.drew.alloc (.cells cs 52)) := (Kept.refl _ _).drew.alloc _
  have w1 : ¬ (N : Int) < 0 := by omega
  have w2 : 0 < (N : Int) := by omega
  have w3 : IntKind.i64.wrap (N : Int) = N := by rw [IntKind.wrap_i64]; omega
  have w4 : 0 < N := by omega
  clear hrun hcs hsz hGq h1
  go_enter Tryz.func70, Tryz.ntmps70
  have HRUN := Lib.hid hrun'
  clear hrun'
  go_wp2_with (at_builtin; refine wpList_append_mk rfl _ _ 27 3 rfl _ _ _ rfl rfl (HRUN.out _) ?_)
  go_ret
  exact ⟨_, rfl, hown, hk, _, _, rfl⟩

/-- how Concat of a list and none ends -/
def CteE (l : List Ent) (w : World) (e : Ending) (w' : World) : Prop := ∃ v, e = .returned v ∧ EntsV w' v l ∧ Kept [] w w'
set_option maxRecDepth 100000 in
set_option maxHeartbeats 2000000 in
theorem concatE_any (l : List Ent) (va vl : Value) (w : World) (hn : l.length ≤ 100) (hl : Row w 1 vl 2 [va, .slice none 0 0]) (ha : EntsV w va l) :
    Calls Tryz.prog 39 #[vl] w (CteE l w) := by
  obtain ⟨vs, h1, h2, h3, h4⟩ := ha
  obtain ⟨al, cl, rfl, _, _⟩ := hl.form
  obtain ⟨aa, ca, rfl, _, hca⟩ := h4.form
  obtain ⟨bl, ol, rfl, hcl⟩ := hl.at_ (by omega)
  have L0 : Hid (∀ w', Kept [] w w' → w'.cell? ⟨bl, ol, none⟩ = some (.slice aa l.length ca)) := Kept.cellOf (by have := hcl 0 _ rfl; simpa using this)
  have L1 : Hid (∀ w', Kept [] w w' → w'.cell? ⟨bl, ol + 1, none⟩ = some (.slice none 0 0)) := Kept.cellOf (hcl 1 _ rfl)
  have H4 := Lib.hid h4
  have HEL : Hid (∀ w', Kept [] w w' → Elems EntR 8 vs l w') := fun w' k => ⟨h1, h2, fun i a hi => by obtain ⟨c, hc, hr⟩ := h3 i a hi; exact ⟨c, hc, hr.kept k⟩⟩
  have HOC : Hid (∀ u ∈ vs.flatten, u.oneCell' = true) := fun u hu => by
    obtain ⟨c, hc, hu⟩ := List.mem_flatten.1 hu
    obtain ⟨i, hi, rfl⟩ := List.mem_iff_getElem.1 hc
    obtain ⟨c2, hc2, v, rfl, hr⟩ := h3 i _ (List.getElem?_eq_getElem (by omega))
    rw [List.getElem?_eq_getElem hi] at hc2
    injection hc2 with hc2
    rw [hc2] at hu
    obtain ⟨a, c, rfl, _, _⟩ := hr.form
    simp only [entC, List.mem_cons, List.not_mem_nil, or_false] at hu
    rcases hu with rfl | rfl | rfl | rfl | rfl | rfl | rfl | rfl <;> rfl
  have w3 : IntKind.i64.wrap (l.length : Int) = (l.length : Int) := by rw [IntKind.wrap_i64]; omega
  obtain ⟨i0, hi, hz0, hz1, hz2⟩ := info_parts infoEnt
  clear hl h1 h2 h3 h4 hcl
  go_enter Tryz.func39, Tryz.ntmps39
  go_wp2_with fail
  go_loop [3, 5, 11] (fun vs _ vi => ∃ k m : Nat, k ≤ 2 ∧ vi = .int .i64 k ∧ vs = .int .i64 m ∧ m = (if k = 0 then 0 else l.length)) (fun _ _ vi => 2 - (intOf vi).toNat)
  case atStart => exact ⟨0, 0, by omega, rfl, rfl, rfl⟩
  case round =>
    obtain ⟨k, m, hk, rfl, rfl, hm⟩ := hrel
    rcases (by omega : k = 0 ∨ k = 1 ∨ k = 2) with rfl | rfl | rfl
    · obtain rfl : m = 0 := hm
      have l0 := L0.out w (Kept.refl _ _)
      go_wp2_with fail
      go_round
      case rel => exact ⟨1, l.length, by omega, rfl, by simp, rfl⟩
      case measure => simp [intOf]
    · obtain rfl : m = l.length := hm
      have l1 := L1.out w (Kept.refl _ _)
      have hs0 : ¬ (l.length : Int) < 0 := by omega
      go_wp2_with fail
      go_round
      case rel => exact ⟨2, l.length, by omega, rfl, by simp, rfl⟩
      case measure => simp [intOf]
    · obtain rfl : m = l.length := hm
      go_wp2_with (go_at_call 70; refine (growE_any l.length _ (by omega)).mono ?_)
      rintro e w1 ⟨gv, rfl, hown, hk1, ga, gc, rfl⟩
      go_wp2_with fail
      go_loopw [6, 8, 27] (fun vd _ vi wr => ∃ k m : Nat, k ≤ 2 ∧ vi = .int .i64 k ∧ m = (if k = 0 then 0 else l.length) ∧ Hid (wr.ownsRow w.heap.size 52 8 vd m (if k = 0 then [] else vs.flatten)) ∧ Kept [] w wr) (fun _ _ vi _ => 2 - (intOf vi).toNat)
      case atStart => exact ⟨0, 0, by omega, rfl, rfl, hown, hk1⟩
      case round =>
        obtain ⟨k, m, hk, rfl, hm, HO, hkr⟩ := hrel
        have hsz := hkr.size
        rcases (by omega : k = 0 ∨ k = 1 ∨ k = 2) with rfl | rfl | rfl
        · obtain rfl : m = 0 := hm
          have l0 := L0.out wr hkr
          have hown : wr.ownsRow w.heap.size 52 8 _ 0 [] := HO.out
          go_wp2_with (at_builtin; refine wpList_plain rfl fun K' hK' => wp_append_row _ _ 27 rfl w.heap.size 52 i0 zeroEV 8 88 Tryz.underlying27 hi hz0 hz1 hz2 rfl (by decide) _ 0 [] rfl hown (.slice aa l.length ca) l.length vs.flatten rfl (H4.out.kept hkr) HOC.out (by unfold maxLen; omega) (by omega) (by omega) fun a3 c3 w3' hown3 hg3 hl3 => hK' _ _ ?_)
          have hk3 : Kept [] w w3' := hkr.fresh hg3 (fun z hz => (own_ge hown z hz).1)
          clear hg3 l0 hown
          go_wp2_with fail
          go_roundw
          case rel => exact ⟨1, 0 + l.length, by omega, rfl, by simp, (by show World.ownsRow _ _ _ _ _ _ _; simpa using hown3), hk3⟩
          case measure => simp [intOf]
        · obtain rfl : m = l.length := hm
          have l1 := L1.out wr hkr
          have hown : wr.ownsRow w.heap.size 52 8 _ l.length vs.flatten := HO.out
          have hnil : Row wr 8 (.slice none 0 0) 0 [] := ⟨rfl, by omega, none, 0, rfl, by omega, fun h => by omega⟩
          go_wp2_with (at_builtin; refine wpList_plain rfl fun K' hK' => wp_append_row _ _ 27 rfl w.heap.size 52 i0 zeroEV 8 88 Tryz.underlying27 hi hz0 hz1 hz2 rfl (by decide) _ l.length vs.flatten rfl hown (.slice none 0 0) 0 [] rfl hnil (by simp) (by unfold maxLen; omega) (by omega) (by omega) fun a3 c3 w3' hown3 hg3 hl3 => hK' _ _ ?_)
          have hk3 : Kept [] w w3' := hkr.fresh hg3 (fun z hz => (own_ge hown z hz).1)
          clear hg3 l1 hown hnil
          go_wp2_with fail
          go_roundw
          case rel => exact ⟨2, l.length + 0, by omega, rfl, by simp, (by show World.ownsRow _ _ _ _ _ _ _; simpa using hown3), hk3⟩
          case measure => simp [intOf]
        · obtain rfl : m = l.length := hm
          have hown := HO.out
          rw [if_neg (by decide)] at hown
          obtain ⟨a, c, rfl⟩ := own_form hown
          have he := HEL.out wr hkr
          have hrow : EntsV wr (.slice a l.length c) l := RowOf.of_own hown he.1 he.2.1 he.2.2 (by omega)
          have HRW := Lib.hid hrow
          clear hown hrow he
          go_wp2_with fail
          go_ret
          exact ⟨_, rfl, HRW.out, hkr⟩
end Go.Proofs.YtcidfldeiklcjaaGreatDoor
/- Tasks in the logs of gates: how they are read, and which text they have. Plain Lean. -/
namespace Go.Proofs.YtcidfldeiklcjaaGreatDoor.Dt
open Tape Wire

def pssE (p : Pss) : List UInt8 := Wire.textE p.name ++ (Wire.intE p.pub ++ (Wire.textsE p.attrs ++ Wire.numsE p.guests))
def taskE (h : List Int) (q : List UInt8) (rv : List Int) (ps : List Pss) : List UInt8 := Wire.numsE h ++ (Wire.textE q ++ (Wire.numsE rv ++ (Wire.intE ps.length ++ ps.flatMap pssE)))
def rdP (r : Rd) : Pss × Rd :=
  (⟨(Wire.text r).1, (Wire.number 59 (-9223372036854775808) (Wire.text r).2).1, (Wire.texts (Wire.number 59 (-9223372036854775808) (Wire.text r).2).2).1,
    (Wire.nums (Wire.texts (Wire.number 59 (-9223372036854775808) (Wire.text r).2).2).2).1⟩, (Wire.nums (Wire.texts (Wire.number 59 (-9223372036854775808) (Wire.text r).2).2).2).2)
def loopP : Nat → Rd → List Pss → List Pss × Rd
  | 0, r, acc => (acc, r)
  | n + 1, r, acc => if r.rest.isEmpty then (acc, r) else loopP n (rdP r).2 (acc ++ [(rdP r).1])
def r1 (s : List UInt8) : Rd := (Wire.nums ⟨s, false⟩).2
def hd (s : List UInt8) : List Int := (Wire.nums ⟨s, false⟩).1
def r2 (s : List UInt8) : Rd := (Wire.text (r1 s)).2
def qn (s : List UInt8) : List UInt8 := (Wire.text (r1 s)).1
def r3 (s : List UInt8) : Rd := (Wire.nums (r2 s)).2
def rv (s : List UInt8) : List Int := (Wire.nums (r2 s)).1
def r4 (s : List UInt8) : Rd := (Wire.number 59 0 (r3 s)).2
def ps (s : List UInt8) : List Pss := (loopP (Wire.number 59 0 (r3 s)).1.toNat (r4 s) []).1
def r5 (s : List UInt8) : Rd := (loopP (Wire.number 59 0 (r3 s)).1.toNat (r4 s) []).2
def endB (r : Rd) : Bool := !r.bad && r.rest.isEmpty
/-- whether a text is a task's -/
def okT (s : List UInt8) : Bool := (endB (r5 s) && decide ((hd s).length = 5)) && decide (taskE (hd s) (qn s) (rv s) (ps s) = s)
/-- a task's challenge, 0 where there is no task -/
def dareT (s : List UInt8) : Int := if okT s then (hd s).getD 2 0 else 0
end Go.Proofs.YtcidfldeiklcjaaGreatDoor.Dt
/- The reader's Num and Left, base.Num; lists of strings of whatever lengths: Texts. -/
namespace Go.Proofs.YtcidfldeiklcjaaGreatDoor
open Go.RowKit

theorem text_le_flat (l : List (List UInt8)) (x : List UInt8) (h : x ∈ l) : x.length ≤ (l.flatMap Wire.textE).length ∧ (Wire.textE x).length ≤ (l.flatMap Wire.textE).length := by
  induction l with
  | nil => cases h
  | cons a l ih =>
    have h1 : x.length ≤ (Wire.textE x).length := by simp only [Wire.textE, List.length_append]; omega
    rw [List.flatMap_cons, List.length_append]
    rcases List.mem_cons.1 h with rfl | h
    · omega
    · have := ih h; omega
theorem take_flatB (l : List (List UInt8)) (k : Nat) : ((l.take k).flatMap Wire.textE).length ≤ (l.flatMap Wire.textE).length := by
  conv => rhs; rw [← List.take_append_drop k l]
  rw [List.flatMap_append, List.length_append]
  omega

set_option maxHeartbeats 400000 in
theorem rd_num (b : Nat) (r : Wire.Rd) {n : Int} {r1 : Wire.Rd} (hq : Wire.number 59 0 r = (n, r1)) (w : World) (h : RdAt w b r) (hE : Env w) (hs : Fits r) :
    Calls Tryz.prog 127 #[.pointer (some ⟨b, 0, none⟩)] w fun en w' =>
      en = .returned (.int .i64 n) ∧ RdAt w' b r1 ∧ Kept [b] w w' := by
  have H := Lib.hid hq
  clear hq
  go_enter Tryz.func127, Tryz.ntmps127
  go_wp2_with (go_at_call 171; refine (rd_number' b r 59 _ H.out _ h hE hs).mono ?_)
  rintro e w1 ⟨rfl, h1, hk1⟩
  go_wp2
  go_ret
  exact ⟨rfl, h1, hk1⟩
set_option maxHeartbeats 400000 in
theorem rd_left (b : Nat) (r : Wire.Rd) (w : World) (h : RdAt w b r) :
    Calls Tryz.prog 128 #[.pointer (some ⟨b, 0, none⟩)] w fun en w' => en = .returned (.int .i64 r.rest.length) ∧ w = w' := by
  have c0 := h.c0
  go_enter Tryz.func128, Tryz.ntmps128
  go_wp2
  go_ret
  exact ⟨by simp, rfl⟩
set_option maxHeartbeats 400000 in
theorem num_any (n : Int) (w : World) (hn : Wire.I64 n) (h0 : 0 ≤ n) (hE : Env w) :
    Calls Tryz.prog 57 #[.int .i64 n] w fun e w' => e = .returned (.string ⟨(Wire.intE n).toArray⟩) ∧ Kept [] w w' := by
  have H := Lib.hid (int_any n w hn hE)
  have d0 : decide (n < 0) = false := by simp; omega
  go_enter Tryz.func57, Tryz.ntmps57
  go_wp2_with (go_at_call 93; refine H.out.mono ?_)
  rintro e w1 ⟨rfl, hk⟩
  go_wp2
  go_ret
  exact ⟨rfl, hk⟩

/-- the loop's relation -/
def EncRelB (w0 : World) (b : Nat) (l : List (List UInt8)) (i : Value) (wr : World) : Prop :=
  ∃ k : Nat, k ≤ l.length ∧ i = .int .i64 k ∧ Lib.IsBuilder TB 5 w0.heap.size b (Lib.byteCells (Lib.itoa l.length ++ [91] ++ (l.take k).flatMap Wire.textE)) wr ∧ Kept [] w0 wr

set_option maxRecDepth 100000 in
set_option maxHeartbeats 1000000 in
theorem encoded_stringB (v : Value) (l : List (List UInt8)) (w : World) (hv : Row w 1 v l.length (strs l)) (hE : Env w) (hl : l.length ≤ 100000000) (hf : (l.flatMap Wire.textE).length ≤ 100000000) :
    Calls Tryz.prog 212 #[v, .func (.func 85) #[] #[]] w fun e w' => e = .returned (.string ⟨(Wire.textsE l).toArray⟩) ∧ Kept [] w w' := by
  have hv0 := hv
  obtain ⟨_, hlen, a, c, rfl, _, _⟩ := hv0
  have hil := Wire.itoa_len l.length ⟨by omega, by omega⟩
  have hcat := bcat
  go_enter Tryz.func212, Tryz.ntmps212
  go_wp2_with (first
    | (go_at_call 139; refine (itoa_any l.length _ ⟨by omega, by omega⟩ (by exact hE.alloc _)).mono ?_; rintro e w1 ⟨rfl, hk⟩))
  have hk0 : Kept [] w w1 := ((Kept.refl [] w).alloc _).trans hk
  have hsz := hk.size
  rw [World.size_alloc] at hsz
  have hb0 : Lib.IsBuilder TB 5 w.heap.size w.heap.size [] w1 :=
    Or.inl ⟨Nat.le_refl _, .slice none 0 0, (hk.block _ (by simp) (by simp)).trans (heap_alloc_new w _), World.ownsRow_nil _ _ _ _, by simp [Value.ownBlock]⟩
  have hws := writeString_any w.heap.size w.heap.size [] ⟨(Lib.itoa l.length ++ [91]).toArray⟩ w1 hb0 (by simp [ByteArray.size]; omega) (by omega)
  have HW := Lib.hid hws
  clear hws
  go_wp2_with (go_at_call 179; refine HW.out.mono ?_)
  rintro e w2 ⟨rfl, hb2, hbl2⟩
  have hk2 : Kept [] w w2 := hk0.then_below hbl2
  go_wp2_with fail
  go_loopw [7, 15] (fun _ i wr => EncRelB w w.heap.size l i wr) (fun _ i _ => l.length - (intOf i).toNat)
  case atStart => exact ⟨0, Nat.zero_le _, rfl, Or.inr (by simpa [Lib.strCells_toArray] using hb2), hk2⟩
  case round =>
    obtain ⟨k, hkl, rfl, hb, hkr⟩ := hrel
    have hE' := hE.kept0 hkr
    have hrow := hv.kept hkr
    by_cases hlt : k < l.length
    · obtain ⟨bb, off, rfl, hc⟩ := hrow.at_ (by omega)
      have hx := hc k _ (strs_get hlt)
      have hI := text_le_flat l l[k] (List.getElem_mem hlt)
      have hfl := take_flatB l k
      have HF : Hid (l.take (k + 1) = l.take k ++ [l[k]]) := List.take_succ_eq_append_getElem hlt
      have hks := hkr.size
      have HT := Lib.hid (text_any l[k] wr (by omega) hE')
      clear hc
      go_wp2_with (first
        | (go_at_call 85; refine HT.out.mono ?_))
      rintro e w3 ⟨rfl, hk3⟩
      have hb3 : Lib.IsBuilder TB 5 w.heap.size w.heap.size (Lib.byteCells (Lib.itoa l.length ++ [91] ++ (l.take k).flatMap Wire.textE)) w3 := by
        rcases hb with hb | hb
        · exact Or.inl (builder_kept hb hk3)
        · exact Or.inr (builder_kept hb hk3)
      have hws := writeString_any w.heap.size w.heap.size _ ⟨(Wire.textE l[k]).toArray⟩ w3 hb3
        (by rw [Lib.byteCells_length]; simp only [ByteArray.size, List.size_toArray, List.length_append, List.length_singleton]; omega) (by have := hk3.size; omega)
      have HW2 := Lib.hid hws
      clear hws
      go_wp2_with (go_at_call 179; refine HW2.out.mono ?_)
      rintro e w4 ⟨rfl, hb4, hbl4⟩
      have hk4 : Kept [] w w4 := (hkr.trans hk3).then_below hbl4
      go_wp2
      go_roundw
      case rel =>
        refine ⟨k + 1, by omega, by go_num, ?_, hk4⟩
        refine Or.inr ?_
        have e1 : Lib.itoa l.length ++ [91] ++ (l.take (k + 1)).flatMap Wire.textE = (Lib.itoa l.length ++ [91] ++ (l.take k).flatMap Wire.textE) ++ Wire.textE l[k] := by
          rw [HF.out, List.flatMap_append]; simp only [List.flatMap_cons, List.flatMap_nil, List.append_nil, List.append_assoc]
        rw [e1, Lib.byteCells_append, ← Lib.strCells_toArray (Wire.textE l[k])]
        exact hb4
      case measure => simp [intOf]; omega
    · obtain rfl : k = l.length := by omega
      rw [List.take_length] at hb
      have hfl := hf
      have hks := hkr.size
      obtain ⟨F, hF⟩ : ∃ F, l.flatMap Wire.textE = F := ⟨_, rfl⟩
      rw [hF] at hb hfl
      have HF := Lib.hid hF
      clear hF
      have hss := Tryz.Builder_String_any w.heap.size w.heap.size _ wr hb hks
      have HS := Lib.hid hss
      clear hss
      go_wp2_with (go_at_call 180; refine HS.out.mono ?_)
      rintro e w3 ⟨rfl, hbl3⟩
      go_wp2
      go_ret
      refine ⟨?_, hkr.then_below hbl3⟩
      have e1 : Wire.textsE l = Lib.itoa l.length ++ 91 :: (F ++ [93]) := by
        unfold Wire.textsE Wire.listE
        rw [HF.out]
        simp
      rw [e1]
      simp

set_option maxHeartbeats 400000 in
theorem texts_anyB (v : Value) (l : List (List UInt8)) (w : World) (hv : Row w 1 v l.length (strs l)) (hE : Env w) (hl : l.length ≤ 100000000) (hf : (l.flatMap Wire.textE).length ≤ 100000000) :
    Calls Tryz.prog 175 #[v] w fun e w' => e = .returned (.string ⟨(Wire.textsE l).toArray⟩) ∧ Kept [] w w' := by
  have H := Lib.hid (encoded_stringB v l w hv hE hl hf)
  go_enter Tryz.func175, Tryz.ntmps175
  go_wp2_with (go_at_call 212; refine H.out.mono ?_)
  rintro e w1 ⟨rfl, hk⟩
  go_wp2
  go_ret
  exact ⟨rfl, hk⟩
end Go.Proofs.YtcidfldeiklcjaaGreatDoor
/- What is read of a task is no longer than the text; what EncodeTask asks. Plain Lean. -/
namespace Go.Proofs.YtcidfldeiklcjaaGreatDoor.Dt
open Tape Wire

theorem flatU_len {α : Type} {enc : α → List UInt8} (h : ∀ x, 1 ≤ (enc x).length) : ∀ l : List α, l.length ≤ (l.flatMap enc).length
  | [] => by simp
  | x :: l => by have := h x; have := flatU_len h l; rw [List.flatMap_cons, List.length_append, List.length_cons]; omega
structure PssOk (p : Pss) : Prop where
  pub : I64 p.pub
  gs : AllI p.guests
theorem rdP_of {r a b c d : Rd} {x : List UInt8} {y : Int} {z : List (List UInt8)} {u : List Int} (h1 : Wire.text r = (x, a)) (h2 : Wire.number 59 (-9223372036854775808) a = (y, b)) (h3 : Wire.texts b = (z, c)) (h4 : Wire.nums c = (u, d)) : rdP r = (⟨x, y, z, u⟩, d) := by
  unfold rdP; simp only [h1, h2, h3, h4]
theorem rdP_inv (r : Rd) (h : (rdP r).2.bad = false) : r.bad = false ∧ r.rest = pssE (rdP r).1 ++ (rdP r).2.rest ∧ PssOk (rdP r).1 := by
  obtain ⟨x, a, h1⟩ : ∃ x a, Wire.text r = (x, a) := ⟨_, _, rfl⟩
  obtain ⟨y, b, h2⟩ : ∃ x b, Wire.number 59 (-9223372036854775808) a = (x, b) := ⟨_, _, rfl⟩
  obtain ⟨z, c, h3⟩ : ∃ x c, Wire.texts b = (x, c) := ⟨_, _, rfl⟩
  obtain ⟨u, d, h4⟩ : ∃ x d, Wire.nums c = (x, d) := ⟨_, _, rfl⟩
  rw [rdP_of h1 h2 h3 h4] at h ⊢
  have g4 := Wire.nums_inv c
  rw [h4] at g4
  obtain ⟨b4, r4, _, i4⟩ := g4 h
  have g3 := Wire.texts_inv b
  rw [h3] at g3
  obtain ⟨b3, r3, _, _⟩ := g3 b4
  have g2 := Wire.number_inv 59 (-9223372036854775808) a
  rw [h2] at g2
  obtain ⟨b2, r2, _⟩ := g2 b3
  have i2 := Wire.number_bounds 59 (-9223372036854775808) a
  rw [h2] at i2
  have g1 := Wire.text_inv r
  rw [h1] at g1
  obtain ⟨b1, r1, _⟩ := g1 b2
  refine ⟨b1, ?_, ⟨i2, i4⟩⟩
  rw [r1, r2, r3, r4]
  simp [pssE, Wire.intE]
theorem loopP_inv : ∀ (n : Nat) (r : Rd) (acc : List Pss), (loopP n r acc).2.bad = false → r.bad = false ∧ ∃ l, (loopP n r acc).1 = acc ++ l ∧ r.rest = l.flatMap pssE ++ (loopP n r acc).2.rest ∧ ∀ p ∈ l, PssOk p
  | 0, r, acc, h => ⟨h, [], by simp [loopP], by simp [loopP], by simp⟩
  | n + 1, r, acc, h => by
    unfold loopP at h ⊢
    by_cases he : r.rest.isEmpty
    · rw [if_pos he] at h ⊢
      exact ⟨h, [], by simp, by simp, by simp⟩
    · rw [if_neg he] at h ⊢
      obtain ⟨h1, l, h2, h3, h4⟩ := loopP_inv n _ _ h
      obtain ⟨g1, g2, g3⟩ := rdP_inv r h1
      refine ⟨g1, (rdP r).1 :: l, by rw [h2]; simp, ?_, ?_⟩
      · rw [g2, h3]; simp
      · intro p hp
        rcases List.mem_cons.1 hp with rfl | hp
        · exact g3
        · exact h4 p hp
theorem pssE_len (p : Pss) : p.name.length ≤ (pssE p).length ∧ p.attrs.length ≤ (pssE p).length ∧ (p.attrs.flatMap Wire.textE).length ≤ (pssE p).length ∧ p.guests.length ≤ (pssE p).length := by
  have h1 : p.attrs.length ≤ (p.attrs.flatMap Wire.textE).length := flatU_len (enc := Wire.textE) (fun x => by simp only [Wire.textE, List.length_append, List.length_singleton]; omega) _
  have h2 : p.guests.length ≤ (p.guests.flatMap Wire.intE).length := flatU_len (enc := Wire.intE) (fun x => by simp only [Wire.intE, List.length_append, List.length_singleton]; omega) _
  unfold pssE
  simp only [Wire.textsE, Wire.numsE, Wire.listE, Wire.textE, List.length_append, List.length_singleton] at h1 h2 ⊢
  omega

/-- what EncodeTask asks of a task -/
structure TkB (h : List Int) (q : List UInt8) (rv : List Int) (ps : List Pss) : Prop where
  h5 : AllI h
  q : q.length ≤ 100000000
  rl : rv.length ≤ 100000001
  ri : AllI rv
  rt : (Wire.numsE rv).length ≤ 100000000
  pl : ps.length ≤ 100000000
  pt : (ps.flatMap pssE).length ≤ 100000000
  pk : ∀ p ∈ ps, PssOk p
structure Parts (s : List UInt8) (h : List Int) (q : List UInt8) (rv : List Int) (n : Int) (ps : List Pss) (a b c d e : Rd) : Prop where
  h1 : Wire.nums ⟨s, false⟩ = (h, a)
  h2 : Wire.text a = (q, b)
  h3 : Wire.nums b = (rv, c)
  h4 : Wire.number 59 0 c = (n, d)
  h5 : loopP n.toNat d [] = (ps, e)
def okP (s : List UInt8) (h : List Int) (q : List UInt8) (rv : List Int) (ps : List Pss) (e : Rd) : Bool := (endB e && decide (h.length = 5)) && decide (taskE h q rv ps = s)
theorem okT_of {s : List UInt8} {h : List Int} {q : List UInt8} {rv' : List Int} {n : Int} {ps' : List Pss} {a b c d e : Rd} (p : Parts s h q rv' n ps' a b c d e) :
    okT s = okP s h q rv' ps' e ∧ dareT s = if okP s h q rv' ps' e then h.getD 2 0 else 0 := by
  have e1 : hd s = h := by unfold hd; rw [p.h1]
  have e2 : r1 s = a := by unfold r1; rw [p.h1]
  have e3 : qn s = q := by unfold qn; rw [e2, p.h2]
  have e4 : r2 s = b := by unfold r2; rw [e2, p.h2]
  have e5 : rv s = rv' := by unfold rv; rw [e4, p.h3]
  have e6 : r3 s = c := by unfold r3; rw [e4, p.h3]
  have e7 : r4 s = d := by unfold r4; rw [e6, p.h4]
  have e8 : ps s = ps' := by unfold ps; rw [e6, e7, p.h4, p.h5]
  have e9 : r5 s = e := by unfold r5; rw [e6, e7, p.h4, p.h5]
  have e10 : okT s = okP s h q rv' ps' e := by unfold okT okP; rw [e1, e3, e5, e8, e9]
  exact ⟨e10, by unfold dareT; rw [e10, e1]⟩
theorem tkB_of {s : List UInt8} {h : List Int} {q : List UInt8} {rv : List Int} {n : Int} {ps : List Pss} {a b c d e : Rd} (p : Parts s h q rv n ps a b c d e) (hs : s.length ≤ 100000000) (he : e.bad = false) : TkB h q rv ps := by
  have g5 := loopP_inv n.toNat d []
  rw [p.h5] at g5
  obtain ⟨b4, l, e4, t4, k4⟩ := g5 he
  rw [List.nil_append] at e4
  simp only at e4 t4
  subst e4
  have g4 := Wire.number_inv 59 0 c
  rw [p.h4] at g4
  obtain ⟨b3, t3, i3, _⟩ := g4 b4
  have g3 := Wire.nums_inv b
  rw [p.h3] at g3
  obtain ⟨b2, t2, l2, i2⟩ := g3 b3
  have g2 := Wire.text_inv a
  rw [p.h2] at g2
  obtain ⟨b1, t1, l1⟩ := g2 b2
  have g1 := Wire.nums_inv ⟨s, false⟩
  rw [p.h1] at g1
  obtain ⟨_, t0, l0, i0⟩ := g1 b1
  simp only at t0 t1 t2 t3 i0 i2
  have n0 := congrArg List.length t0
  have n1 := congrArg List.length t1
  have n2 := congrArg List.length t2
  have n3 := congrArg List.length t3
  have n4 := congrArg List.length t4
  simp only [List.length_append, List.length_cons] at n0 n1 n2 n3 n4
  have hq : q.length ≤ (Wire.textE q).length := by simp only [Wire.textE, List.length_append]; omega
  have hr : rv.length ≤ (Wire.numsE rv).length := by
    have h2 : rv.length ≤ (rv.flatMap Wire.intE).length := flatU_len (enc := Wire.intE) (fun x => by simp only [Wire.intE, List.length_append, List.length_singleton]; omega) _
    simp only [Wire.numsE, Wire.listE, List.length_append]; omega
  have hp : ps.length ≤ (ps.flatMap pssE).length := flatU_len (enc := pssE) (fun x => by simp only [pssE, Wire.textE, List.length_append, List.length_singleton]; omega) _
  exact ⟨i0, by omega, by omega, i2, by omega, by omega, by omega, k4⟩

theorem number_less {e : UInt8} {least : Int} {r : Rd} (h : r.rest ≠ []) : (Wire.number e least r).2.rest.length + 1 ≤ r.rest.length := by
  have hl : 1 ≤ r.rest.length := by
    rcases hr : r.rest with _ | ⟨x, t⟩
    · exact absurd hr h
    · simp
  unfold Wire.number
  split
  · simp [Wire.failed]; omega
  · split
    · split
      · simp; omega
      · simp [Wire.failed]; omega
    · simp [Wire.failed]; omega
theorem text_less {r : Rd} (h : r.rest ≠ []) : (Wire.text r).2.rest.length + 1 ≤ r.rest.length := by
  have h1 := number_less (e := 58) (least := 0) h
  have h2 := Wire.close_rest_le [44] ⟨(Wire.number 58 0 r).2.rest.drop (Wire.number 58 0 r).1.toNat, (Wire.number 58 0 r).2.bad⟩
  simp only [List.length_drop] at h2
  unfold Wire.text
  split
  · simp [Wire.failed]; omega
  · split <;> (simp only; omega)
theorem nums_le (r : Rd) : (Wire.nums r).2.rest.length ≤ r.rest.length := by
  have h1 := Wire.number_rest_le 91 0 r
  have h2 := fits_loop rdInt (fun r => Wire.number_rest_le 59 _ r) (Wire.number 91 0 r).1.toNat (Wire.number 91 0 r).2 []
  have h3 := Wire.close_rest_le [93] (Wire.loop rdInt (Wire.number 91 0 r).1.toNat (Wire.number 91 0 r).2 []).2
  rw [nums_eq]
  unfold Wire.items
  split <;> (simp only; omega)
theorem texts_le (r : Rd) : (Wire.texts r).2.rest.length ≤ r.rest.length := by
  have h1 := Wire.number_rest_le 91 0 r
  have h2 := fits_loopS (Wire.number 91 0 r).1.toNat (Wire.number 91 0 r).2 []
  have h3 := Wire.close_rest_le [93] (Wire.loop Wire.text (Wire.number 91 0 r).1.toNat (Wire.number 91 0 r).2 []).2
  unfold Wire.texts Wire.items
  split <;> (simp only; omega)
theorem rdP_less {r : Rd} (h : r.rest ≠ []) : (rdP r).2.rest.length + 1 ≤ r.rest.length := by
  obtain ⟨x, a, h1⟩ : ∃ x a, Wire.text r = (x, a) := ⟨_, _, rfl⟩
  obtain ⟨y, b, h2⟩ : ∃ x b, Wire.number 59 (-9223372036854775808) a = (x, b) := ⟨_, _, rfl⟩
  obtain ⟨z, c, h3⟩ : ∃ x c, Wire.texts b = (x, c) := ⟨_, _, rfl⟩
  obtain ⟨u, d, h4⟩ : ∃ x d, Wire.nums c = (x, d) := ⟨_, _, rfl⟩
  rw [rdP_of h1 h2 h3 h4]
  have g1 := text_less h
  rw [h1] at g1
  have g2 := Wire.number_rest_le 59 (-9223372036854775808) a
  rw [h2] at g2
  have g3 := texts_le b
  rw [h3] at g3
  have g4 := nums_le c
  rw [h4] at g4
  simp only at g1 g2 g3 g4 ⊢
  omega
end Go.Proofs.YtcidfldeiklcjaaGreatDoor.Dt
namespace Go.Proofs.YtcidfldeiklcjaaGreatDoor
open Tm Tape

def inB (n lo hi : Int) : Bool := decide (lo ≤ n) && decide (n ≤ hi)
theorem inB_iff (n lo hi : Int) : inB n lo hi = true ↔ lo ≤ n ∧ n ≤ hi := by unfold inB; simp
def nth (l : List Int) (i : Nat) : Int := l.getD i 0
def twoB (l : List Int) (a b c d : Int) : Bool := decide (l.length = 2) && (inB (nth l 0) a b && inB (nth l 1) c d)
/-- all are fine and different, and there are so many -/
def listedB (l : List Int) (most : Int) (p : Int → Bool) : Bool := (l.all p && decide l.Nodup) && inB l.length 1 most
theorem listedB_no_p {l : List Int} {most : Int} {p : Int → Bool} {k : Nat} (h : k < l.length) (hp : p l[k] = false) : listedB l most p = false := by
  unfold listedB; rw [all_take_false h hp]; rfl
theorem nodup_take {l : List Int} {k : Nat} (h : k < l.length) (hd : (l.take (k + 1)).Nodup) : ¬ l[k] ∈ l.take k := by
  rw [List.take_succ_eq_append_getElem h, List.nodup_append] at hd
  intro hm
  exact hd.2.2 _ hm _ (List.mem_singleton.2 rfl) rfl
theorem nodup_grow {l : List Int} {k : Nat} (h : k < l.length) (hd : (l.take k).Nodup) (hn : ¬ l[k] ∈ l.take k) : (l.take (k + 1)).Nodup := by
  rw [List.take_succ_eq_append_getElem h, List.nodup_append]
  refine ⟨hd, List.nodup_cons.2 ⟨by simp, List.nodup_nil⟩, fun a ha b hb => ?_⟩
  rw [List.mem_singleton] at hb
  subst hb
  intro e
  subst e
  exact hn ha
theorem listedB_no_d {l : List Int} {most : Int} {p : Int → Bool} {k : Nat} (h : k < l.length) (hm : l[k] ∈ l.take k) : listedB l most p = false := by
  have : ¬ l.Nodup := fun hd => nodup_take h (hd.sublist (List.take_sublist _ _)) hm
  unfold listedB; rw [decide_eq_false this]; simp
theorem listedB_end {l : List Int} {most : Int} {p : Int → Bool} (ha : ∀ j (hj : j < l.length), p l[j] = true) (hd : l.Nodup) : listedB l most p = inB l.length 1 most := by
  unfold listedB; rw [all_of ha, decide_eq_true hd]; rfl

def learntB (s : Stp) (l : List Int) : Bool := listedB l 16 fun n => inB n 1 (s.Q - 1)
def markedB (s : Stp) (l : List Int) : Bool := listedB l 32 (othB s.Q.toNat)
def shapedB (s : Stp) (e : Ent) : Bool :=
  if e.kind = 0 then learntB s e.nums
  else if e.kind = 1 then twoB e.nums 0 2147483648 0 2147483648 && decide (nth e.nums 0 ≤ nth e.nums 1)
  else if e.kind = 2 then twoB e.nums 0 23 0 4095 && !decide (nth e.nums 0 = e.gate)
  else if e.kind = 3 then twoB e.nums 0 15 1 (s.Q - 1)
  else if e.kind = 4 then decide (e.nums.length = 1) && inB (nth e.nums 0) 0 (e.no - 1)
  else if e.kind = 5 then twoB e.nums 0 (e.no - 1) 1 100
  else if e.kind = 6 then markedB s e.nums
  else false
def textB (e : Ent) : Bool :=
  if e.kind = 3 then Dt.okT e.text && decide (Dt.dareT e.text = nth e.nums 1)
  else if e.kind = 4 then (readR e.text).2
  else decide (e.text = [])
def formedB (s : Stp) (e : Ent) : Bool := setupB s && (inB e.gate 0 23 && (inB e.no 0 4095 && (inB e.time 0 2147483648 && (shapedB s e && textB e))))

theorem twoB_iff {l : List Int} {a b c d : Int} (h : twoB l a b c d = true) : ∃ x y, l = [x, y] ∧ (a ≤ x ∧ x ≤ b) ∧ (c ≤ y ∧ y ≤ d) := by
  unfold twoB at h
  simp only [Bool.and_eq_true, decide_eq_true_eq, inB_iff] at h
  obtain ⟨h1, h2, h3⟩ := h
  match l, h1 with
  | [x, y], _ => exact ⟨x, y, rfl, h2, h3⟩
theorem formedB_wf {s : Stp} {e : Ent} (h : formedB s e = true) : WF e ∧ setupB s = true ∧ (0 ≤ e.gate ∧ e.gate ≤ 23) ∧ (0 ≤ e.no ∧ e.no ≤ 4095) := by
  unfold formedB at h
  simp only [Bool.and_eq_true, inB_iff] at h
  obtain ⟨h1, h2, h3, h4, h5, _⟩ := h
  refine ⟨⟨h4, fun hk => ?_, fun hk => ?_⟩, h1, h2, h3⟩
  · unfold shapedB at h5
    rw [if_neg (by omega), if_pos hk, Bool.and_eq_true] at h5
    obtain ⟨x, y, e1, e2, e3⟩ := twoB_iff h5.1
    have h6 := h5.2
    rw [e1] at h6
    simp [nth] at h6
    exact ⟨x, y, e1, e2.1, h6, e3.2⟩
  · unfold shapedB at h5
    rw [if_neg (by omega), if_neg (by omega), if_pos hk, Bool.and_eq_true] at h5
    obtain ⟨x, y, e1, e2, e3⟩ := twoB_iff h5.1
    exact ⟨x, y, e1⟩
end Go.Proofs.YtcidfldeiklcjaaGreatDoor
