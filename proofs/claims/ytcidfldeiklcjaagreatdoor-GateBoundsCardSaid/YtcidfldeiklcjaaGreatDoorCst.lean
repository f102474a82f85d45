/- The graph of bounds of a list of entries. -/
import Derived.Test.YtcidfldeiklcjaaGreatDoorKnu
import Derived.Deep.DeepCutAuto
import Derived.Deep.CutBlock
namespace Go.Proofs.YtcidfldeiklcjaaGreatDoor
open Go.RowKit Bf Tm

theorem infoSl : (Tryz.prog.info? 24).map (fun i => (i.zero, i.size, i.bytes)) = some (some (.slice none 0 0), 1, 24) := by kernel_rfl
/-- a slice of rows, the first k of which are laid -/
def gC (n : Nat) (rb : Nat → Nat) (k : Nat) : List Value := (List.range n).map fun a => if a < k then .slice (some ⟨rb a, 0, none⟩) n n else .slice none 0 0
theorem gC_len (n : Nat) (rb : Nat → Nat) (k : Nat) : (gC n rb k).length = n := by simp [gC]
theorem gC_get {n a k : Nat} {rb : Nat → Nat} (h : a < n) : (gC n rb k)[a]? = some (if a < k then .slice (some ⟨rb a, 0, none⟩) n n else .slice none 0 0) := by simp [gC, h]
theorem gC_zero (n : Nat) (rb : Nat → Nat) : List.replicate n (Value.slice none 0 0) = gC n rb 0 := by
  apply List.ext_getElem?
  intro i
  rw [List.getElem?_replicate]
  by_cases h : i < n
  · rw [if_pos h, gC_get h]; simp
  · rw [if_neg h, List.getElem?_eq_none (by rw [gC_len]; omega)]
theorem gC_set {n k b : Nat} {rb : Nat → Nat} (hk : k < n) : (gC n rb k).toArray.setIfInBounds k (.slice (some ⟨b, 0, none⟩) n n) = (gC n (fun a => if a = k then b else rb a) (k + 1)).toArray := by
  rw [List.setIfInBounds_toArray]
  congr 1
  apply List.ext_getElem?
  intro i
  rw [List.getElem?_set]
  by_cases h : k = i
  · subst h
    rw [if_pos rfl, if_pos (by rw [gC_len]; exact hk), gC_get hk]
    simp
  · rw [if_neg h]
    by_cases hi : i < n
    · rw [gC_get hi, gC_get hi]
      have h1 : ¬ i = k := fun e => h e.symm
      by_cases h2 : i < k
      · rw [if_pos h2, if_pos (by omega), if_neg h1]
      · rw [if_neg h2, if_neg (by omega)]
    · rw [List.getElem?_eq_none (by rw [gC_len]; omega), List.getElem?_eq_none (by rw [gC_len]; omega)]
/-- a graph whose first k rows are laid -/
structure PreW (w : World) (B gb n : Nat) (rb : Nat → Nat) (k : Nat) : Prop where
  g : Blk w gb 24 (gC n rb k).toArray
  row : ∀ a, a < k → GutAt w (rb a) n fun _ => far
  inj : ∀ a b, a < k → b < k → rb a = rb b → a = b
  ne : ∀ a, a < k → rb a ≠ gb
  ge : ∀ a, a < k → B ≤ rb a
theorem PreW.done {w : World} {B gb n : Nat} {rb : Nat → Nat} (h : PreW w B gb n rb n) : MatW w B gb n rb (gOf []) :=
  ⟨h.row, fun a ha => by rw [h.g.cell a, List.getElem?_toArray, gC_get ha, if_pos ha], h.inj, h.ne, h.ge⟩
theorem PreW.next {w w' : World} {B gb n : Nat} {rb : Nat → Nat} {k b : Nat} (h : PreW w B gb n rb k) (hk : k < n) (hB : B ≤ w.heap.size) (hb : w.heap.size ≤ b) (k1 : Kept [] w w') (ho : GutAt w' b n fun _ => far) :
    PreW (w'.setCell ⟨gb, k, none⟩ (.slice (some ⟨b, 0, none⟩) n n)) B gb n (fun a => if a = k then b else rb a) (k + 1) := by
  have hgl := h.g.lt
  have hl : ∀ a, a < k → rb a < w.heap.size := fun a ha => (h.row a ha).lt
  refine ⟨?_, fun a ha => ?_, fun a c ha hc e => ?_, fun a ha => ?_, fun a ha => ?_⟩
  · have := (h.g.kept k1 (by simp)).set_ k (.slice (some ⟨b, 0, none⟩) n n)
    rw [gC_set hk] at this
    exact this
  · by_cases e : a = k
    · subst e
      simp only [if_true]
      exact Blk.far ho (p := ⟨gb, a, none⟩) (by simp; omega) _
    · simp only [if_neg e]
      exact Blk.far ((h.row a (by omega)).kept k1 (by simp)) (p := ⟨gb, k, none⟩) (h.ne a (by omega)) _
  · by_cases e1 : a = k <;> by_cases e2 : c = k
    · omega
    · simp only [if_pos e1, if_neg e2] at e; have := hl c (by omega); omega
    · simp only [if_neg e1, if_pos e2] at e; have := hl a (by omega); omega
    · simp only [if_neg e1, if_neg e2] at e; exact h.inj a c (by omega) (by omega) e
  · by_cases e : a = k
    · simp only [if_pos e]; omega
    · simp only [if_neg e]; exact h.ne a (by omega)
  · by_cases e : a = k
    · simp only [if_pos e]; omega
    · simp only [if_neg e]; exact h.ge a (by omega)

theorem made_one (x : Value) (n : Nat) : (madeCells #[x] n).toList = List.replicate n x := by
  apply List.ext_getElem
  · simp [madeCells]
  · intro i h1 h2
    simp [madeCells, Nat.mod_one]
/-- a row of one-cell elements that make laid -/
theorem own_made {w : World} {B : Nat} {e : TypeId} {g n : Nat} {x : Value} (h : w.ownsRow B e 1 (.slice (some ⟨g, 0, none⟩) n n) n (List.replicate n x)) : Blk w g e (List.replicate n x).toArray := by
  obtain ⟨hl, hr⟩ := h
  rcases hr with ⟨hv, _⟩ | ⟨g', cap, cur, hv, _, hg, _, _, hcs, htk⟩
  · cases hv
  injection hv with hv1 hv2 hv3
  injection hv1 with hv1
  injection hv1 with hv1
  subst hv1; subst hv3
  have e : cur = (List.replicate n x).toArray := by
    apply Array.ext'
    rw [← htk]
    exact (List.take_of_length_le (by simp [hcs])).symm
  rw [e] at hg
  exact hg

/-- a round of constrained under way -/
structure CsP (w : World) (L : Nat) (rb : Nat → Nat) (es : List Tm.Edge) (eb : Nat) (y : Ent) (u : Value) (wr : World) : Prop where
  mat : MatW wr w.heap.size w.heap.size (L + 1) rb (gOf es)
  kept : Kept [] w wr
  box : Cells8 wr eb 0 y u
  ne : ∀ a, a < L + 1 → rb a ≠ eb
section
variable {w wr w' : World} {L : Nat} {rb : Nat → Nat} {es : List Tm.Edge} {eb : Nat} {y : Ent} {u : Value}
theorem CsP.drewN (h : CsP w L rb es eb y u wr) (k : Nat) : CsP w L rb es eb y u (wr.drewN k) :=
  ⟨h.mat.kept ((Kept.refl _ _).drewN k), h.kept.drewN k, h.box.kept ((Kept.refl _ _).drewN k), h.ne⟩
theorem CsP.edge {e : Tm.Edge} {a : Nat} (h : CsP w L rb es eb y u wr) (ha : a < L + 1) (hm : MatW w' w.heap.size w.heap.size (L + 1) rb (gOf (es ++ [e]))) (k : Kept [rb a] wr w') : CsP w L rb (es ++ [e]) eb y u w' :=
  ⟨hm, h.kept.fresh k (by intro x hx; rw [List.mem_singleton] at hx; subst hx; exact h.mat.ge a ha), h.box.keptS k (by rw [List.mem_singleton]; exact fun e => h.ne a ha e.symm), h.ne⟩
/-- an edge is added -/
theorem CsP.call (h : CsP w L rb es eb y u wr) (a b : Nat) (x : Int) (ha : a < L + 1) (hb : b < L + 1) :
    Calls Tryz.prog 97 #[.slice (some ⟨w.heap.size, 0, none⟩) (L + 1) (L + 1), .int .i64 a, .int .i64 b, .int .i64 x] wr fun e w' => e = .returned (.tuple #[]) ∧ CsP w L rb (es ++ [(a, b, x)]) eb y u w' :=
  (edge_any w.heap.size (L + 1) (L + 1) rb w.heap.size es a b x wr h.mat ha hb).mono fun _ _ ⟨h1, h2, h3⟩ => ⟨h1, h.edge ha h2 h3⟩
end

theorem hearE_yes {l : List Ent} {y x : Ent} {i j : Nat} (hj : l[j]? = some x) (h : hears y x = true) : hearE l y i (j + 1) = hearE l y i j ++ [(i, j, 0)] := by
  unfold hearE; rw [List.range_succ, List.filter_append, List.map_append]; simp [hj, h]
theorem hearE_no {l : List Ent} {y x : Ent} {i j : Nat} (hj : l[j]? = some x) (h : hears y x = false) : hearE l y i (j + 1) = hearE l y i j := by
  unfold hearE; rw [List.range_succ, List.filter_append, List.map_append]; simp [hj, h]
theorem hears_of {y x : Ent} {a b : Int} (h : y.nums = [a, b]) : hears y x = (decide (x.gate = a) && decide (x.no = b)) := by unfold hears; rw [h]; rfl

/-- how constrained ends -/
def CstE (l : List Ent) (dr : Int) (w : World) (e : Ending) (w' : World) : Prop :=
  ∃ (gb : Nat) (rb : Nat → Nat), e = .returned (.slice (some ⟨gb, 0, none⟩) (l.length + 1) (l.length + 1)) ∧ w.heap.size ≤ gb ∧ MatW w' w.heap.size gb (l.length + 1) rb (gOf (edges l dr l.length)) ∧ Kept [] w w'

set_option maxRecDepth 100000 in
set_option maxHeartbeats 4000000 in
theorem constrained_any (v : Value) (l : List Ent) (dr : Int) (w : World) (h : EntsV w v l) (hw : ∀ x ∈ l, WF x) (h0 : 0 ≤ dr) (h1 : dr ≤ 1000) (hl : l.length ≤ 15) :
    Calls Tryz.prog 59 #[v, .int .i64 dr] w (CstE l dr w) := by
  obtain ⟨va, vc, rfl, _, hvc⟩ := RowOf.form h
  have HV := Lib.hid h
  have HW := Lib.hid hw
  obtain ⟨i0, hi, hz0, hz1, hz2⟩ := info_parts infoSl
  obtain ⟨L, hL⟩ : ∃ L, l.length = L := ⟨_, rfl⟩
  rw [hL] at hvc ⊢
  have HL := Lib.hid hL
  rw [hL] at hl
  clear h hw hL
  go_enter Tryz.func59, Tryz.ntmps59
  go_wp2_with (at_make; refine wpList_make_full _ rfl _ _ 56 rfl w.heap.size 24 i0 (.slice none 0 0) 1 Tryz.underlying56 hi hz0 hz1 _ _ _ _ (L + 1) rfl rfl ?b0 ?b0' ?b1 ?b2 (Nat.le_refl _) ?_)
  case b0 => simp
  case b0' => simp
  case b1 => rw [hz2]; omega
  case b2 => unfold maxLen; omega
  intro w1 hown hgr
  rw [show (madeCells #[Value.slice none 0 0] (L + 1)).toList = _ from made_one _ _] at hown
  have hp : PreW w1 w.heap.size w.heap.size (L + 1) (fun _ => 0) 0 := ⟨by have := own_made hown; rw [gC_zero _ fun _ => 0] at this; exact this, fun a ha => by omega, fun a b ha => by omega, fun a ha => by omega, fun a ha => by omega⟩
  have hk1 : Kept [] w w1 := Kept.of_grown hgr (by simp)
  clear hown hgr
  go_wp2_with fail
  go_loopw [20] (fun i wr => ∃ (k : Nat) (rb : Nat → Nat), k ≤ L + 1 ∧ i = .int .i64 k ∧ PreW wr w.heap.size w.heap.size (L + 1) rb k ∧ Kept [] w wr) (fun i _ => L + 1 - (intOf i).toNat)
  case atStart => exact ⟨0, _, Nat.zero_le _, rfl, hp, hk1⟩
  case round =>
    obtain ⟨k, rb, hk, rfl, hp, hkr⟩ := hrel
    have HP := Lib.hid hp
    clear hp
    by_cases hlt : k < L + 1
    · have hlt' : (k : Int) < (L : Int) + 1 := by omega
      have RP : Hid (Calls Tryz.prog 33 #[.slice (some ⟨wr.heap.size, 0, none⟩) 1 1, .int .i64 ((L : Int) + 1)] (wr.alloc (.cells #[.int .i64 1152921504606846976] 3)) (RepE 1152921504606846976 (L + 1) (wr.alloc (.cells #[.int .i64 1152921504606846976] 3)))) := by
        have := rep_any 1152921504606846976 (L + 1) _ _ _ (Row.lit wr [1152921504606846976] (by simp)) (by omega) (by omega)
        rw [show ((L + 1 : Nat) : Int) = (L : Int) + 1 by omega] at this
        exact this
      have hgl := HP.out.g.lt
      go_wp2_with (go_at_call 33; refine RP.out.mono ?_)
      rintro e w2 ⟨b, rfl, hb, hb2, hk2⟩
      rw [outC_all] at hb2
      have hk02 : Kept [] wr w2 := ((Kept.refl [] wr).alloc _).trans hk2
      have hbs : wr.heap.size ≤ b := by simp at hb; omega
      have cg : w2.cell? ⟨w.heap.size, k, none⟩ = some (.slice none 0 0) := Kept.cellOf (by rw [HP.out.g.cell k, List.getElem?_toArray, gC_get hlt]; simp) _ hk02
      have fg : w2.frozen? ⟨w.heap.size, k, none⟩ = false := (HP.out.g.kept hk02 (by simp)).frozen k
      have hnx := HP.out.next hlt hkr.size hbs hk02 hb2
      have HNX := Lib.hid hnx
      have hkx : Kept [] w (w2.setCell ⟨w.heap.size, k, none⟩ (.slice (some ⟨b, 0, none⟩) (L + 1) (L + 1))) := (hkr.trans hk02).setCell (Or.inr (Nat.le_refl _)) _
      clear hnx hb2 hb hk2
      go_wp2_with fail
      go_roundw
      case rel => exact ⟨k + 1, _, by omega, by go_num, HNX.out, hkx⟩
      case measure => simp [intOf]; omega
    · have hlt' : ¬ (k : Int) < (L : Int) + 1 := by omega
      have hpd : PreW wr w.heap.size w.heap.size (L + 1) rb (L + 1) := by rw [show L + 1 = k by omega]; rw [show L + 1 = k by omega] at HP; exact HP.out
      have HM := Lib.hid hpd.done
      clear HP hpd
      go_wp2_with fail
      go_loopw [33] (fun i wr2 => ∃ m : Nat, m ≤ L ∧ i = .int .i64 m ∧ MatW wr2 w.heap.size w.heap.size (L + 1) rb (gOf (edges l dr m)) ∧ Kept [] w wr2) (fun i _ => L - (intOf i).toNat)
      case atStart => exact ⟨0, Nat.zero_le _, rfl, HM.out, hkr⟩
      case round =>
        obtain ⟨m, hm, rfl, hmat, hkm⟩ := hrel
        have HMT := Lib.hid hmat
        clear hmat
        by_cases hml : m < L
        · have hLl : m < l.length := by have := HL.out; omega
          obtain ⟨lb, lo, lc, hvq, _, hcell⟩ := HV.out.at_ (by omega)
          obtain ⟨u, hrow, hc0⟩ := hcell m hLl
          have hc := hc0.kept hkm
          obtain ⟨y, hy⟩ : ∃ y, l[m] = y := ⟨_, rfl⟩
          rw [hy] at hrow hc
          obtain ⟨ua, uc, rfl, _, _⟩ := hrow.form
          have x0 := hc.c0
          have x1 := hc.c1
          have x2 := hc.c2
          have x3 := hc.c3
          have x4 := hc.c4
          have x5 := hc.c5
          have x6 := hc.c6
          have x7 := hc.c7
          injection hvq with hv1 hv2 hv3
          subst hv1; subst hv3
          have HY := Lib.hid hy
          have HR := Lib.hid hrow
          have HC := Lib.hid hcell
          clear hc hc0 hcell hy hrow hv2
          go_upto_region 11 with (fail)
          have hP : CsP w L rb (edges l dr m) wr.heap.size y (.slice ua y.nums.length uc) (wr.alloc (.cells (entC y (.slice ua y.nums.length uc)).toArray 52)) :=
            ⟨HMT.out.kept ((Kept.refl _ _).alloc _), hkm.alloc _, Cells8.of_blk (Blk.new _ _ _), fun a ha e => by have := (HMT.out.row a ha).lt; omega⟩
          obtain ⟨W1, hW1⟩ : ∃ W1, wr.alloc (.cells (entC y (.slice ua y.nums.length uc)).toArray 52) = W1 := ⟨_, rfl⟩
          rw [hW1] at hP
          have HP1 := Lib.hid hP
          have HW1 := Lib.hid hW1
          have hW' : wr.alloc (.cells #[.int .i64 y.gate, .int .i64 y.no, .int .i64 y.time, .int .i64 y.kind, .slice ua y.nums.length uc, .string ⟨y.text.toArray⟩, .int .i64 y.c, .int .i64 y.s] 52) = W1 := HW1.out
          rw [hW']
          clear hP hW1 hW' x0 x1 x2 x3 x4 x5 x6 x7
          obtain ⟨eb, heb⟩ : ∃ eb, wr.heap.size = eb := ⟨_, rfl⟩
          rw [heb] at HP1 ⊢
          have hebw : w.heap.size ≤ eb := by have := hkm.size; omega
          have HKM := Lib.hid hkm
          clear heb hkm HMT
          have C1 := Lib.hid (HP1.out.call L m 2147483648 (by omega) (by omega))
          go_wp2_with (go_at_call 97; refine C1.out.mono ?_)
          rintro e w2 ⟨rfl, hP2⟩
          clear C1 HP1
          have C2 := Lib.hid (hP2.call m L 0 (by omega) (by omega))
          clear hP2
          go_wp2_with (go_at_call 97; refine C2.out.mono ?_)
          rintro e w3 ⟨rfl, hP3⟩
          have HP3 := Lib.hid hP3
          clear C2 hP3
          go_upto_region 13 with (fail)
          obtain ⟨es, hes⟩ : ∃ es, edges l dr m ++ [(L, m, 2147483648)] ++ [(m, L, 0)] = es := ⟨_, rfl⟩
          rw [hes] at HP3
          have HES := Lib.hid hes
          clear hes
          obtain ⟨nb, hnb⟩ : ∃ nb : Bool, (if 0 < m then match l[m - 1]? with | some x => near x y | none => false else false) = nb := ⟨_, rfl⟩
          have HNB := Lib.hid hnb
          go_cut [80] (fun v wx => v = .bool nb ∧ CsP w L rb es eb y (.slice ua y.nums.length uc) wx)
          case first =>
            have b0 := HP3.out.box.c0
            have b1 := HP3.out.box.c1
            have b2 := HP3.out.box.c2
            by_cases hm0 : 0 < m
            · obtain ⟨q, hq⟩ : ∃ q, m = q + 1 := ⟨m - 1, by omega⟩
              have hqi : (m : Int) - 1 = (q : Int) := by omega
              have hql : q < l.length := by omega
              obtain ⟨x, hx⟩ : ∃ x, l[q] = x := ⟨_, rfl⟩
              have hnx : near x y = nb := by rw [if_pos hm0, show m - 1 = q by omega, List.getElem?_eq_getElem hql, hx] at hnb; exact hnb
              obtain ⟨_, _, hcx⟩ := HC.out q hql
              rw [hx] at hcx
              have hcx' := hcx.kept HP3.out.kept
              have p0 := hcx'.c0
              have p1 := hcx'.c1
              have p2 := hcx'.c2
              unfold near at hnx
              have hg0 : decide ((m : Int) > 0) = true := by simp; omega
              clear hcx hcx' hx hnb
              by_cases e0 : x.gate = y.gate
              · have e0' : (x.gate == y.gate) = true := by simpa using e0
                by_cases e1 : x.no = y.no
                · have e1' : (x.no != y.no) = false := by simpa using e1
                  have hn0 : nb = false := by rw [← hnx, e1]; simp
                  subst hn0
                  go_quiet (fail)
                  go_wp2_with fail
                  go_meet
                  case rel => exact ⟨rfl, HP3.out.drewN _⟩
                · have e1' : (x.no != y.no) = true := by simpa using e1
                  obtain ⟨tb, htb⟩ : ∃ tb, decide (x.time ≤ y.time) = tb := ⟨_, rfl⟩
                  have hn0 : nb = tb := by rw [← hnx, ← htb]; simp [e0, e1]
                  subst hn0
                  go_quiet (fail)
                  go_wp2_with fail
                  go_meet
                  case rel => exact ⟨rfl, HP3.out.drewN _⟩
              · have e0' : (x.gate == y.gate) = false := by simpa using e0
                have hn0 : nb = false := by rw [← hnx]; simp [e0]
                subst hn0
                go_quiet (fail)
                go_wp2_with fail
                go_meet
                case rel => exact ⟨rfl, HP3.out.drewN _⟩
            · have hg0 : decide ((m : Int) > 0) = false := by simp; omega
              have hn0 : nb = false := by rw [if_neg hm0] at hnb; exact hnb.symm
              subst hn0
              clear hnb
              go_quiet (fail)
              go_wp2_with fail
              go_meet
              case rel => exact ⟨rfl, HP3.out.drewN _⟩
          case rest =>
            obtain ⟨rfl, hP4⟩ := hcut
            have HP4 := Lib.hid hP4
            clear hP4 HP3 hnb
            go_upto_if 80 with (fail)
            go_cut [] (fun wx => CsP w L rb (es ++ nearE l dr m) eb y (.slice ua y.nums.length uc) wx)
            case first =>
              cases nb
              · have he : nearE l dr m = [] := by
                  have hnb := HNB.out
                  have hLl' := hLl
                  unfold nearE
                  rw [List.getElem?_eq_getElem hLl, List.getElem?_eq_getElem (show m - 1 < l.length by omega), HY.out]
                  simp only
                  rw [if_neg]
                  rintro ⟨h1, h2⟩
                  rw [if_pos h1, List.getElem?_eq_getElem (show m - 1 < l.length by omega)] at hnb
                  simp only at hnb
                  rw [h2] at hnb
                  cases hnb
                have HE := Lib.hid he
                clear he
                go_wp2_with fail
                go_meet
                case rel => rw [HE.out, List.append_nil]; exact HP4.out
              · obtain ⟨q, hq⟩ : ∃ q, m = q + 1 := by
                  refine ⟨m - 1, ?_⟩
                  have hnb := HNB.out
                  by_cases h : 0 < m
                  · omega
                  · rw [if_neg h] at hnb; cases hnb
                have hqi : (m : Int) - 1 = (q : Int) := by omega
                have hql : q < l.length := by omega
                obtain ⟨x, hx⟩ : ∃ x, l[q] = x := ⟨_, rfl⟩
                have hn : near x y = true := by
                  have hnb := HNB.out
                  rw [if_pos (show 0 < m by omega), show m - 1 = q by omega, List.getElem?_eq_getElem hql, hx] at hnb
                  exact hnb
                have he : nearE l dr m = [(q, m, upW (y.time - x.time) dr), (m, q, downW (y.time - x.time) dr)] := by
                  unfold nearE
                  rw [List.getElem?_eq_getElem hLl, show m - 1 = q by omega, List.getElem?_eq_getElem hql, HY.out, hx]
                  simp only
                  rw [if_pos ⟨by omega, hn⟩]
                have hxw := (HW.out x (hx ▸ List.getElem_mem hql)).time
                have hyw := (HW.out y (HY.out ▸ List.getElem_mem hLl)).time
                unfold near at hn
                simp only [Bool.and_eq_true, decide_eq_true_eq] at hn
                obtain ⟨_, _, hcx⟩ := HC.out q hql
                rw [hx] at hcx
                have p2 := (hcx.kept HP4.out.kept).c2
                have b2 := HP4.out.box.c2
                obtain ⟨d, hd⟩ : ∃ d, y.time - x.time = d := ⟨_, rfl⟩
                have d0 : 0 ≤ d := by omega
                have d1 : d ≤ 2147483648 := by unfold Tm.mt at hxw hyw; omega
                have hdw : IntKind.i64.wrap (y.time - x.time) = d := by rw [hd, IntKind.wrap_i64]; omega
                rw [hd] at he
                have HE := Lib.hid he
                clear he hx hcx hn hxw hyw
                go_upto_region 14 with (fail)
                go_quiet (fail)
                have hP5 := HP4.out.drewN nq
                clear hdw p2 b2
                have u0 : 0 ≤ d * (1000 + dr) := Int.mul_nonneg d0 (by omega)
                have u1 : d * (1000 + dr) ≤ 4294967296000 := Int.le_trans (Int.mul_le_mul_of_nonneg_left (show 1000 + dr ≤ 2000 by omega) d0) (by omega)
                have v0 : 0 ≤ d * (1000 - dr) := Int.mul_nonneg d0 (by omega)
                have v1 : d * (1000 - dr) ≤ 4294967296000 := Int.le_trans (Int.mul_le_mul_of_nonneg_left (show 1000 - dr ≤ 1000 by omega) d0) (by omega)
                have C1 := Lib.hid (hP5.call q m (upW d dr) (by omega) (by omega))
                clear hP5
                obtain ⟨p, hp⟩ : ∃ p, d * (1000 + dr) = p := ⟨_, rfl⟩
                obtain ⟨r, hr⟩ : ∃ r, d * (1000 - dr) = r := ⟨_, rfl⟩
                obtain ⟨eu, heu⟩ : ∃ eu, upW d dr = eu := ⟨_, rfl⟩
                obtain ⟨ed, hed⟩ : ∃ ed, downW d dr = -ed := ⟨-downW d dr, by omega⟩
                have t1 : (p + 999).tdiv 1000 = eu := by rw [Int.tdiv_eq_ediv_of_nonneg (by omega), ← hp]; exact heu
                have t2 : r.tdiv 1000 = ed := by
                  rw [Int.tdiv_eq_ediv_of_nonneg (by omega), ← hr]
                  unfold downW at hed
                  omega
                rw [hp] at u0 u1
                rw [hr] at v0 v1
                have b1 : 0 ≤ eu ∧ eu ≤ 8589934592 := by rw [Int.tdiv_eq_ediv_of_nonneg (by omega)] at t1; omega
                have b2 : 0 ≤ ed ∧ ed ≤ 8589934592 := by rw [Int.tdiv_eq_ediv_of_nonneg v0] at t2; omega
                have hpw : IntKind.i64.wrap p = p := by rw [IntKind.wrap_i64]; omega
                have hrw : IntKind.i64.wrap r = r := by rw [IntKind.wrap_i64]; omega
                have heuw : wrap64 eu = eu := by unfold wrap64; omega
                have hedw : wrap64 ed = ed := by unfold wrap64; omega
                have hednw : wrap64 (-ed) = -ed := by unfold wrap64; omega
                rw [heu] at C1
                rw [heu, hed] at HE
                have HQ := Lib.hid hq
                clear hq hd HNB b1 b2 heu hed
                go_wp2_with (go_at_call 97; refine C1.out.mono ?_)
                rintro e w5 ⟨rfl, hP5⟩
                clear C1
                have C2 := Lib.hid (hP5.call m q (-ed) (by omega) (by omega))
                clear hP5
                go_wp2_with (go_at_call 97; refine C2.out.mono ?_)
                rintro e w6 ⟨rfl, hP6⟩
                clear C2
                have HP6 := Lib.hid hP6
                clear hP6
                go_wp2_with fail
                go_meet
                case rel => rw [HE.out]; have := HP6.out; rw [List.append_assoc] at this; exact this
            case rest =>
              have HP5 := Lib.hid hcut
              clear hcut HP4
              obtain ⟨es2, hes2⟩ : ∃ es2, es ++ nearE l dr m = es2 := ⟨_, rfl⟩
              rw [hes2] at HP5
              have HFIN : Hid (es2 ++ kindE l m = edges l dr (m + 1)) := by
                rw [← hes2, ← HES.out, edges_succ, edgesAt, baseE, HL.out]
                simp only [List.append_assoc, List.cons_append, List.nil_append]
                rfl
              clear hes2
              have b3 := HP5.out.box.c3
              have b4 := HP5.out.box.c4
              by_cases k1 : y.kind = 1
              · obtain ⟨a, b, hab, ha0, hle, hbm⟩ := (HW.out y (HY.out ▸ List.getElem_mem hLl)).sync k1
                have k1' : (y.kind == 1) = true := by simpa using k1
                have hk : kindE l m = [(L, m, b), (m, L, -a)] := by
                  unfold kindE
                  rw [List.getElem?_eq_getElem hLl, HY.out]
                  simp only
                  rw [if_pos k1, HL.out, hab]
                  rfl
                have HK := Lib.hid hk
                have hrow := HR.out
                have hlen : y.nums.length = 2 := by rw [hab]; rfl
                unfold Tm.mt at hbm
                obtain ⟨ub, uo, hua, hcu⟩ := Row.at_ hrow (by omega)
                have n0 := Kept.cellOf (hcu 0 (.int .i64 a) (by rw [hab]; rfl)) _ HP5.out.kept
                have n1 := Kept.cellOf (hcu 1 (.int .i64 b) (by rw [hab]; rfl)) _ HP5.out.kept
                have hnw : IntKind.i64.wrap (-a) = -a := by rw [IntKind.wrap_i64]; omega
                have C1 := Lib.hid (HP5.out.call L m b (by omega) (by omega))
                have l0 : (0 : Nat) < y.nums.length := by omega
                have l1 : (1 : Nat) < y.nums.length := by omega
                have HL2 := Lib.hid hlen
                rw [hua] at b4
                have c0 : w.cell? ⟨ub, uo, none⟩ = some (.int .i64 a) := hcu 0 (.int .i64 a) (by rw [hab]; rfl)
                have HC0 := Lib.hid c0
                clear c0
                clear hk hcu hrow hlen hab hle hbm
                go_wp2_with (go_at_call 97; refine C1.out.mono ?_)
                rintro e w5 ⟨rfl, hP6⟩
                clear C1
                have C2 := Lib.hid (hP6.call m L (-a) (by omega) (by omega))
                have n0' := Kept.cellOf HC0.out _ hP6.kept
                have b4' := hP6.box.c4
                rw [hua] at b4'
                clear n0 n1 hP6 b3 b4
                go_wp2_with (go_at_call 97; refine C2.out.mono ?_)
                rintro e w6 ⟨rfl, hP7⟩
                have HP7 := Lib.hid hP7
                clear C2 hP7 n0' b4'
                have hfin := HFIN.out
                rw [HK.out] at hfin
                have HF2 := Lib.hid hfin
                clear hfin
                go_wp2_with fail
                refine ⟨⟨m + 1, by omega, by go_num, ?_, HP7.out.kept⟩, by simp [intOf]; omega⟩
                have := HP7.out.mat
                rw [List.append_assoc, List.cons_append, List.nil_append, HF2.out] at this
                exact this
              · have k1' : (y.kind == 1) = false := by simpa using k1
                by_cases k2 : y.kind = 2
                · have k2' : (y.kind == 2) = true := by simpa using k2
                  obtain ⟨a, b, hab⟩ := (HW.out y (HY.out ▸ List.getElem_mem hLl)).hear k2
                  have hk : kindE l m = hearE l y m L := by
                    unfold kindE
                    rw [List.getElem?_eq_getElem hLl, HY.out]
                    simp only
                    rw [if_neg k1, if_pos k2, HL.out]
                  have HK := Lib.hid hk
                  have hrow := HR.out
                  have hlen : y.nums.length = 2 := by rw [hab]; rfl
                  obtain ⟨ub, uo, hua, hcu⟩ := Row.at_ hrow (by omega)
                  have HC0 : Hid (w.cell? ⟨ub, uo, none⟩ = some (.int .i64 a)) := Lib.hid (hcu 0 (.int .i64 a) (by rw [hab]; rfl))
                  have HC1 := Lib.hid (hcu 1 (.int .i64 b) (by rw [hab]; rfl))
                  have HAB := Lib.hid hab
                  have l0 : (0 : Nat) < y.nums.length := by omega
                  have l1 : (1 : Nat) < y.nums.length := by omega
                  have HL2 := Lib.hid hlen
                  clear hk hcu hrow hlen hab b4
                  go_wp2_with fail
                  clear b3 k1 k2 k1' k2'
                  go_loopw [137] (fun i w7 => ∃ j : Nat, j ≤ L ∧ i = .int .i64 j ∧ CsP w L rb (es2 ++ hearE l y m j) eb y (.slice ua y.nums.length uc) w7) (fun i _ => L - (intOf i).toNat)
                  case atStart => exact ⟨0, Nat.zero_le _, rfl, by rw [show hearE l y m 0 = [] from rfl, List.append_nil]; exact HP5.out⟩
                  case round =>
                    obtain ⟨j, hj, rfl, hP6⟩ := hrel
                    have HP6 := Lib.hid hP6
                    clear hP6
                    by_cases hjl : j < L
                    · have hjl' : (j : Int) < (L : Int) := by omega
                      have hjn : j < l.length := by have := HL.out; omega
                      obtain ⟨x, hx⟩ : ∃ x, l[j] = x := ⟨_, rfl⟩
                      obtain ⟨v, hvr, hcx⟩ := HC.out j hjn
                      rw [hx] at hcx hvr
                      obtain ⟨va, vd, rfl, _, _⟩ := hvr.form
                      clear hvr
                      have HX := Lib.hid hx
                      have hcx' := hcx.kept HP6.out.kept
                      have x0 := hcx'.c0
                      have x1 := hcx'.c1
                      have x2 := hcx'.c2
                      have x3 := hcx'.c3
                      have x4 := hcx'.c4
                      have x5 := hcx'.c5
                      have x6 := hcx'.c6
                      have x7 := hcx'.c7
                      clear hx hcx hcx'
                      go_upto_region 25 with (fail)
                      have hP7 : CsP w L rb (es2 ++ hearE l y m j) eb y (.slice ua y.nums.length uc) (wr.alloc (.cells (entC x (.slice va x.nums.length vd)).toArray 52)) :=
                        ⟨HP6.out.mat.kept ((Kept.refl _ _).alloc _), HP6.out.kept.alloc _, HP6.out.box.kept ((Kept.refl _ _).alloc _), HP6.out.ne⟩
                      have hB7 : Cells8 (wr.alloc (.cells (entC x (.slice va x.nums.length vd)).toArray 52)) wr.heap.size 0 x (.slice va x.nums.length vd) := Cells8.of_blk (Blk.new _ _ _)
                      obtain ⟨W7, hW7⟩ : ∃ W7, wr.alloc (.cells (entC x (.slice va x.nums.length vd)).toArray 52) = W7 := ⟨_, rfl⟩
                      rw [hW7] at hP7 hB7
                      have HP7 := Lib.hid hP7
                      have hW' : wr.alloc (.cells #[.int .i64 x.gate, .int .i64 x.no, .int .i64 x.time, .int .i64 x.kind, .slice va x.nums.length vd, .string ⟨x.text.toArray⟩, .int .i64 x.c, .int .i64 x.s] 52) = W7 := hW7
                      rw [hW']
                      have z0 := hB7.c0
                      have z1 := hB7.c1
                      have b4 := hP7.box.c4
                      rw [hua] at b4
                      have n0 := Kept.cellOf HC0.out _ hP7.kept
                      have n1 := Kept.cellOf HC1.out _ hP7.kept
                      have hxj : l[j]? = some x := by rw [List.getElem?_eq_getElem hjn, HX.out]
                      have HXJ := Lib.hid hxj
                      have HHE := Lib.hid (hears_of (x := x) HAB.out)
                      clear hP7 hW7 hW' hB7 x0 x1 x2 x3 x4 x5 x6 x7 hxj
                      by_cases e0 : x.gate = a
                      · have e0' : (x.gate == a) = true := by simpa using e0
                        by_cases e1 : x.no = b
                        · have e1' : (x.no == b) = true := by simpa using e1
                          go_quiet (fail)
                          have C1 := Lib.hid ((HP7.out.drewN nq).call m j 0 (by omega) (by omega))
                          clear z0 z1 b4 n0 n1
                          go_wp2_with (go_at_call 97; refine C1.out.mono ?_)
                          rintro e w8 ⟨rfl, hP8⟩
                          have HP8 := Lib.hid hP8
                          clear C1 hP8
                          go_wp2_with fail
                          refine ⟨⟨j + 1, by omega, by go_num, ?_⟩, by simp [intOf]; omega⟩
                          rw [hearE_yes HXJ.out (by rw [HHE.out, e0, e1]; simp), ← List.append_assoc]
                          exact HP8.out
                        · have e1' : (x.no == b) = false := by simpa using e1
                          go_quiet (fail)
                          go_wp2_with fail
                          refine ⟨⟨j + 1, by omega, by go_num, ?_⟩, by simp [intOf]; omega⟩
                          rw [hearE_no HXJ.out (by rw [HHE.out, e0]; simp [e1])]
                          exact HP7.out.drewN _
                      · have e0' : (x.gate == a) = false := by simpa using e0
                        go_quiet (fail)
                        go_wp2_with fail
                        refine ⟨⟨j + 1, by omega, by go_num, ?_⟩, by simp [intOf]; omega⟩
                        rw [hearE_no HXJ.out (by rw [HHE.out]; simp [e0])]
                        exact HP7.out.drewN _
                    · have hjl' : ¬ (j : Int) < (L : Int) := by omega
                      have hjj : Hid (j = L) := Lib.hid (by omega)
                      go_wp2_with fail
                      refine ⟨⟨m + 1, by omega, by go_num, ?_, HP6.out.kept⟩, by simp [intOf]; omega⟩
                      have := HP6.out.mat
                      rw [hjj.out, ← HK.out, HFIN.out] at this
                      exact this
                · have k2' : (y.kind == 2) = false := by simpa using k2
                  have hk : kindE l m = [] := by
                    unfold kindE
                    rw [List.getElem?_eq_getElem hLl, HY.out]
                    simp only
                    rw [if_neg k1, if_neg k2]
                  have HK := Lib.hid hk
                  clear hk
                  go_wp2_with fail
                  refine ⟨⟨m + 1, by omega, by go_num, ?_, HP5.out.kept⟩, by simp [intOf]; omega⟩
                  have := HP5.out.mat
                  have hf := HFIN.out
                  rw [HK.out, List.append_nil] at hf
                  rw [hf] at this
                  exact this
        · have hmm : m = L := by omega
          have HX := Lib.hid hmm
          have hml' : ¬ (m : Int) < (L : Int) := by omega
          clear hmm
          go_wp2_with fail
          go_ret
          have hz := HMT.out
          rw [HX.out] at hz
          refine ⟨w.heap.size, rb, ?_, Nat.le_refl _, ?_, hkm⟩
          · rw [HL.out]; rfl
          · rw [HL.out]; exact hz
end Go.Proofs.YtcidfldeiklcjaaGreatDoor
