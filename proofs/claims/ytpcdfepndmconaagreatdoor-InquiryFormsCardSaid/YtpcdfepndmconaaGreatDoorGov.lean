/- Lists of statutes: governing, Governs. -/
import Derived.Test.YtpcdfepndmconaaGreatDoorSeats
import Derived.Test.YtpcdfepndmconaaGreatDoorMin
namespace Go.Proofs.YtpcdfepndmconaaGreatDoor
open Go.RowKit

/-- a list of statutes -/
structure StatsV (w : World) (v : Value) (l : List Statute) : Prop where
  row : ∃ cells, Row w 3 v l.length cells ∧ ∀ (i : Nat) (x : Statute), l[i]? = some x →
    ∃ rs ws, cells[i * 3]? = some rs ∧ cells[i * 3 + 1]? = some (.int .i64 x.quorum) ∧ cells[i * 3 + 2]? = some ws ∧ StatV w (.agg #[rs, .int .i64 x.quorum, ws]) x

theorem StatsV.kept {w w' : World} {v : Value} {l : List Statute} (h : StatsV w v l) (k : Kept [] w w') : StatsV w' v l := by
  obtain ⟨cells, h1, h2⟩ := h.row
  refine ⟨cells, h1.kept k, fun i x hx => ?_⟩
  obtain ⟨rs, ws, a, b, c, d⟩ := h2 i x hx
  exact ⟨rs, ws, a, b, c, d.kept k⟩

/-- the statutes' strings are short -/
def Short (l : List Statute) : Prop := ∀ x ∈ l, ∀ r ∈ x.reasons, r.length ≤ 100000000

set_option maxRecDepth 100000 in
set_option maxHeartbeats 400000 in
theorem gov1_any (v : Value) (x : Statute) (w : World) (h : StatV w v x) (hs : ∀ r ∈ x.reasons, r.length ≤ 100000000) :
    Calls Tryz.prog 150 #[v] w fun e w' => e = .returned (.bool (!validS x)) ∧ Kept [] w w' := by
  obtain ⟨rs, ws, rfl, hr, hw⟩ := h.form
  obtain ⟨wa, wc, rfl, _⟩ := hw.form
  obtain ⟨ra, rc, rfl, _⟩ := hr.form
  have HC := Lib.hid (valid_any _ x _ (h.kept ((Kept.refl [] w).alloc (.cells #[.slice ra x.reasons.length rc, .int .i64 x.quorum, .slice wa x.weights.length wc] 46))) hs)
  clear h hs hr hw
  go_enter Tryz.func150, Tryz.ntmps150
  go_wp2_with (go_at_call 9; refine HC.out.mono ?_)
  rintro e w1 ⟨rfl, hk⟩
  go_wp2
  go_ret
  exact ⟨rfl, ((Kept.refl _ _).alloc _).trans hk⟩

theorem StatV.slices {w : World} {rs ws : Value} {q : Int} {x : Statute} (h : StatV w (.agg #[rs, .int .i64 q, ws]) x) :
    ∃ ra rc wa wc, rs = .slice ra x.reasons.length rc ∧ ws = .slice wa x.weights.length wc := by
  obtain ⟨rs', ws', hv, hr, hw⟩ := h.form
  obtain ⟨wa, wc, hw', _⟩ := hw.form
  obtain ⟨ra, rc, hr', _⟩ := hr.form
  injection hv with hv
  have h0 : rs = rs' := by have := congrArg (fun a : Array Value => a[0]?) hv; simpa using this
  have h2 : ws = ws' := by have := congrArg (fun a : Array Value => a[2]?) hv; simpa using this
  exact ⟨ra, rc, wa, wc, h0.trans hr', h2.trans hw'⟩

theorem StatsV.at_ {w : World} {a : Option Addr} {n c : Nat} {l : List Statute} (h : StatsV w (.slice a n c) l) {i : Nat} {x : Statute} (hx : l[i]? = some x) :
    ∃ b off ra rc wa wc, a = some ⟨b, off, none⟩ ∧ w.cell? ⟨b, off + i * 3, none⟩ = some (.slice ra x.reasons.length rc) ∧ w.cell? ⟨b, off + i * 3 + 1, none⟩ = some (.int .i64 x.quorum) ∧
      w.cell? ⟨b, off + i * 3 + 2, none⟩ = some (.slice wa x.weights.length wc) ∧ StatV w (.agg #[.slice ra x.reasons.length rc, .int .i64 x.quorum, .slice wa x.weights.length wc]) x := by
  obtain ⟨cells, h1, h2⟩ := h.row
  have hlt : i < l.length := (List.getElem?_eq_some_iff.1 hx).1
  obtain ⟨b, off, ha, hc⟩ := h1.at_ (by omega)
  obtain ⟨rs, ws, a1, a2, a3, a4⟩ := h2 i x hx
  obtain ⟨ra, rc, wa, wc, rfl, rfl⟩ := a4.slices
  exact ⟨b, off, ra, rc, wa, wc, ha, hc _ _ a1, by rw [Nat.add_assoc]; exact hc _ _ a2, by rw [Nat.add_assoc]; exact hc _ _ a3, a4⟩

theorem StatV.rows {w : World} {rs ws : Value} {q : Int} {x : Statute} (h : StatV w (.agg #[rs, .int .i64 q, ws]) x) :
    Row w 1 rs x.reasons.length (strs x.reasons) ∧ Row w 1 ws x.weights.length (ints x.weights) := by
  obtain ⟨rs', ws', hv, hr, hw⟩ := h.form
  injection hv with hv
  have h0 : rs = rs' := by have := congrArg (fun a : Array Value => a[0]?) hv; simpa using this
  have h2 : ws = ws' := by have := congrArg (fun a : Array Value => a[2]?) hv; simpa using this
  exact ⟨h0 ▸ hr, h2 ▸ hw⟩
theorem StatV.weights {w : World} {rs ws : Value} {q : Int} {x : Statute} (h : StatV w (.agg #[rs, .int .i64 q, ws]) x) : Row w 1 ws x.weights.length (ints x.weights) := h.rows.2

/-- how IndexFunc ends where a statute is not valid -/
def Found (w : World) (e : Ending) (w' : World) : Prop := ∃ i : Nat, e = .returned (.int .i64 i) ∧ Kept [] w w'

/-- IndexFunc's answer: not below 0 exactly where a statute is not valid -/
def IdxPost (l : List Statute) (w : World) (e : Ending) (w' : World) : Prop :=
  (l.all validS = true ∧ e = .returned (.int .i64 (-1)) ∧ Kept [] w w') ∨ (l.all validS = false ∧ Found w e w')

set_option maxRecDepth 100000 in
set_option maxHeartbeats 800000 in
theorem index_stat (v : Value) (l : List Statute) (w : World) (h : StatsV w v l) (hs : Short l) :
    Calls Tryz.prog 193 #[v, .func (.func 150) #[] #[]] w (IdxPost l w) := by
  obtain ⟨cells, hrow, hcc⟩ := h.row
  obtain ⟨a, c, rfl, hl, _⟩ := hrow.form
  have H := Lib.hid h
  have HS := Lib.hid hs
  clear h hs hrow hcc
  go_enter Tryz.func193, Tryz.ntmps193
  go_wp2_with fail
  go_loopw [5, 8] (fun _ i wr => ∃ k : Nat, k ≤ l.length ∧ i = .int .i64 k ∧ (l.take k).all validS = true ∧ Kept [] w wr) (fun _ i _ => l.length - (intOf i).toNat)
  case atStart => exact ⟨0, Nat.zero_le _, rfl, by simp, Kept.refl _ _⟩
  case round =>
    obtain ⟨k, hk, rfl, hall, hkr⟩ := hrel
    have HA := Lib.hid hall
    clear hall
    by_cases hlt : k < l.length
    · obtain ⟨x, hx⟩ : ∃ x, l[k]? = some x := ⟨_, List.getElem?_eq_getElem hlt⟩
      obtain ⟨b, off, ra, rc, wa, wc, rfl, x0, x1, x2, hst⟩ := (H.out.kept hkr).at_ hx
      have hxm := List.mem_of_getElem? hx
      have HC := Lib.hid (gov1_any _ _ wr hst (HS.out _ hxm))
      have HT : Hid (l.take (k + 1) = l.take k ++ [x]) := by
        have h1 := List.take_succ_eq_append_getElem hlt
        rw [(List.getElem?_eq_some_iff.1 hx).2] at h1
        exact h1
      clear hx hst
      cases hv : validS x
      · rw [hv] at HC
        have hno : l.all validS = false := by
          rw [Bool.eq_false_iff]; intro h; rw [List.all_eq_true] at h; have := h x hxm; rw [hv] at this; cases this
        have HN := Lib.hid hno
        clear hno hv hxm
        go_wp2_with (go_at_call 150; refine HC.out.mono ?_; rintro e w2 ⟨rfl, hk2⟩)
        go_ret
        exact Or.inr ⟨HN.out, k, rfl, hkr.trans hk2⟩
      · rw [hv] at HC
        have hyes : (l.take (k + 1)).all validS = true := by rw [HT.out, List.all_append, HA.out]; simp [hv]
        have HY := Lib.hid hyes
        clear hyes hv hxm
        go_wp2_with (go_at_call 150; refine HC.out.mono ?_; rintro e w2 ⟨rfl, hk2⟩)
        go_roundw
        case rel => exact ⟨k + 1, by omega, by go_num, HY.out, hkr.trans hk2⟩
        case measure => simp [intOf]; omega
    · obtain rfl : k = l.length := by omega
      rw [List.take_length] at HA
      go_wp2_with fail
      go_ret
      exact Or.inl ⟨HA.out, rfl, hkr⟩

set_option maxHeartbeats 400000 in
theorem contains_stat (v : Value) (l : List Statute) (w : World) (h : StatsV w v l) (hs : Short l) :
    Calls Tryz.prog 149 #[v, .func (.func 150) #[] #[]] w fun e w' => e = .returned (.bool (!l.all validS)) ∧ Kept [] w w' := by
  have HC := Lib.hid (index_stat v l w h hs)
  clear h hs
  go_enter Tryz.func149, Tryz.ntmps149
  go_wp2_with (go_at_call 193; refine HC.out.mono ?_)
  rintro e w1 h1
  rcases h1 with ⟨ha, rfl, hk⟩ | ⟨ha, i, rfl, hk⟩
  · have HA := Lib.hid ha
    clear ha
    go_wp2
    go_ret
    exact ⟨by rw [HA.out]; rfl, hk⟩
  · have HA := Lib.hid ha
    clear ha
    go_wp2
    go_ret
    exact ⟨by rw [HA.out]; rfl, hk⟩

/-- take an operation of a drawn region, told by its parts -/
theorem take_mk {P : Program} {md : Region.Mode} {ops : Array Oper} {Q : Exit → Act → World → Prop} {S : World → Prop} {i : Nat} {d : Option Tmp} {op : Go.Op} {ty : TypeId} {pos : String} {after : Array Edge} {g : Option (Nat × Bool)}
    {v : Value} {fuel : Nat} {listed : Array Bool} {a : Act} {w : World} (hi : ops[i]? = some ⟨d, op, ty, pos, after, g⟩)
    (hs : Region.noSelect ops = true) (hf : Region.free md ops listed i = true) (hr : (Region.ready md ops listed).contains i = true)
    (hQ : ∀ c a w, Q (.panic c) (a.put d v) w → Q (.panic c) a w) (hy : YieldsIf P ops S ⟨d, op, ty, pos, after, g⟩ v a) (hS : S w)
    (h : wpAnyH P md ops Q S fuel (listed.setIfInBounds i true) (a.put d v) w) : wpAnyH P md ops Q S (fuel + 1) listed a w :=
  wpAnyH_take hi hs hf hr hQ hy hS h

/-! ### governing -/

def zeroS : Statute := ⟨[], 0, []⟩
def zerosS : Array Value := #[.slice none 0 0, .int .i64 0, .slice none 0 0]
theorem statV_zero (w : World) : StatV w (.agg zerosS) zeroS :=
  ⟨⟨_, _, rfl, by simpa [zeroS, strs] using Row.none_ w 1, by simpa [zeroS, ints] using Row.none_ w 1⟩, ⟨by decide, by decide⟩, by simp [zeroS]⟩

/-- the version leads to a statute of a valid list -/
def govIn (l : List Statute) (ver : Int) : Prop := 0 < l.length ∧ l.length ≤ 16 ∧ 0 ≤ ver ∧ ver < l.length
def governing (l : List Statute) (ver quorum jurors : Int) : Statute × Bool :=
  if (decide (0 < l.length ∧ l.length ≤ 16 ∧ 0 ≤ ver ∧ ver < l.length) && l.all validS) = true then
    (l.getD ver.toNat zeroS, decide (quorum = (l.getD ver.toNat zeroS).quorum) && decide (jurors = sumW (l.getD ver.toNat zeroS).weights))
  else (zeroS, false)

/-- how governing ends -/
def Gov (l : List Statute) (ver quorum jurors : Int) (w : World) (e : Ending) (w' : World) : Prop :=
  ∃ v, e = .returned (.tuple #[v, .bool (governing l ver quorum jurors).2]) ∧ StatV w' v (governing l ver quorum jurors).1 ∧ Kept [] w w'

set_option maxRecDepth 100000 in
set_option maxHeartbeats 1000000 in
theorem governing_out (v : Value) (l : List Statute) (ver quorum jurors most dare : Int) (qs ps rv : Value) (w : World) (h : StatsV w v l)
    (hno : ¬ (0 < l.length ∧ l.length ≤ 16 ∧ 0 ≤ ver ∧ ver < l.length)) :
    Calls Tryz.prog 69 #[v, .agg #[.int .i64 ver, qs, ps, .int .i64 most, rv, .int .i64 dare, .int .i64 quorum, .int .i64 jurors]] w (Gov l ver quorum jurors w) := by
  obtain ⟨cells, hrow, hcc⟩ := h.row
  obtain ⟨a, c, rfl, hl, _⟩ := hrow.form
  have hq : governing l ver quorum jurors = (zeroS, false) := by unfold governing; rw [decide_eq_false hno]; simp
  have HQ := Lib.hid hq
  obtain ⟨n, hn⟩ : ∃ n, l.length = n := ⟨_, rfl⟩
  rw [hn] at hno hl ⊢
  clear hq hrow hcc h hn
  rcases (by omega : n = 0 ∨ 16 < n ∨ (1 ≤ n ∧ n ≤ 16 ∧ ver < 0) ∨ (1 ≤ n ∧ n ≤ 16 ∧ 0 ≤ ver ∧ (n : Int) ≤ ver)) with h | h | h | h
  · subst h
    clear hno
    go_enter Tryz.func69, Tryz.ntmps69
    go_wp2_with fail
    exact bodyPost_ret (v := .tuple #[.agg zerosS, .bool false]) (by simp [results, Tryz.results69, go_sem, zerosS]) rfl
      ⟨_, by rw [HQ.out], by rw [HQ.out]; exact statV_zero _, by repeat (first | (with_reducible exact Kept.refl _ _) | (with_reducible refine Kept.alloc ?_ _) | (with_reducible refine Kept.drew ?_) | (with_reducible refine Kept.setCell ?_ (Or.inr (by simp)) _))⟩
  · have q1 : ((n : Int) == 0) = false := beq_eq_false_iff_ne.2 (by omega)
    clear hno
    go_enter Tryz.func69, Tryz.ntmps69
    go_wp2_with fail
    exact bodyPost_ret (v := .tuple #[.agg zerosS, .bool false]) (by simp [results, Tryz.results69, go_sem, zerosS]) rfl
      ⟨_, by rw [HQ.out], by rw [HQ.out]; exact statV_zero _, by repeat (first | (with_reducible exact Kept.refl _ _) | (with_reducible refine Kept.alloc ?_ _) | (with_reducible refine Kept.drew ?_) | (with_reducible refine Kept.setCell ?_ (Or.inr (by simp)) _))⟩
  · obtain ⟨h1, h2, h3⟩ := h
    have q1 : ((n : Int) == 0) = false := beq_eq_false_iff_ne.2 (by omega)
    clear hno
    go_enter Tryz.func69, Tryz.ntmps69
    go_wp2_with fail
    exact bodyPost_ret (v := .tuple #[.agg zerosS, .bool false]) (by simp [results, Tryz.results69, go_sem, zerosS]) rfl
      ⟨_, by rw [HQ.out], by rw [HQ.out]; exact statV_zero _, by repeat (first | (with_reducible exact Kept.refl _ _) | (with_reducible refine Kept.alloc ?_ _) | (with_reducible refine Kept.drew ?_) | (with_reducible refine Kept.setCell ?_ (Or.inr (by simp)) _))⟩
  · obtain ⟨h1, h2, h3, h4⟩ := h
    have q1 : ((n : Int) == 0) = false := beq_eq_false_iff_ne.2 (by omega)
    clear hno
    go_enter Tryz.func69, Tryz.ntmps69
    go_wp2_with fail
    exact bodyPost_ret (v := .tuple #[.agg zerosS, .bool false]) (by simp [results, Tryz.results69, go_sem, zerosS]) rfl
      ⟨_, by rw [HQ.out], by rw [HQ.out]; exact statV_zero _, by repeat (first | (with_reducible exact Kept.refl _ _) | (with_reducible refine Kept.alloc ?_ _) | (with_reducible refine Kept.drew ?_) | (with_reducible refine Kept.setCell ?_ (Or.inr (by simp)) _))⟩

set_option maxRecDepth 100000 in
set_option maxHeartbeats 2000000 in
theorem governing_in (v : Value) (l : List Statute) (ver quorum jurors most dare : Int) (qs ps rv : Value) (w : World) (h : StatsV w v l) (hs : Short l)
    (h1 : 0 < l.length) (h2 : l.length ≤ 16) (h3 : 0 ≤ ver) (h4 : ver < l.length) :
    Calls Tryz.prog 69 #[v, .agg #[.int .i64 ver, qs, ps, .int .i64 most, rv, .int .i64 dare, .int .i64 quorum, .int .i64 jurors]] w (Gov l ver quorum jurors w) := by
  obtain ⟨k, rfl⟩ := Int.eq_ofNat_of_zero_le h3
  obtain ⟨cells, hrow, hcc⟩ := h.row
  obtain ⟨a, c, rfl, hl, _⟩ := hrow.form
  have q1 : ((l.length : Int) == 0) = false := beq_eq_false_iff_ne.2 (by omega)
  have hq : governing l k quorum jurors = if l.all validS = true then (l.getD k zeroS, decide (quorum = (l.getD k zeroS).quorum) && decide (jurors = sumW (l.getD k zeroS).weights)) else (zeroS, false) := by
    unfold governing; rw [decide_eq_true ⟨h1, h2, h3, h4⟩]; simp
  have HQ := Lib.hid hq
  obtain ⟨W, hW⟩ : ∃ W, (w.alloc (.cells #[.int .i64 k, qs, ps, .int .i64 most, rv, .int .i64 dare, .int .i64 quorum, .int .i64 jurors] 30)).alloc (.cells zerosS 46) = W := ⟨_, rfl⟩
  have hkW : Kept [] w W := hW ▸ ((Kept.refl [] w).alloc _).alloc _
  have hbT : Blk W w.heap.size 30 #[.int .i64 k, qs, ps, .int .i64 most, rv, .int .i64 dare, .int .i64 quorum, .int .i64 jurors] := hW ▸ (Blk.new w _ _).alloc _
  have hbZ : Blk W (w.heap.size + 1) 46 zerosS := by
    have := Blk.new (w.alloc (.cells #[.int .i64 k, qs, ps, .int .i64 most, rv, .int .i64 dare, .int .i64 quorum, .int .i64 jurors] 30)) 46 zerosS
    rw [hW, World.size_alloc] at this
    exact this
  have HC := Lib.hid (contains_stat _ l W (h.kept hkW) hs)
  have HW := Lib.hid hW
  have HH := Lib.hid h
  have HS := Lib.hid hs
  clear hW hq hrow hcc h hs h3
  go_enter Tryz.func69, Tryz.ntmps69
  go_wp2_with fail
  have hW' : (w.alloc (.cells #[.int .i64 k, qs, ps, .int .i64 most, rv, .int .i64 dare, .int .i64 quorum, .int .i64 jurors] 30)).alloc (.cells #[.slice none 0 0, .int .i64 0, .slice none 0 0] 46) = W := HW.out
  rw [hW']
  clear hW'
  cases hall : l.all validS
  · rw [hall, if_neg Bool.false_ne_true] at HQ
    rw [hall] at HC
    clear hall
    go_wp2_with (go_at_call 149; refine HC.out.mono ?_)
    rintro e w1 ⟨rfl, hk1⟩
    have hz := hbZ.kept hk1 (by simp)
    have z0 : w1.cell? ⟨w.heap.size + 1, 0, none⟩ = some (.slice none 0 0) := hz.cell 0
    have z1 : w1.cell? ⟨w.heap.size + 1, 1, none⟩ = some (.int .i64 0) := hz.cell 1
    have z2 : w1.cell? ⟨w.heap.size + 1, 2, none⟩ = some (.slice none 0 0) := hz.cell 2
    have y0 := hz.frozen 0
    have y1 := hz.frozen 1
    have y2 := hz.frozen 2
    have hk : Kept [] w w1 := hkW.trans hk1
    go_wp2_with fail
    exact bodyPost_ret (v := .tuple #[.agg zerosS, .bool false]) (by simp [results, Tryz.results69, go_sem, zerosS, z0, z1, z2]) rfl
      ⟨_, by rw [HQ.out], by rw [HQ.out]; exact statV_zero _, by repeat (first | (with_reducible exact hk) | (with_reducible refine Kept.alloc ?_ _) | (with_reducible refine Kept.drew ?_) | (with_reducible refine Kept.setCell ?_ (Or.inr (by simp)) _))⟩
  · rw [hall] at HC HQ
    obtain ⟨x, hx⟩ : ∃ x, l[k]? = some x := ⟨_, List.getElem?_eq_getElem (by omega)⟩
    have hgd : l.getD k zeroS = x := by simp [List.getD, hx]
    rw [hgd, if_pos rfl] at HQ
    have hvx : validS x = true := by rw [List.all_eq_true] at hall; exact hall x (List.mem_of_getElem? hx)
    obtain ⟨b, off, ra, rc, wa, wc, rfl, u0, u1, u2, hstw⟩ := HH.out.at_ hx
    have x0 := Kept.cellOf u0 W hkW
    have x1 := Kept.cellOf u1 W hkW
    have x2 := Kept.cellOf u2 W hkW
    have hst := hstw.kept hkW
    clear hall hgd u0 u1 u2
    go_wp2_with (go_at_call 149; refine HC.out.mono ?_)
    rintro e w1 ⟨rfl, hk1⟩
    have y0 := Kept.cellOf x0 w1 hk1
    have y1 := Kept.cellOf x1 w1 hk1
    have y2 := Kept.cellOf x2 w1 hk1
    have t0 : w1.cell? ⟨w.heap.size, 0, none⟩ = some (.int .i64 k) := (hbT.kept hk1 (by simp)).cell 0
    have t6 : w1.cell? ⟨w.heap.size, 6, none⟩ = some (.int .i64 quorum) := (hbT.kept hk1 (by simp)).cell 6
    have t7 : w1.cell? ⟨w.heap.size, 7, none⟩ = some (.int .i64 jurors) := (hbT.kept hk1 (by simp)).cell 7
    go_wp2_with fail
    obtain ⟨W2, hW2⟩ : ∃ W2, w1.alloc (.cells #[.slice ra x.reasons.length rc, .int .i64 x.quorum, .slice wa x.weights.length wc] 46) = W2 := ⟨_, rfl⟩
    have hb2 : Blk W2 w1.heap.size 46 #[.slice ra x.reasons.length rc, .int .i64 x.quorum, .slice wa x.weights.length wc] := hW2 ▸ Blk.new w1 _ _
    have hk2 : Kept [] w1 W2 := hW2 ▸ (Kept.refl [] w1).alloc _
    rw [hW2]
    have hz2 := (hbZ.kept hk1 (by simp)).kept hk2 (by simp)
    have hlt1 := (hbZ.kept hk1 (by simp)).lt
    have hT2 := (hbT.kept hk1 (by simp)).kept hk2 (by simp)
    have c0 : ∀ w', Kept [w.heap.size + 1] W2 w' → w'.cell? ⟨w1.heap.size, 0, none⟩ = some (.slice ra x.reasons.length rc) := fun w' kk => (hb2.kept kk (by simp; omega)).cell 0
    have c1 : ∀ w', Kept [w.heap.size + 1] W2 w' → w'.cell? ⟨w1.heap.size, 1, none⟩ = some (.int .i64 x.quorum) := fun w' kk => (hb2.kept kk (by simp; omega)).cell 1
    have c2 : ∀ w', Kept [w.heap.size + 1] W2 w' → w'.cell? ⟨w1.heap.size, 2, none⟩ = some (.slice wa x.weights.length wc) := fun w' kk => (hb2.kept kk (by simp; omega)).cell 2
    have c6 : ∀ w', Kept [w.heap.size + 1] W2 w' → w'.cell? ⟨w.heap.size, 6, none⟩ = some (.int .i64 quorum) := fun w' kk => (hT2.kept kk (by simp)).cell 6
    have c7 : ∀ w', Kept [w.heap.size + 1] W2 w' → w'.cell? ⟨w.heap.size, 7, none⟩ = some (.int .i64 jurors) := fun w' kk => (hT2.kept kk (by simp)).cell 7
    have z0 : W2.cell? ⟨w.heap.size + 1, 0, none⟩ = some (.slice none 0 0) := hz2.cell 0
    have z1 : W2.cell? ⟨w.heap.size + 1, 1, none⟩ = some (.int .i64 0) := hz2.cell 1
    have z2 : W2.cell? ⟨w.heap.size + 1, 2, none⟩ = some (.slice none 0 0) := hz2.cell 2
    have f0 := hz2.frozen 0
    have f1 := hz2.frozen 1
    have f2 := hz2.frozen 2
    have hst2 := (hst.kept hk1).kept hk2
    obtain ⟨_, _, _, v2, v3, v4, _, _⟩ := validS_facts hvx
    have hkw2 : Kept [] w W2 := (hkW.trans hk1).trans hk2
    have hst0 : StatV w (.agg #[.slice ra x.reasons.length rc, .int .i64 x.quorum, .slice wa x.weights.length wc]) x := hstw
    have hT : Hid (∀ w', Kept [w.heap.size + 1] W2 w' → Calls Tryz.prog 52 #[.slice wa x.weights.length wc] w' fun e w'' => e = .returned (.int .i64 (sumW x.weights)) ∧ w' = w'') :=
      fun w' kk => total_any _ x.weights w' (hst0.kept (hkw2.fresh kk (by simp))).weights v3 (by omega)
    have HST := Lib.hid hst2
    clear hst hst2 hstw hW2 hb2 hz2 hT2 hk2 t0 t6 t7 y0 y1 y2 x0 x1 x2 v2 v3 v4 hvx hx hbT hbZ
    by_cases hq : quorum = x.quorum
    · have hqb : (quorum == x.quorum) = true := by simp [hq]
      have HQ2 := Lib.hid hq
      clear hq
      go_region_held3 (fun w' => Kept [w.heap.size + 1] W2 w') (repeat (first | (with_reducible assumption) | (with_reducible exact Kept.refl _ _) | (with_reducible refine Kept.drew ?_) | (with_reducible refine Kept.setCell ?_ (Or.inl (by simp)) _)))
        ((go_at_call 52; refine (hT.out _ (by with_reducible assumption)).mono ?_; rintro e w' ⟨rfl, rfl⟩))
      rename_i hHeld
      have hkf := hkw2.fresh hHeld (by simp)
      have hsf := hst0.kept hkf
      clear hst0
      have HKF := Lib.hid hkf
      have HSF := Lib.hid hsf
      clear hkf hsf hHeld
      go_wp2
      exact bodyPost_ret (v := .tuple #[.agg #[.slice ra x.reasons.length rc, .int .i64 x.quorum, .slice wa x.weights.length wc], .bool (jurors == sumW x.weights)]) (by simp [results, Tryz.results69, go_sem, z0, z1, z2]) rfl
        ⟨.agg #[.slice ra x.reasons.length rc, .int .i64 x.quorum, .slice wa x.weights.length wc], by rw [HQ.out, HQ2.out]; simp [Bool.beq_eq_decide_eq], by rw [HQ.out]; exact HSF.out, HKF.out⟩
    · have hqb : (quorum == x.quorum) = false := by simp [hq]
      have hqd : decide (quorum = x.quorum) = false := by simp [hq]
      have HQ2 := Lib.hid hqd
      clear hT
      refine wp_region_held_drew (S := fun w' => Kept [w.heap.size + 1] W2 w') (by kernel_rfl) (Kept.refl _ _).drew (fun hHeld => ?_)
      refine take_mk (i := 0) (v := ?v0) rfl (by kernel_rfl) (by kernel_rfl) (by kernel_rfl) (fun _ _ _ h => h) (Or.inl ⟨by rfl, ?hy0⟩) (by assumption) ?rest0
      case hy0 => intro w' hSw; (try dsimp only at hSw); go_simp; first | done | with_reducible rfl
      simp only [Act.put, List.setIfInBounds_toArray, List.set_cons_zero, List.set_cons_succ]
      refine take_mk (i := 1) (v := ?v1) rfl (by kernel_rfl) (by kernel_rfl) (by kernel_rfl) (fun _ _ _ h => h) (Or.inl ⟨by rfl, ?hy1⟩) (by assumption) ?rest1
      case hy1 => intro w' hSw; (try dsimp only at hSw); go_simp; first | done | with_reducible rfl
      simp only [Act.put, List.setIfInBounds_toArray, List.set_cons_zero, List.set_cons_succ]
      refine take_mk (i := 2) (v := ?v2) rfl (by kernel_rfl) (by kernel_rfl) (by kernel_rfl) (fun _ _ _ h => h) (Or.inl ⟨by rfl, ?hy2⟩) (by assumption) ?rest2
      case hy2 => intro w' hSw; (try dsimp only at hSw); go_simp; first | done | with_reducible rfl
      simp only [Act.put, List.setIfInBounds_toArray, List.set_cons_zero, List.set_cons_succ]
      refine take_mk (i := 3) (v := ?v3) rfl (by kernel_rfl) (by kernel_rfl) (by kernel_rfl) (fun _ _ _ h => h) (Or.inl ⟨by rfl, ?hy3⟩) (by assumption) ?rest3
      case hy3 => intro w' hSw; (try dsimp only at hSw); go_simp; first | done | with_reducible rfl
      simp only [Act.put, List.setIfInBounds_toArray, List.set_cons_zero, List.set_cons_succ]
      refine take_mk (i := 4) (v := ?v4) rfl (by kernel_rfl) (by kernel_rfl) (by kernel_rfl) (fun _ _ _ h => h) (Or.inl ⟨by rfl, ?hy4⟩) (by assumption) ?rest4
      case hy4 => intro w' hSw; (try dsimp only at hSw); go_simp; first | done | with_reducible rfl
      simp only [Act.put, List.setIfInBounds_toArray, List.set_cons_zero, List.set_cons_succ]
      refine take_mk (i := 5) (v := ?v5) rfl (by kernel_rfl) (by kernel_rfl) (by kernel_rfl) (fun _ _ _ h => h) (Or.inl ⟨by rfl, ?hy5⟩) (by assumption) ?rest5
      case hy5 => intro w' hSw; (try dsimp only at hSw); go_simp; first | done | with_reducible rfl
      simp only [Act.put, List.setIfInBounds_toArray, List.set_cons_zero, List.set_cons_succ]
      refine take_mk (i := 6) (v := ?v6) rfl (by kernel_rfl) (by kernel_rfl) (by kernel_rfl) (fun _ _ _ h => h) (Or.inl ⟨by rfl, ?hy6⟩) (by assumption) ?rest6
      case hy6 => intro w' hSw; (try dsimp only at hSw); go_simp; first | done | with_reducible rfl
      simp only [Act.put, List.setIfInBounds_toArray, List.set_cons_zero, List.set_cons_succ]
      refine take_mk (i := 7) (v := undef) rfl (by kernel_rfl) (by kernel_rfl) (by kernel_rfl) (fun _ _ _ h => h) (Or.inr ⟨by rfl, rfl⟩) (by assumption) ?rest7
      simp only [Act.put, List.setIfInBounds_toArray, List.set_cons_zero, List.set_cons_succ]
      refine take_mk (i := 8) (v := undef) rfl (by kernel_rfl) (by kernel_rfl) (by kernel_rfl) (fun _ _ _ h => h) (Or.inr ⟨by rfl, rfl⟩) (by assumption) ?rest8
      simp only [Act.put, List.setIfInBounds_toArray, List.set_cons_zero, List.set_cons_succ]
      refine take_mk (i := 9) (v := undef) rfl (by kernel_rfl) (by kernel_rfl) (by kernel_rfl) (fun _ _ _ h => h) (Or.inr ⟨by rfl, rfl⟩) (by assumption) ?rest9
      simp only [Act.put, List.setIfInBounds_toArray, List.set_cons_zero, List.set_cons_succ]
      refine take_mk (i := 10) (v := undef) rfl (by kernel_rfl) (by kernel_rfl) (by kernel_rfl) (fun _ _ _ h => h) (Or.inr ⟨by rfl, rfl⟩) (by assumption) ?rest10
      simp only [Act.put, List.setIfInBounds_toArray, List.set_cons_zero, List.set_cons_succ]
      refine take_mk (i := 11) (v := undef) rfl (by kernel_rfl) (by kernel_rfl) (by kernel_rfl) (fun _ _ _ h => h) (Or.inr ⟨by rfl, rfl⟩) (by assumption) ?rest11
      simp only [Act.put, List.setIfInBounds_toArray, List.set_cons_zero, List.set_cons_succ]
      refine take_mk (i := 12) (v := undef) rfl (by kernel_rfl) (by kernel_rfl) (by kernel_rfl) (fun _ _ _ h => h) (Or.inr ⟨by rfl, rfl⟩) (by assumption) ?rest12
      simp only [Act.put, List.setIfInBounds_toArray, List.set_cons_zero, List.set_cons_succ]
      refine take_mk (i := 13) (v := ?v13) rfl (by kernel_rfl) (by kernel_rfl) (by kernel_rfl) (fun _ _ _ h => h) (Or.inl ⟨by rfl, ?hy13⟩) (by assumption) ?rest13
      case hy13 => intro w' hSw; (try dsimp only at hSw); go_simp; first | done | with_reducible rfl
      simp only [Act.put, List.setIfInBounds_toArray, List.set_cons_zero, List.set_cons_succ]
      refine wpAnyH_ready (rs := [14]) (by kernel_rfl) (by simp) ?_
      refine AllReadyH.cons rfl (fun K hK => ?_) AllReadyH.nil
      go_simp
      refine hK.out _ _ (by repeat (first | (with_reducible assumption) | (with_reducible exact Kept.refl _ _) | (with_reducible refine Kept.drew ?_) | (with_reducible refine Kept.setCell ?_ (Or.inl (by simp)) _))) (fun hHeld1 => ?_)
      clear hK K hHeld
      (try simp only [Act.put, List.setIfInBounds_toArray, List.set_cons_zero, List.set_cons_succ])
      refine take_mk (i := 15) (v := ?v15) rfl (by kernel_rfl) (by kernel_rfl) (by kernel_rfl) (fun _ _ _ h => h) (Or.inl ⟨by rfl, ?hy15⟩) (by assumption) ?rest15
      case hy15 => intro w' hSw; (try dsimp only at hSw); go_simp; first | done | with_reducible rfl
      simp only [Act.put, List.setIfInBounds_toArray, List.set_cons_zero, List.set_cons_succ]
      refine wpAnyH_done (by kernel_rfl) ?_ _
      have hkf := hkw2.fresh hHeld1 (by simp)
      have hsf := hst0.kept hkf
      clear hst0
      have HKF := Lib.hid hkf
      have HSF := Lib.hid hsf
      clear hkf hsf hHeld1
      go_wp2
      exact bodyPost_ret (v := .tuple #[.agg #[.slice ra x.reasons.length rc, .int .i64 x.quorum, .slice wa x.weights.length wc], .bool false]) (by simp [results, Tryz.results69, go_sem, z0, z1, z2]) rfl
        ⟨.agg #[.slice ra x.reasons.length rc, .int .i64 x.quorum, .slice wa x.weights.length wc], by rw [HQ.out, HQ2.out]; rfl, by rw [HQ.out]; exact HSF.out, HKF.out⟩

theorem governing_any (v : Value) (l : List Statute) (ver quorum jurors most dare : Int) (qs ps rv : Value) (w : World) (h : StatsV w v l) (hs : Short l) :
    Calls Tryz.prog 69 #[v, .agg #[.int .i64 ver, qs, ps, .int .i64 most, rv, .int .i64 dare, .int .i64 quorum, .int .i64 jurors]] w (Gov l ver quorum jurors w) := by
  by_cases hc : 0 < l.length ∧ l.length ≤ 16 ∧ 0 ≤ ver ∧ ver < l.length
  · exact governing_in v l ver quorum jurors most dare qs ps rv w h hs hc.1 hc.2.1 hc.2.2.1 hc.2.2.2
  · exact governing_out v l ver quorum jurors most dare qs ps rv w h hc
end Go.Proofs.YtpcdfepndmconaaGreatDoor
