/- The bounds of timed lists: gate.Bounds. -/
import Derived.Test.YtcidfldeiklcjaaGreatDoorCst
import Derived.Test.YtcidfldeiklcjaaGreatDoorJn
/- JOINED: Trn Tmd Bds -/
/- The graph with all edges turned round. -/
namespace Go.Proofs.YtcidfldeiklcjaaGreatDoor
open Go.RowKit Bf

def vsC (n : Nat) (vs : Nat → Value) : List Value := (List.range n).map vs
theorem vsC_len (n : Nat) (vs : Nat → Value) : (vsC n vs).length = n := by simp [vsC]
theorem vsC_get {n i : Nat} {vs : Nat → Value} (h : i < n) : (vsC n vs)[i]? = some (vs i) := by simp [vsC, h]
def updV (vs : Nat → Value) (a : Nat) (v : Value) : Nat → Value := fun i => if i = a then v else vs i
theorem vsC_set {n a : Nat} {vs : Nat → Value} (h : a < n) (v : Value) : (vsC n vs).toArray.setIfInBounds a v = (vsC n (updV vs a v)).toArray := by
  rw [List.setIfInBounds_toArray]
  congr 1
  apply List.ext_getElem?
  intro i
  rw [List.getElem?_set]
  by_cases e : a = i
  · subst e
    rw [if_pos rfl, if_pos (by rw [vsC_len]; exact h), vsC_get h]
    simp [updV]
  · rw [if_neg e]
    by_cases hi : i < n
    · rw [vsC_get hi, vsC_get hi]
      unfold updV
      rw [if_neg (fun x => e x.symm)]
    · rw [List.getElem?_eq_none (by rw [vsC_len]; omega), List.getElem?_eq_none (by rw [vsC_len]; omega)]
theorem vsC_nil (n : Nat) : List.replicate n (Value.slice none 0 0) = vsC n fun _ => .slice none 0 0 := by
  apply List.ext_getElem?
  intro i
  rw [List.getElem?_replicate]
  by_cases h : i < n
  · rw [if_pos h, vsC_get h]
  · rw [if_neg h, List.getElem?_eq_none (by rw [vsC_len]; omega)]
def colG (G : Gf) (i m : Nat) : List Int := (List.range m).map fun j => G j i
theorem colG_succ (G : Gf) (i m : Nat) : colG G i (m + 1) = colG G i m ++ [G m i] := by unfold colG; rw [List.range_succ, List.map_append]; rfl
def lenAt (n a b i : Nat) : Nat := if i < a then n else if i = a then b else 0
/-- rows of numbers under way: those of the first a are done, that of a has b numbers -/
structure TrW (w0 w : World) (gb n : Nat) (G : Gf) (vs : Nat → Value) (a b : Nat) : Prop where
  kept : Kept [] w0 w
  g : Blk w gb 24 (vsC n vs).toArray
  ge : w0.heap.size ≤ gb
  own : ∀ i, i < n → w.ownsRow w0.heap.size 3 1 (vs i) (lenAt n a b i) (ints (colG G i (lenAt n a b i)))
  out : ∀ i, i < n → ∀ k ∈ obl (vs i), k ≠ gb
  parted : ∀ i j, i < n → j < n → i ≠ j → ∀ k ∈ obl (vs i), k ∉ obl (vs j)
section
variable {w0 w w1 w' : World} {gb n : Nat} {G : Gf} {vs : Nat → Value} {a b : Nat}
theorem TrW.next {v : Value} (h : TrW w0 w gb n G vs a b) (ha : a < n) (k1 : Kept [] w w1) (k : Kept (obl (vs a)) w1 w')
    (ho : w'.ownsRow w0.heap.size 3 1 v (b + 1) (ints (colG G a b ++ [G b a]))) (hob : ∀ k ∈ obl v, k ∈ obl (vs a) ∨ k = w1.heap.size) :
    TrW w0 (w'.setCell ⟨gb, a, none⟩ v) gb n G (updV vs a v) a (b + 1) := by
  have hgl := h.g.lt
  have hsz := k1.size
  have hne : ∀ k ∈ obl v, k ≠ gb := fun x hx => by
    rcases hob x hx with e | e
    · exact h.out a ha x e
    · omega
  have hva : updV vs a v a = v := by simp [updV]
  have hvi : ∀ i, i ≠ a → updV vs a v i = vs i := fun i hi => by simp [updV, hi]
  have hl : ∀ i, i ≠ a → lenAt n a (b + 1) i = lenAt n a b i := fun i hi => by unfold lenAt; simp [hi]
  have hla : lenAt n a (b + 1) a = b + 1 := by unfold lenAt; simp
  have hcell : ∀ {u : Value} {m : Nat} {xs : List Value}, w'.ownsRow w0.heap.size 3 1 u m xs → (∀ k ∈ obl u, k ≠ gb) → (w'.setCell ⟨gb, a, none⟩ v).ownsRow w0.heap.size 3 1 u m xs := fun {u m xs} hu hk =>
    own_keep hu (S := [gb]) ((Kept.refl _ _).setCell (Or.inl (by simp)) _) (fun z hz => by have := hk z hz; simpa using this)
  refine ⟨?_, ?_, h.ge, fun i hi => ?_, fun i hi => ?_, fun i j hi hj hij => ?_⟩
  · have k2 : Kept [] w0 w' := (h.kept.trans k1).fresh k (fun x hx => ((own_ge (h.own a ha)) x hx).1)
    exact k2.setCell (Or.inr h.ge) _
  · have g1 := h.g.kept k1 (by simp)
    have g2 := (g1.kept k (fun hx => (h.out a ha _ hx) rfl)).set_ a v
    rw [vsC_set ha] at g2
    exact g2
  · by_cases e : i = a
    · subst e
      rw [hva, hla, colG_succ]
      exact hcell ho hne
    · rw [hvi i e, hl i e]
      have h1 := own_keep (h.own i hi) k1 (fun z hz => by simp)
      have h2 := own_keep h1 k (fun z hz => h.parted i a hi ha e z hz)
      exact hcell h2 (h.out i hi)
  · by_cases e : i = a
    · subst e; rw [hva]; exact hne
    · rw [hvi i e]; exact h.out i hi
  · have lt : ∀ i, i < n → ∀ k ∈ obl (vs i), k < w1.heap.size := fun i hi k hk => by have := ((own_ge (h.own i hi)) k hk).2; omega
    intro x hx hy
    by_cases e1 : i = a
    · subst e1
      rw [hva] at hx
      rw [hvi j (fun e => hij e.symm)] at hy
      rcases hob x hx with e | e
      · exact h.parted i j hi hj hij x e hy
      · have := lt j hj x hy; omega
    · rw [hvi i e1] at hx
      by_cases e2 : j = a
      · subst e2
        rw [hva] at hy
        rcases hob x hy with e | e
        · exact h.parted i j hi hj hij x hx e
        · have := lt i hi x hx; omega
      · rw [hvi j e2] at hy
        exact h.parted i j hi hj hij x hx hy
theorem TrW.row (h : TrW w0 w gb n G vs a n) : TrW w0 w gb n G vs (a + 1) 0 :=
  ⟨h.kept, h.g, h.ge, fun i hi => by
    have : lenAt n (a + 1) 0 i = lenAt n a n i := by
      unfold lenAt
      by_cases e1 : i < a
      · rw [if_pos (by omega), if_pos e1]
      · by_cases e2 : i = a
        · rw [if_pos (by omega), if_neg e1, if_pos e2]
        · rw [if_neg (by omega), if_neg e1, if_neg e2]; simp
    rw [this]; exact h.own i hi, h.out, h.parted⟩
theorem TrW.read (h : TrW w0 w gb n G vs n 0) (hn : 1 ≤ n) : MatV w (.slice (some ⟨gb, 0, none⟩) n n) n (turn G) := by
  have hall : ∀ i, i < n → ∃ r c, vs i = .slice (some ⟨r, 0, none⟩) n c ∧ n ≤ c ∧ ∀ b, b < n → w.cell? ⟨r, b, none⟩ = some (.int .i64 (G b i)) := fun i hi => by
    have ho := h.own i hi
    have hl : lenAt n n 0 i = n := by unfold lenAt; rw [if_pos hi]
    rw [hl] at ho
    rcases ho.2 with ⟨_, h2⟩ | ⟨g, cap, cur, hv, _, hg, hnc, _, hcs, htk⟩
    · omega
    · refine ⟨g, cap, hv, hnc, fun b hb => ?_⟩
      have hb2 : Blk w g 3 cur := hg
      rw [hb2.cell b]
      have h3 : (cur.toList.take (n * 1))[b]? = some (.int .i64 (G b i)) := by
        rw [htk]
        simp [ints, colG, hb]
      rw [List.getElem?_take, if_pos (by omega)] at h3
      simpa using h3
  refine ⟨gb, n, fun i => match vs i with | .slice (some a) _ _ => a.block | _ => 0, fun i => match vs i with | .slice _ _ c => c | _ => 0, rfl, Nat.le_refl _, fun i hi => ?_⟩
  obtain ⟨r, c, hv, hc, hcell⟩ := hall i hi
  simp only [hv]
  refine ⟨hc, ?_, hcell⟩
  rw [h.g.cell i, List.getElem?_toArray, vsC_get hi, hv]
end

def TrnE (G : Gf) (n : Nat) (w : World) (e : Ending) (w' : World) : Prop := ∃ v, e = .returned v ∧ MatV w' v n (turn G) ∧ Kept [] w w'

set_option maxRecDepth 100000 in
set_option maxHeartbeats 2000000 in
theorem turned_any (v : Value) (n : Nat) (G : Gf) (w : World) (h : MatV w v n G) (hn : n ≤ 16) (h1 : 1 ≤ n) :
    Calls Tryz.prog 27 #[v] w (TrnE G n w) := by
  obtain ⟨ib, ic, rb, cp, rfl, hgc, hm⟩ := h
  obtain ⟨i0, hi, hz0, hz1, hz2⟩ := info_parts infoSl
  have HM := Lib.hid hm
  clear hm
  go_enter Tryz.func27, Tryz.ntmps27
  go_wp2_with (at_make; refine wpList_make_full _ rfl _ _ 56 rfl w.heap.size 24 i0 (.slice none 0 0) 1 Tryz.underlying56 hi hz0 hz1 _ _ _ _ n rfl rfl ?b0 ?b0' ?b1 ?b2 (Nat.le_refl _) ?_)
  case b0 => rfl
  case b0' => rfl
  case b1 => rw [hz2]; omega
  case b2 => unfold maxLen; omega
  intro w1 hown hgr
  rw [show (madeCells #[Value.slice none 0 0] n).toList = _ from made_one _ _] at hown
  have hk1 : Kept [] w w1 := Kept.of_grown hgr (by simp)
  have hT : TrW w w1 w.heap.size n G (fun _ => .slice none 0 0) 0 0 := ⟨hk1, by have := own_made hown; rw [vsC_nil] at this; exact this, Nat.le_refl _, fun i hi => by
    have : lenAt n 0 0 i = 0 := by unfold lenAt; simp
    rw [this]
    exact ⟨rfl, Or.inl ⟨rfl, rfl⟩⟩, fun i hi k hk => by simp [obl, Value.ownBlock] at hk, fun i j hi hj hij k hk => by simp [obl, Value.ownBlock] at hk⟩
  clear hown hgr hk1
  go_wp2_with fail
  go_loopw [11] (fun i wr => ∃ (a : Nat) (vs : Nat → Value), a ≤ n ∧ i = .int .i64 a ∧ TrW w wr w.heap.size n G vs a 0) (fun i _ => n - (intOf i).toNat)
  case atStart => exact ⟨0, _, Nat.zero_le _, rfl, hT⟩
  case round =>
    obtain ⟨a, vs, ha, rfl, hT⟩ := hrel
    have HT := Lib.hid hT
    clear hT
    by_cases han : a < n
    · go_wp2_with fail
      go_loopw [16] (fun i wr => ∃ (b : Nat) (vs : Nat → Value), b ≤ n ∧ i = .int .i64 b ∧ TrW w wr w.heap.size n G vs a b) (fun i _ => n - (intOf i).toNat)
      case atStart => exact ⟨0, _, Nat.zero_le _, rfl, HT.out⟩
      case round =>
        obtain ⟨b, vs, hb, rfl, hT⟩ := hrel
        have HQ := Lib.hid hT
        clear hT
        by_cases hbn : b < n
        · have hlen : lenAt n a b a = b := by unfold lenAt; simp
          have hown := HQ.out.own a han
          rw [hlen] at hown
          obtain ⟨va, vc, hva⟩ := own_form hown
          have x0 : wr.cell? ⟨w.heap.size, a, none⟩ = some (.slice va b vc) := by rw [HQ.out.g.cell a, List.getElem?_toArray, vsC_get han, hva]
          have y0 := HQ.out.g.frozen a
          have hgl := HQ.out.g.lt
          obtain ⟨hcp, hrow, hcell⟩ := HM.out b hbn
          have x1 := Kept.cellOf hrow _ HQ.out.kept
          have x2 := Kept.cellOf (hcell a han) _ HQ.out.kept
          obtain ⟨g, hg⟩ : ∃ g, G b a = g := ⟨_, rfl⟩
          rw [hg] at x2
          have HG := Lib.hid hg
          have hk1 : Kept [] wr (wr.drew.alloc (.cells #[.int .i64 g] 3)) := (Kept.refl _ _).drew.alloc _
          have hown1 : (wr.drew.alloc (.cells #[.int .i64 g] 3)).ownsRow w.heap.size 3 1 (.slice va b vc) b (ints (colG G a b)) := by
            have := own_keep hown hk1 (fun z hz => by simp)
            rw [hva] at this; exact this
          have HO := Lib.hid hown1
          have HV := Lib.hid hva
          have hrl : Row (wr.drew.alloc (.cells #[.int .i64 g] 3)) 1 (.slice (some ⟨wr.heap.size, 0, none⟩) 1 1) 1 (ints [g]) := Row.lit wr.drew [g] (by simp)
          have HR := Lib.hid hrl
          have HC : Hid (∀ w4, Kept (obl (.slice va b vc)) (wr.drew.alloc (.cells #[.int .i64 g] 3)) w4 → w4.cell? ⟨w.heap.size, a, none⟩ = some (.slice va b vc) ∧ w4.frozen? ⟨w.heap.size, a, none⟩ = false) := fun w4 k4 => by
            have hn : w.heap.size ∉ obl (.slice va b vc) := fun hx => HQ.out.out a han _ (by rw [hva]; exact hx) rfl
            have g1 := (HQ.out.g.kept hk1 (by simp)).kept k4 hn
            exact ⟨by rw [g1.cell a, List.getElem?_toArray, vsC_get han, hva], g1.frozen a⟩
          have HK1 := Lib.hid hk1
          clear hrow hcell hg hown1 hown hva hrl hk1
          go_wp2_with fail
          go_region_law (refine step_append_ints rfl (.tmp 24) (.tmp 32) rfl w.heap.size (.slice va b vc) b (colG G a b) (by simp [Act.eval]) HO.out (.slice (some ⟨wr.heap.size, 0, none⟩) 1 1) 1 [g] (by simp [Act.eval]) HR.out (by omega) (by simp; omega) ?_; intro a' c' w4 H4 K4 O4; obtain ⟨x4, y4⟩ := HC.out w4 K4)
          all_goals
            have HTN := Lib.hid (HQ.out.next han (v := .slice a' (b + 1) c') HK1.out (by rw [HV.out]; exact K4) (by rw [HG.out]; exact H4) (by rw [HV.out]; exact O4))
            clear H4 K4 O4 x4 y4 x0 x1 x2 y0
            go_wp2_with fail
            go_roundw
          all_goals first
            | exact ⟨b + 1, _, by omega, by go_num, HTN.out⟩
            | (simp [intOf]; omega)
        · have HX := HQ.out
          rw [show b = n by omega] at HX
          have HXH := Lib.hid HX.row
          clear HX
          go_wp2_with fail
          exact ⟨⟨a + 1, _, by omega, by go_num, HXH.out⟩, by simp [intOf]; omega⟩
    · have HX := HT.out
      rw [show a = n by omega] at HX
      have HXH := Lib.hid HX
      clear HX
      go_wp2_with fail
      go_ret
      exact ⟨_, rfl, HXH.out.read h1, HXH.out.kept⟩
end Go.Proofs.YtcidfldeiklcjaaGreatDoor
/- Timed lists: timed. -/
namespace Go.Proofs.YtcidfldeiklcjaaGreatDoor
open Go.RowKit Tm

/-- what a list's times are bound by -/
def TmE (s : Stp) (keys : List Int) (l : List Ent) (dr : Int) (w : World) (e : Ending) (w' : World) : Prop := Kept [] w w' ∧
  (((setupB s && inB dr 0 1000) = false ∧ e = .returned (.tuple #[.slice none 0 0, .bool false])) ∨
   ((setupB s && inB dr 0 1000) = true ∧ ∃ (o : List Ent) (gb : Nat), JoinIs (signedB s keys) l o ∧ o.length ≤ 12 ∧ (∀ x ∈ o, WF x) ∧ 0 ≤ dr ∧ dr ≤ 1000 ∧ e = .returned (.tuple #[.slice (some ⟨gb, 0, none⟩) (o.length + 1) (o.length + 1), .bool true]) ∧ MatV w' (.slice (some ⟨gb, 0, none⟩) (o.length + 1) (o.length + 1)) (o.length + 1) (gOf (edges o dr o.length))))
theorem join_wf {s : Stp} {keys : List Int} {l o : List Ent} (h : JoinIs (signedB s keys) l o) : ∀ x ∈ o, WF x := fun x hx => by
  have h1 := ((h.2 x).1 hx).2
  unfold signedB at h1
  simp only [Bool.and_eq_true] at h1
  exact (formedB_wf h1.1).1

set_option maxRecDepth 100000 in
set_option maxHeartbeats 4000000 in
theorem timed_any (vs vk va : Value) (s : Stp) (keys : List Int) (l : List Ent) (dr : Int) (w : World) (hs : StpV w vs s) (hk : Row w 1 vk keys.length (ints keys)) (ha : EntsV w va l) (hl : l.length ≤ 12) (hI : ∀ e ∈ l, EntI e) (hki : ∀ x ∈ keys, Wire.I64 x) (hE : Env2 w) :
    Calls Tryz.prog 25 #[vs, vk, va, .int .i64 dr] w (TmE s keys l dr w) := by
  have hs' := hs
  obtain ⟨⟨ad, cc, rfl, hrow⟩, ip, iq, ig, ib, il⟩ := hs'
  obtain ⟨aa, ca, rfl, _, _⟩ := RowOf.form ha
  obtain ⟨ka, kc, rfl, _, _⟩ := hk.form
  obtain ⟨W, hW⟩ : ∃ W, w.alloc (.cells (stpA s (.slice ad s.bases.length cc)) 26) = W := ⟨_, rfl⟩
  have hb : Blk W w.heap.size 26 (stpA s (.slice ad s.bases.length cc)) := hW ▸ Blk.new _ _ _
  have hkW : Kept [] w W := hW ▸ (Kept.refl _ _).alloc _
  have VS : Hid (∀ w', Kept [] W w' → Calls Tryz.prog 58 #[.agg #[.int .i64 s.P, .int .i64 s.Q, .int .i64 s.G, .slice ad s.bases.length cc, .int .i64 s.blind]] w' fun e w2 => e = .returned (.bool (setupB s)) ∧ Kept [] w' w2) := fun w' k =>
    validSetup_any _ s w' (hs.kept (hkW.trans k)) (hE.kept0 (hkW.trans k))
  have WI : Hid (∀ w', Kept [] W w' → Calls Tryz.prog 37 #[.int .i64 dr, .int .i64 0, .int .i64 1000] w' fun e w2 => e = .returned (.bool (inB dr 0 1000)) ∧ Kept [] w' w2) := fun w' _ =>
    (within_any dr 0 1000 w').mono fun e w' ⟨h1, h2⟩ => ⟨h1, h2 ▸ Kept.refl _ _⟩
  have JN : Hid (∀ w', Kept [] W w' → Calls Tryz.prog 17 #[.agg #[.int .i64 s.P, .int .i64 s.Q, .int .i64 s.G, .slice ad s.bases.length cc, .int .i64 s.blind], .slice ka keys.length kc, .slice aa l.length ca, .slice none 0 0] w' (JoinE s keys l w')) := fun w' k =>
    join_any _ _ _ s keys l w' (hs.kept (hkW.trans k)) (hk.kept (hkW.trans k)) (ha.kept (hkW.trans k)) hl hI hki (hE.kept0 (hkW.trans k))
  have S0 : Hid (∀ w', Kept [] W w' → w'.cell? ⟨w.heap.size, 0, none⟩ = some (.int .i64 s.P)) := Kept.cellOf (hb.cell 0)
  have S1 : Hid (∀ w', Kept [] W w' → w'.cell? ⟨w.heap.size, 1, none⟩ = some (.int .i64 s.Q)) := Kept.cellOf (hb.cell 1)
  have S2 : Hid (∀ w', Kept [] W w' → w'.cell? ⟨w.heap.size, 2, none⟩ = some (.int .i64 s.G)) := Kept.cellOf (hb.cell 2)
  have S3 : Hid (∀ w', Kept [] W w' → w'.cell? ⟨w.heap.size, 3, none⟩ = some (.slice ad s.bases.length cc)) := Kept.cellOf (hb.cell 3)
  have S4 : Hid (∀ w', Kept [] W w' → w'.cell? ⟨w.heap.size, 4, none⟩ = some (.int .i64 s.blind)) := Kept.cellOf (hb.cell 4)
  have HW := Lib.hid hW
  have HKW := Lib.hid hkW
  have HDR : Hid (inB dr 0 1000 = true → 0 ≤ dr ∧ dr ≤ 1000) := fun h => by unfold inB at h; simpa using h
  unfold TmE
  obtain ⟨b1, hb1⟩ : ∃ b, setupB s = b := ⟨_, rfl⟩
  obtain ⟨b2, hb2⟩ : ∃ b, inB dr 0 1000 = b := ⟨_, rfl⟩
  rw [hb1] at VS ⊢
  rw [hb2] at WI HDR ⊢
  clear hW hb hrow hb1 hb2 hkW hs hk ha hki hE ib hI
  show Calls _ _ #[.agg #[.int .i64 s.P, .int .i64 s.Q, .int .i64 s.G, .slice ad s.bases.length cc, .int .i64 s.blind], _, _, _] _ _
  go_enter Tryz.func25, Tryz.ntmps25
  go_upto_region 1 with (fail)
  have hW' : w.alloc (.cells #[.int .i64 s.P, .int .i64 s.Q, .int .i64 s.G, .slice ad s.bases.length cc, .int .i64 s.blind] 26) = W := HW.out
  rw [hW']
  clear hW'
  have s0 := S0.out _ (Kept.refl _ _)
  have s1 := S1.out _ (Kept.refl _ _)
  have s2 := S2.out _ (Kept.refl _ _)
  have s3 := S3.out _ (Kept.refl _ _)
  have s4 := S4.out _ (Kept.refl _ _)
  go_wp2_with (go_at_call 58; with_reducible refine (VS.out _ (Kept.refl _ _)).mono ?_)
  rintro e w5 ⟨rfl, k5⟩
  have hk5 : Kept [] W w5 := k5
  clear k5
  cases b1
  · go_wp2_with fail
    go_ret2
    exact ⟨HKW.out.trans hk5, Or.inl ⟨rfl, rfl⟩⟩
  have WI5 := Lib.hid (WI.out w5 hk5)
  go_wp2_with (go_at_call 37; with_reducible refine WI5.out.mono ?_)
  rintro e w6 ⟨rfl, k6⟩
  replace hk5 := hk5.trans k6
  clear k6 WI5
  cases b2
  · go_wp2_with fail
    go_ret2
    exact ⟨HKW.out.trans hk5, Or.inl ⟨rfl, rfl⟩⟩
  · have hd := HDR.out rfl
    have HD := Lib.hid hd
    have K5 : Hid (Kept [] W _) := hk5
    clear s0 s1 s2 s3 s4 hd
    have s0 := S0.out _ hk5
    have s1 := S1.out _ hk5
    have s2 := S2.out _ hk5
    have s3 := S3.out _ hk5
    have s4 := S4.out _ hk5
    have JN5 := Lib.hid (JN.out _ hk5)
    clear hk5
    go_wp2_with (go_at_call 17; with_reducible refine JN5.out.mono ?_)
    rintro e w6 ⟨vj, o, rfl, heo, hjo, hlo, k6⟩
    obtain ⟨ja, jc, rfl, _, _⟩ := RowOf.form heo
    have CO := Lib.hid (constrained_any _ o dr w6 heo (join_wf hjo) HD.out.1 HD.out.2 (by omega))
    have HJO := Lib.hid hjo
    have K6 := Lib.hid (HKW.out.trans (K5.out.trans k6))
    clear s0 s1 s2 s3 s4 heo hjo k6
    go_wp2_with (go_at_call 59; with_reducible refine CO.out.mono ?_)
    rintro e w7 ⟨gb, rb, rfl, hgb, hm, k7⟩
    have HM := Lib.hid hm.read
    have K7 := Lib.hid (K6.out.trans k7)
    clear hm hgb k7
    go_wp2_with fail
    go_ret2
    exact ⟨K7.out, Or.inr ⟨rfl, o, gb, HJO.out, hlo, join_wf HJO.out, HD.out.1, HD.out.2, rfl, HM.out⟩⟩
end Go.Proofs.YtcidfldeiklcjaaGreatDoor
namespace Go.Proofs.YtcidfldeiklcjaaGreatDoor
open Go.RowKit Tm Bf

/-- the graph of a list -/
def Gl (l : List Ent) (dr : Int) : Gf := gOf (edges l dr l.length)
theorem gl_bd (l : List Ent) (dr : Int) (h0 : 0 ≤ dr) (h1 : dr ≤ 1000) (hw : ∀ x ∈ l, WF x) : GBd (l.length + 1) (Gl l dr) := fun a b _ _ => by
  rcases Int.lt_or_le (Gl l dr a b) far with h | h
  · obtain ⟨e, he, _, _, h4⟩ := gOf_mem h
    have h5 := edges_lt l dr h0 h1 hw _ (Nat.le_refl _) e he
    exact Or.inr ⟨by unfold Gl; rw [h4]; exact h5.2.2.1, by unfold Gl; rw [h4]; exact h5.2.2.2⟩
  · exact Or.inl (Int.le_antisymm (gOf_far _ _ _) h)
theorem turn_bd {n : Nat} {G : Gf} (h : GBd n G) : GBd n (turn G) := fun a b ha hb => h b a hb ha
theorem edge_mem {l : List Ent} {dr : Int} {i : Nat} {e : Tm.Edge} (hi : i < l.length) (h : e ∈ baseE l i) : e ∈ edges l dr l.length := by
  unfold edges
  rw [List.mem_flatMap]
  exact ⟨i, List.mem_range.2 hi, by unfold edgesAt; exact List.mem_append_left _ h⟩
theorem gl_out (l : List Ent) (dr : Int) : ∀ b, b < l.length + 1 → b ≠ l.length → Gl l dr l.length b < far := fun b hb hne => by
  have h1 := gOf_le (edge_mem (l := l) (dr := dr) (i := b) (by omega) (show (l.length, b, Tm.mt) ∈ baseE l b by simp [baseE]))
  have : Gl l dr l.length b ≤ Tm.mt := h1
  have h3 : Tm.mt < far := by decide
  omega
theorem gl_in (l : List Ent) (dr : Int) : ∀ b, b < l.length + 1 → b ≠ l.length → turn (Gl l dr) l.length b < far := fun b hb hne => by
  have h1 := gOf_le (edge_mem (l := l) (dr := dr) (i := b) (by omega) (show (b, l.length, 0) ∈ baseE l b by simp [baseE]))
  have : turn (Gl l dr) l.length b ≤ 0 := h1
  have h3 : (0 : Int) < far := by decide
  omega

/-- a bound's cells -/
def BndR (_ : World) (c : List Value) (b : Int × Int) : Prop := c = [.int .i64 b.1, .int .i64 b.2]
def bndL (lo up : Nat → Int) (k : Nat) : List (Int × Int) := (List.range k).map fun i => (-lo i, up i)
theorem bndL_succ (lo up : Nat → Int) (k : Nat) : bndL lo up (k + 1) = bndL lo up k ++ [(-lo k, up k)] := by unfold bndL; rw [List.range_succ, List.map_append]; rfl
theorem bndL_len (lo up : Nat → Int) (k : Nat) : (bndL lo up k).length = k := by simp [bndL]
theorem infoBnd : (Tryz.prog.info? 42).map (fun i => (i.zero, i.size, i.bytes)) = some (some (.agg #[.int .i64 0, .int .i64 0]), 2, 16) := by kernel_rfl

def BdsE (s : Stp) (keys : List Int) (l : List Ent) (dr : Int) (w : World) (e : Ending) (w' : World) : Prop := Kept [] w w' ∧
  (((setupB s && inB dr 0 1000) = false ∧ e = .returned (.tuple #[.slice none 0 0, .int .i64 1])) ∨
   ((setupB s && inB dr 0 1000) = true ∧ ∃ o : List Ent, JoinIs (signedB s keys) l o ∧ o.length ≤ 12 ∧ (∀ x ∈ o, WF x) ∧ 0 ≤ dr ∧ dr ≤ 1000 ∧
     ((∃ v up lo, e = .returned (.tuple #[v, .int .i64 0]) ∧ Top (Gl o dr) (o.length + 1) o.length up ∧ Top (turn (Gl o dr)) (o.length + 1) o.length lo ∧ RowOf BndR 2 w' v (bndL lo up o.length)) ∨
      (e = .returned (.tuple #[.slice none 0 0, .int .i64 13]) ∧ ∀ t, ¬ Feas (Gl o dr) (o.length + 1) t))))

/-- the bounds under way -/
structure Bo (w wr : World) (l : List (Int × Int)) (X : List Nat) (v : Value) : Prop where
  gr : Grow BndR 2 42 w.heap.size X wr v l
  vX : ∀ z ∈ obl v, z ∈ X
  hX : ∀ z ∈ X, z < wr.heap.size
  kb : Kept [] w wr
theorem Bo.push {w wr wu : World} {l : List (Int × Int)} {X : List Nat} {v : Value} {b : Int × Int} {p : Option Addr} {q : Nat} (h : Bo w wr l X v) (k1 : Kept (obl v) wr wu)
    (G : Grow BndR 2 42 w.heap.size (X ++ obl (.slice p (l.length + 1) q)) wu (.slice p (l.length + 1) q) (l ++ [b])) : Bo w wu (l ++ [b]) (X ++ obl (.slice p (l.length + 1) q)) (.slice p (l.length + 1) q) :=
  ⟨G, fun z hz => List.mem_append_right _ hz, fun z hz => by
    rcases List.mem_append.1 hz with e | e
    · exact Nat.lt_of_lt_of_le (h.hX z e) k1.size
    · exact (G.ge z e).2, h.kb.fresh k1 (fun z hz => (h.gr.ge z hz).1)⟩

set_option maxRecDepth 100000 in
set_option maxHeartbeats 4000000 in
theorem bounds_any (vs vk va : Value) (s : Stp) (keys : List Int) (l : List Ent) (dr : Int) (w : World) (hs : StpV w vs s) (hk : Row w 1 vk keys.length (ints keys)) (ha : EntsV w va l) (hl : l.length ≤ 12) (hI : ∀ e ∈ l, EntI e) (hki : ∀ x ∈ keys, Wire.I64 x) (hE : Env2 w) :
    Calls Tryz.prog 10 #[vs, vk, va, .int .i64 dr] w (BdsE s keys l dr w) := by
  have hs' := hs
  obtain ⟨⟨ad, cc, rfl, hrow⟩, ip, iq, ig, ib, il⟩ := hs'
  obtain ⟨aa, ca, rfl, _, _⟩ := RowOf.form ha
  obtain ⟨ka, kc, rfl, _, _⟩ := hk.form
  obtain ⟨W, hW⟩ : ∃ W, w.alloc (.cells (stpA s (.slice ad s.bases.length cc)) 26) = W := ⟨_, rfl⟩
  have hb : Blk W w.heap.size 26 (stpA s (.slice ad s.bases.length cc)) := hW ▸ Blk.new _ _ _
  have hkW : Kept [] w W := hW ▸ (Kept.refl _ _).alloc _
  have TM : Hid (Calls Tryz.prog 25 #[.agg #[.int .i64 s.P, .int .i64 s.Q, .int .i64 s.G, .slice ad s.bases.length cc, .int .i64 s.blind], .slice ka keys.length kc, .slice aa l.length ca, .int .i64 dr] W (TmE s keys l dr W)) :=
    timed_any _ _ _ s keys l dr W (hs.kept hkW) (hk.kept hkW) (ha.kept hkW) hl hI hki (hE.kept0 hkW)
  have s0 : W.cell? ⟨w.heap.size, 0, none⟩ = some (.int .i64 s.P) := hb.cell 0
  have s1 : W.cell? ⟨w.heap.size, 1, none⟩ = some (.int .i64 s.Q) := hb.cell 1
  have s2 : W.cell? ⟨w.heap.size, 2, none⟩ = some (.int .i64 s.G) := hb.cell 2
  have s3 : W.cell? ⟨w.heap.size, 3, none⟩ = some (.slice ad s.bases.length cc) := hb.cell 3
  have s4 : W.cell? ⟨w.heap.size, 4, none⟩ = some (.int .i64 s.blind) := hb.cell 4
  have HW := Lib.hid hW
  have HKW := Lib.hid hkW
  obtain ⟨i0, hi, hz0, hz1, hz2⟩ := info_parts infoBnd
  unfold BdsE
  clear hW hb hrow hkW hs hk ha hki hE ib hI
  show Calls _ _ #[.agg #[.int .i64 s.P, .int .i64 s.Q, .int .i64 s.G, .slice ad s.bases.length cc, .int .i64 s.blind], _, _, _] _ _
  go_enter Tryz.func10, Tryz.ntmps10
  go_upto_region 1 with (fail)
  have hW' : w.alloc (.cells #[.int .i64 s.P, .int .i64 s.Q, .int .i64 s.G, .slice ad s.bases.length cc, .int .i64 s.blind] 26) = W := HW.out
  rw [hW']
  clear hW'
  go_wp2_with (go_at_call 25; with_reducible refine TM.out.mono ?_)
  rintro e w1 ⟨k1, ⟨hno, rfl⟩ | ⟨hyes, o, gb, hjo, hlo, hwf, hd0, hd1, rfl, hm⟩⟩
  · have HNO := Lib.hid hno
    have K1 := Lib.hid k1
    clear s0 s1 s2 s3 s4 hno k1
    go_wp2_with fail
    go_ret2
    exact ⟨HKW.out.trans K1.out, Or.inl ⟨HNO.out, rfl⟩⟩
  have HYES := Lib.hid hyes
  have K1 := Lib.hid (HKW.out.trans k1)
  have HJO := Lib.hid hjo
  have HWF := Lib.hid hwf
  have HD := Lib.hid (And.intro hd0 hd1)
  have HGB := Lib.hid (gl_bd o dr hd0 hd1 hwf)
  have HGO := Lib.hid (gl_out o dr)
  have HGI := Lib.hid (gl_in o dr)
  have hmm : MatV w1 (.slice (some ⟨gb, 0, none⟩) (o.length + 1) (o.length + 1)) (o.length + 1) (Gl o dr) := hm
  obtain ⟨G, hG⟩ : ∃ G, Gl o dr = G := ⟨_, rfl⟩
  have HGE := Lib.hid hG
  rw [hG] at hmm HGB HGO HGI
  obtain ⟨n, hn⟩ : ∃ n, o.length = n := ⟨_, rfl⟩
  have HN := Lib.hid hn
  rw [hn] at hmm HGB HGO HGI hlo ⊢
  have HM := Lib.hid hmm
  have F1 := Lib.hid (from_any _ (n + 1) n G w1 hmm (by omega) (by omega) HGB.out HGO.out)
  clear s0 s1 s2 s3 s4 hyes k1 hjo hwf hd0 hd1 hm hmm hG hn
  go_wp2_with (go_at_call 26; with_reducible refine F1.out.mono ?_)
  rintro e w2 ⟨k2, hf1⟩
  have TR := Lib.hid (turned_any _ (n + 1) G w2 (HM.out.kept k2) (by omega) (by omega))
  have HF1 := Lib.hid hf1
  rcases hf1 with ⟨ub, up, rfl, htop, hbd, hub, hgu⟩ | ⟨rfl, hnf⟩
  rotate_left
  · clear HF1
    have HNF := Lib.hid hnf
    have K2 := Lib.hid (K1.out.trans k2)
    clear hnf k2
    go_wp2_with (go_at_call 27; with_reducible refine TR.out.mono ?_)
    rintro e w3 ⟨vt, rfl, hmt, k3⟩
    have HMT := Lib.hid hmt
    obtain ⟨tb, tc, rt, ct, rfl, _, _⟩ := hmt
    have F2 := Lib.hid (from_any _ (n + 1) n (turn G) w3 HMT.out (by omega) (by omega) (turn_bd HGB.out) HGI.out)
    have K3 := Lib.hid (K2.out.trans k3)
    clear k3
    go_wp2_with (go_at_call 26; with_reducible refine F2.out.mono ?_)
    rintro e w4 ⟨k4, ⟨lb, lo, rfl, htop, _⟩ | ⟨rfl, _⟩⟩
    · exact absurd (feas_turn.1 htop.feas) (HNF.out _)
    · have K4 := Lib.hid (K3.out.trans k4)
      clear k4
      go_wp2_with fail
      go_ret2
      exact ⟨K4.out, Or.inr ⟨HYES.out, o, HJO.out, by rw [HN.out]; exact hlo, HWF.out, HD.out.1, HD.out.2, Or.inr ⟨rfl, by rw [HN.out, HGE.out]; exact HNF.out⟩⟩⟩
  have HTOP := Lib.hid htop
  have HGU := Lib.hid hgu
  have K2 := Lib.hid (K1.out.trans k2)
  clear HF1 hgu htop hbd hub k2
  go_wp2_with (go_at_call 27; with_reducible refine TR.out.mono ?_)
  rintro e w3 ⟨vt, rfl, hmt, k3⟩
  have HMT := Lib.hid hmt
  obtain ⟨tb, tc, rt, ct, rfl, _, _⟩ := hmt
  have F2 := Lib.hid (from_any _ (n + 1) n (turn G) w3 HMT.out (by omega) (by omega) (turn_bd HGB.out) HGI.out)
  have K3 := Lib.hid k3
  clear k3
  go_wp2_with (go_at_call 26; with_reducible refine F2.out.mono ?_)
  rintro e w4 ⟨k4, ⟨lb, lo, rfl, htop, hbd, _, hgl⟩ | ⟨rfl, hnf⟩⟩
  rotate_left
  · exact absurd (feas_turn.2 (by simpa using HTOP.out.feas)) (hnf fun v => -up v)
  have k24 := K3.out.trans k4
  have U : Hid (∀ (i : Nat), i < n → ∀ w', Kept [] w4 w' → w'.cell? ⟨ub, i, none⟩ = some (.int .i64 (up i))) := fun i hi => Kept.cellOf (Kept.cellOf (HGU.out.cell (by omega)) _ k24)
  have L : Hid (∀ (i : Nat), i < n → ∀ w', Kept [] w4 w' → w'.cell? ⟨lb, i, none⟩ = some (.int .i64 (lo i))) := fun i hi => Kept.cellOf (hgl.cell (by omega))
  have HB2 : Hid (∀ i, i < n → -1125899906842624 ≤ lo i ∧ lo i ≤ 1125899906842624) := fun i hi => by
    rcases hbd i (by omega) with h | h
    · have := htop.all i (by omega); omega
    · exact h
  have HTL := Lib.hid htop
  have K4 := Lib.hid (K2.out.trans k24)
  clear k4 k24 hgl hbd htop HGU HMT HM F1 F2 TR K3 HW
  have B0 : Hid (Bo w4 w4 (bndL lo up 0) [] (.slice none 0 0)) := ⟨Grow.nil_ _ _ _ _ _ _, (fun z hz => by have := obl_mem hz; cases this), by simp, Kept.refl _ _⟩
  go_wp2_with fail
  go_loopw [17, 18, 52] (fun vj _ vi wr => ∃ (k : Nat) (X : List Nat), k ≤ n ∧ vi = .int .i64 k ∧ Hid (Bo w4 wr (bndL lo up k) X vj)) (fun _ _ vi _ => n - (intOf vi).toNat)
  case atStart => exact ⟨0, [], by omega, rfl, B0⟩
  case round =>
    obtain ⟨k, X, hkl, rfl, HB⟩ := hrel
    obtain ⟨ja, jc, rfl⟩ := HB.out.gr.form (by decide)
    rw [bndL_len]
    by_cases hkn : k < n
    · have hkb := HB.out.kb
      have hge := HB.out.gr.ge
      rw [bndL_len] at hge
      have uk := U.out k hkn _ (Kept.refl _ _)
      have lk := L.out k hkn _ (Kept.refl _ _)
      have hu1 := World.block_lt_of_cell? _ _ uk
      have hl1 := World.block_lt_of_cell? _ _ lk
      have u0 : ∀ w', Kept (obl (.slice ja k jc)) wr w' → w'.cell? ⟨ub, k, none⟩ = some (.int .i64 (up k)) := fun w' kk => (kk.cell (p := ⟨ub, k, none⟩) (Nat.lt_of_lt_of_le hu1 hkb.size) (fun hm => by have := (hge _ hm).1; have hu2 : ub < w4.heap.size := hu1; exact absurd this (by simpa using hu2))).trans (U.out k hkn _ hkb)
      have l0 : ∀ w', Kept (obl (.slice ja k jc)) wr w' → w'.cell? ⟨lb, k, none⟩ = some (.int .i64 (lo k)) := fun w' kk => (kk.cell (p := ⟨lb, k, none⟩) (Nat.lt_of_lt_of_le hl1 hkb.size) (fun hm => by have := (hge _ hm).1; have hu2 : lb < w4.heap.size := hl1; exact absurd this (by simpa using hu2))).trans (L.out k hkn _ hkb)
      have hb2 := HB2.out k hkn
      have HS := Lib.hid (bndL_succ lo up k)
      have hle : Hid (w4.heap.size ≤ wr.heap.size) := HB.out.kb.size
      have hlen := bndL_len lo up k
      obtain ⟨x, hx⟩ : ∃ x, lo k = x := ⟨_, rfl⟩
      obtain ⟨y, hy⟩ : ∃ x, up k = x := ⟨_, rfl⟩
      rw [hx] at l0 hb2 HS
      rw [hy] at u0 HS
      have wx : IntKind.i64.wrap (-x) = -x := by rw [IntKind.wrap_i64]; omega
      obtain ⟨bl, hbl⟩ : ∃ bl, bndL lo up k = bl := ⟨_, rfl⟩
      rw [hbl] at HB HS hlen
      rw [hlen] at HB
      clear hx hy hb2 hbl hkb hge uk lk hu1 hl1
      go_upto_region 13 with (fail)
      have hk1 : k < n + 1 := by omega
      have hk2 : (0 : Int) ≤ (k : Int) := by omega
      have hk3 : (k : Int) < ((n + 1 : Nat) : Int) := by omega
      have hk4 : (k : Int) < (n : Int) + 1 := by omega
      go_region_held3 (fun w' => Kept (obl (.slice ja k jc)) wr w') (repeat (first | (with_reducible assumption) | (with_reducible exact Kept.refl _ _) | (with_reducible refine Kept.drew ?_) | (with_reducible refine Kept.alloc ?_ _) | (refine Kept.trans ?_ hgE)))
        (first
          | (refine step_append_grow rfl _ _ 32 rfl i0 (.agg #[.int .i64 0, .int .i64 0]) 16 Tryz.underlying32 hi hz0 hz1 hz2 rfl (by decide) (by decide) rfl (HB.out.gr.step (S := []) (X' := X) (by (repeat (first | (with_reducible assumption) | (with_reducible exact Kept.refl _ _) | (with_reducible refine Kept.drew ?_) | (with_reducible refine Kept.alloc ?_ _)))) (by simp) (by simp) (fun z hz => Or.inl hz)) _ [.int .i64 (-x), .int .i64 y] (-x, y) rfl (rowS rfl _ _ _ rfl) (fun _ _ _ _ => rfl) (by simp [Value.oneCell']) (by omega) (Nat.le_trans hle.out (Kept.size (S := []) (by (repeat (first | (with_reducible assumption) | (with_reducible exact Kept.refl _ _) | (with_reducible refine Kept.drew ?_) | (with_reducible refine Kept.alloc ?_ _)))))) HB.out.vX ?_; intro p9 q9 y9 G9 hgE t9)
          | fail)
      rename_i hHeld
      have HBN : Hid (Bo w4 y9 (bndL lo up (k + 1)) (X ++ obl (.slice p9 (k + 1) q9)) (.slice p9 (k + 1) q9)) := by
        rw [HS.out]
        have h := HB.out.push (p := p9) (q := q9) (b := (-x, y)) hHeld G9
        rw [hlen] at h
        exact h
      clear hHeld G9 hgE t9 u0 l0
      go_wp2_with fail
      go_roundw
      case rel => exact ⟨k + 1, _, by omega, by go_num, HBN⟩
      case measure => simp [intOf]; omega
    · obtain rfl : k = n := by omega
      have HRW : Hid (RowOf BndR 2 wr (.slice ja k jc) (bndL lo up k)) := by
        have h := HB.out.gr.row (by rw [bndL_len]; omega)
        rw [bndL_len] at h
        exact h
      have KE := Lib.hid (K4.out.trans HB.out.kb)
      go_wp2_with fail
      go_ret2
      refine ⟨KE.out, Or.inr ⟨HYES.out, o, HJO.out, by rw [HN.out]; exact hlo, HWF.out, HD.out.1, HD.out.2, Or.inl ⟨_, up, lo, rfl, ?_, ?_, ?_⟩⟩⟩
      · rw [HN.out, HGE.out]; exact HTOP.out
      · rw [HN.out, HGE.out]; exact HTL.out
      · rw [HN.out]; exact HRW.out
end Go.Proofs.YtcidfldeiklcjaaGreatDoor
