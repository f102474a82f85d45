/- What the walk of show.Decode keeps; the append to a field as a law. -/
import Derived.Test.YtcidfldeiklcjaaGreatDoorPfI
import Derived.Test.YtcidfldeiklcjaaGreatDoorEnv
import Derived.Deep.RegionHeld3
import Derived.OrdersHeld
/- JOINED: PfJ Ord DeS -/
/- The statement of proof.Decode that appends to two lists: its two appends as laws. -/
namespace Go.Proofs.YtcidfldeiklcjaaGreatDoor
open Go.RowKit Tape

theorem rowN {Y : World} {n : Nat} (hn : Y.heap.size = n) (T : TypeId) (v : Value) : Row (Y.alloc (.cells #[v] T)) 1 (.slice (some ⟨n, 0, none⟩) 1 1) 1 [v] :=
  hn ▸ row_of_blk (Blk.new Y T #[v]) rfl (by omega)
theorem row_one_keep {U y : World} {S : List Nat} {n : Nat} {v : Value} (h : Row U 1 (.slice (some ⟨n, 0, none⟩) 1 1) 1 [v]) (k : Kept S U y) (hn : n ∉ S) : Row y 1 (.slice (some ⟨n, 0, none⟩) 1 1) 1 [v] := by
  obtain ⟨h1, h2, a, c, hv, hcc, hc⟩ := h
  refine ⟨h1, h2, a, c, hv, hcc, fun hp => ?_⟩
  injection hv with ha _ _
  subst ha
  obtain ⟨b, off, hb, hcell⟩ := hc hp
  injection hb with hb
  injection hb with hb ho
  subst hb ho
  refine ⟨n, 0, rfl, fun j u hj => ?_⟩
  have := hcell j u hj
  exact (k.cell (World.block_lt_of_cell? U _ this) hn).trans this

/-- behind the first append -/
structure After1 (wr u y : World) (B : Nat) (X : List Nat) (a1 : Option Addr) (n1 c1 : Nat) (p : Option Addr) (m q : Nat) (A : List (List Int)) (d : List Int) : Prop where
  ku : Kept [] wr u
  k : Kept (obl (.slice a1 n1 c1)) u y
  hm : m = n1 + 1
  G : Grow ListR 1 24 B (X ++ obl (.slice p m q)) y (.slice p m q) (A ++ [d])
  t : ∀ z ∈ obl (.slice p m q), z ∈ obl (.slice a1 n1 c1) ∨ z = u.heap.size
section
variable {w wr u y u2 : World} {b g po B : Nat} {X : List Nat} {a1 a2 p : Option Addr} {n1 c1 n2 c2 m q : Nat} {A : List (List Int)} {C : List (List (List Int))} {r : Tp} {d : List Int} {e : List (List Int)}
theorem After1.ks (h : After1 wr u y B X a1 n1 c1 p m q A d) : Kept (obl (.slice a1 n1 c1)) wr y := (h.ku.mono (by simp)).trans h.k
theorem After1.t' (h : After1 wr u y B X a1 n1 c1 p m q A d) : ∀ z ∈ obl (.slice p m q), z ∈ obl (.slice a1 n1 c1) ∨ wr.heap.size ≤ z := fun z hz => (h.t z hz).imp id fun e => by have := h.ku.size; omega

theorem step_a1 {ops : Array Oper} {o : Oper} {a : Act} {K : Act → World → Prop} {Q : Exit → Act → World → Prop} {E : Prop} (O : PfO w wr b g po B X a1 n1 c1 a2 n2 c2 A C r) (hgd : o.guard = none) (s x : Operand)
    (ho : o.op = .call { callee := .builtin .append, args := #[s, x], argTypes := #[55, 55] })
    (hs : a.eval s = .slice a1 n1 c1) (v : Value) (hx : a.eval x = v) (el : Value) (hrow : Row u 1 v 1 [el]) (ku : Kept [] wr u) (hR : Stable X (fun w => ListR w [el] d) wr) (h1 : el.oneCell' = true) (hn : A.length ≤ 1000000000)
    (h : ∀ p q y, After1 wr u y B X a1 n1 c1 p (A.length + 1) q A d → K (a.put o.dst (.slice p (A.length + 1) q)) y) :
    if Region.wanted o (yielded ops a.tmps) = true then Oper.wp Tryz.prog o a u K Q else E := by
  obtain ⟨i, hi, hz0, hz1, hz2⟩ := info_parts infoL
  have hle := O.le
  have := ku.size
  refine step_append_grow hgd s x 55 ho i (.slice none 0 0) 24 Tryz.underlying55 hi hz0 hz1 hz2 rfl (by decide) (by decide) hs (O.now1 ku) v [el] d hx hrow (hR.step ku (by simp) (fun z hz => Or.inl hz)) (by simpa using h1) hn (by omega) O.x1 ?_
  intro p q y G k t
  exact h p q y ⟨ku, k, by rw [O.e1], G, t⟩

theorem step_a2 {ops : Array Oper} {o : Oper} {a : Act} {K : Act → World → Prop} {Q : Exit → Act → World → Prop} {E : Prop} (O : PfO w wr b g po B X a1 n1 c1 a2 n2 c2 A C r) (H : After1 wr u y B X a1 n1 c1 p m q A d) (hgd : o.guard = none) (s x : Operand)
    (ho : o.op = .call { callee := .builtin .append, args := #[s, x], argTypes := #[131, 131] })
    (hs : a.eval s = .slice a2 n2 c2) (v : Value) (hx : a.eval x = v) (el : Value) (hrow : Row u2 1 v 1 [el]) (ku : Kept [] y u2) (hR : Stable X (fun w => ListsR w [el] e) wr) (h1 : el.oneCell' = true) (hn : C.length ≤ 1000000000)
    (h : ∀ p' q' y', Kept (obl (.slice a1 n1 c1) ++ obl (.slice a2 n2 c2)) wr y' → (∃ X', PfO w ((y'.setCell ⟨po, 0, none⟩ (.slice p m q)).setCell ⟨po, 1, none⟩ (.slice p' (C.length + 1) q')) b g po B X' p m q p' (C.length + 1) q' (A ++ [d]) (C ++ [e]) r) → K (a.put o.dst (.slice p' (C.length + 1) q')) y') :
    if Region.wanted o (yielded ops a.tmps) = true then Oper.wp Tryz.prog o a u2 K Q else E := by
  obtain ⟨i, hi, hz0, hz1, hz2⟩ := info_parts infoLL
  have hle := O.le
  have s1 := H.ku.size
  have s2 := H.k.size
  have s3 := ku.size
  have kk : Kept (obl (.slice a1 n1 c1)) wr u2 := H.ks.trans (ku.mono (by simp))
  refine step_append_grow hgd s x 131 ho i (.slice none 0 0) 24 Tryz.underlying131 hi hz0 hz1 hz2 rfl (by decide) (by decide) hs (O.later2 kk H.t') v [el] e hx hrow (hR.step kk (fun z hz _ => O.x1 z hz) fun z hz => ?_) (by simpa using h1) hn (by omega) (fun z hz => List.mem_append_left _ (O.x2 z hz)) ?_
  · rcases List.mem_append.1 hz with e | e
    · exact Or.inl e
    · rcases H.t' z e with e | e
      · exact Or.inl (O.x1 z e)
      · exact Or.inr e
  · intro p' q' y' G k t
    refine h p' q' y' ((H.ks.mono fun z _ hz => List.mem_append_left _ hz).trans ((ku.mono (by simp)).trans (k.mono fun z _ hz => List.mem_append_right _ hz))) (O.order12 H.ku H.k H.G H.t ku k G t H.hm (by rw [O.e2]))
end
end Go.Proofs.YtcidfldeiklcjaaGreatDoor
/- A region in whatever order, with a last part that waits for all the rest: ahead of that part S holds, and is not asked for behind. -/
namespace Go.Proofs.YtcidfldeiklcjaaGreatDoor
open Go.RowKit

section
variable {P : Program} {ops : Array Oper} {Q : Exit → Act → World → Prop} {md : Region.Mode} {S : World → Prop} {T : List Nat}

/-- none of the last part has come up -/
def Ahead (T : List Nat) (listed : Array Bool) : Prop := ∀ t ∈ T, listed.getD t true = false

def wpAnyT (P : Program) (md : Region.Mode) (ops : Array Oper) (Q : Exit → Act → World → Prop) (S : World → Prop) (T : List Nat) : Nat → Array Bool → Act → World → Prop
  | 0, listed, a, w => Region.ready md ops listed = [] ∧ Q .normal a w
  | fuel + 1, listed, a, w =>
    (Region.ready md ops listed = [] → Q .normal a w) ∧
    ∀ i ∈ Region.ready md ops listed, wpOp P ops Q i (fun a' w' => (Ahead T (listed.setIfInBounds i true) → S w') ∧ wpAnyT P md ops Q S T fuel (listed.setIfInBounds i true) a' w') a w

theorem wpAny_of_T : ∀ (fuel : Nat) (listed : Array Bool) (a : Act) (w : World), wpAnyT P md ops Q S T fuel listed a w → wpAny P md ops Q fuel listed a w
  | 0, _, _, _, h => h
  | fuel + 1, _, _, _, h => ⟨h.1, fun i hi => wpOp_mono (fun a' w' h' => wpAny_of_T fuel _ a' w' h'.2) (h.2 i hi)⟩

/-- no operation of D can come up ahead of i -/
def waits (md : Region.Mode) (ops : Array Oper) (i : Nat) (D : List Nat) : Bool :=
  D.all fun t => match ops[t]? with
    | some o => o.after.any fun e => Region.binds md e && ((e.on == i) || D.contains e.on)
    | none => false
theorem waits_spec {i : Nat} {D : List Nat} (h : waits md ops i D = true) : ∀ t ∈ D, ∃ o, ops[t]? = some o ∧ ∃ e ∈ o.after, Region.binds md e = true ∧ (e.on = i ∨ e.on ∈ D) := fun t ht => by
  have h1 := List.all_eq_true.1 h t ht
  cases ho : ops[t]? with
  | none => rw [ho] at h1; simp at h1
  | some o =>
    rw [ho] at h1
    simp only [Array.any_eq_true'] at h1
    obtain ⟨e, he, h2⟩ := h1
    rw [Bool.and_eq_true] at h2
    exact ⟨o, rfl, e, he, h2.1, by simpa using h2.2⟩

theorem wpAnyT_first {i : Nat} {oi : Oper} {v : Value} (hi : ops[i]? = some oi) (hsel : ∀ (j : Nat) (o : Oper) cs b, ops[j]? = some o → o.op ≠ .select cs b)
    (hQ : ∀ c a w, Q (.panic c) (a.put oi.dst v) w → Q (.panic c) a w) {D : List Nat} (hwt : ∀ t ∈ D, ∃ o, ops[t]? = some o ∧ ∃ e ∈ o.after, Region.binds md e = true ∧ (e.on = i ∨ e.on ∈ D)) (hiD : i ∉ D) (hTD : ∀ t ∈ T, t ∈ D) :
    ∀ (fuel : Nat) (listed : Array Bool) (a : Act) (w : World),
      (∀ j oj, ops[j]? = some oj → j ≠ i → listed.getD j true = false → (∀ e ∈ oj.after, Region.binds md e = true → e.on ≠ i) → oi.apart ops oj = true) →
      i ∈ Region.ready md ops listed → YieldsIf P ops S oi v a → S w → Ahead D listed →
      wpAnyT P md ops Q S T fuel (listed.setIfInBounds i true) (a.put oi.dst v) w → wpAnyT P md ops Q S T (fuel + 1) listed a w := by
  have stay : ∀ {listed : Array Bool} {j : Nat}, Ahead D listed → j ∉ D → Ahead D (listed.setIfInBounds j true) := fun {listed j} hA hj t ht => by
    rw [getD_set_ne true (fun e => hj (by subst e; exact ht))]
    exact hA t ht
  intro fuel
  induction fuel with
  | zero =>
    intro listed a w _ hr hy hS hA H
    refine ⟨fun h => (by rw [h] at hr; cases hr), fun j hj => ?_⟩
    by_cases hji : j = i
    · subst hji; exact hy.wpOp hi hS ⟨fun _ => hS, H⟩
    · have := ready_mono hj hji
      rw [H.1] at this
      cases this
  | succ fuel ih =>
    intro listed a w hfree hr hy hS hA H
    refine ⟨fun h => (by rw [h] at hr; cases hr), fun j hj => ?_⟩
    by_cases hji : j = i
    · subst hji; exact hy.wpOp hi hS ⟨fun _ => hS, H⟩
    · have h1 := H.2 j (ready_mono hj hji)
      obtain ⟨hjun, oj, hoj, hall⟩ := mem_ready.1 hj
      have hnot : ∀ e ∈ oj.after, Region.binds md e = true → e.on ≠ i := fun e he hb heq => by
        have h1 := hall e he hb
        have h0 := (mem_ready.1 hr).1
        rw [heq] at h1
        rcases Nat.lt_or_ge i listed.size with h' | h'
        · simp [h'] at h0 h1; rw [h0] at h1; cases h1
        · simp [Array.getElem?_eq_none h'] at h1
      have hjT : j ∉ D := fun hm => by
        obtain ⟨o, ho, e, he, hb, heq⟩ := hwt j hm
        rw [hoj] at ho
        injection ho with ho
        subst ho
        rcases heq with heq | heq
        · exact hnot e he hb heq
        · have h1 := hall e he hb
          have h2 := hA _ heq
          rcases Nat.lt_or_ge e.on listed.size with h' | h'
          · simp [h'] at h1 h2
            rw [h2] at h1
            cases h1
          · simp [Array.getElem?_eq_none h'] at h2
      have h2 := wpOp_putIf hoj (hfree j oj hoj hji hjun hnot) (fun cs b => hsel i oi cs b hi) (fun cs b => hsel j oj cs b hoj) hQ hy h1
      have hfree' : ∀ k ok, ops[k]? = some ok → k ≠ i → (listed.setIfInBounds j true).getD k true = false →
          (∀ e ∈ ok.after, Region.binds md e = true → e.on ≠ i) → oi.apart ops ok = true := fun k ok hk hki hun hno => by
        refine hfree k ok hk hki ?_ hno
        by_cases hjk : j = k
        · subst hjk; exact hjun
        · rw [getD_set_ne true hjk] at hun; exact hun
      have hA1 := stay hA hjT
      have hA2 : Ahead T ((listed.setIfInBounds i true).setIfInBounds j true) := fun t ht => stay (stay hA hiD) hjT t (hTD t ht)
      refine wpOp_mono (fun a' w' h3 => ⟨fun _ => h3.2.1 hA2, ih (listed.setIfInBounds j true) a' w' hfree' (ready_mono hr (Ne.symm hji)) h3.1 (h3.2.1 hA2) hA1 ?_⟩) h2
      rw [Array.setIfInBounds_comm _ _ hji]
      exact h3.2.2

theorem takeT (D : List Nat) {i : Nat} {d : Option Tmp} {op : Go.Op} {ty : TypeId} {pos : String} {after : Array Edge} {g : Option (Nat × Bool)}
    {v : Value} {fuel : Nat} {listed : Array Bool} {a : Act} {w : World} (hi : ops[i]? = some ⟨d, op, ty, pos, after, g⟩)
    (hs : Region.noSelect ops = true) (hf : Region.free md ops listed i = true) (hr : (Region.ready md ops listed).contains i = true) (hw : (waits md ops i D && !D.contains i && (D.all fun t => !listed.getD t true) && T.all D.contains) = true)
    (hQ : ∀ c a w, Q (.panic c) (a.put d v) w → Q (.panic c) a w) (hy : YieldsIf P ops S ⟨d, op, ty, pos, after, g⟩ v a) (hS : S w)
    (h : wpAnyT P md ops Q S T fuel (listed.setIfInBounds i true) (a.put d v) w) : wpAnyT P md ops Q S T (fuel + 1) listed a w := by
  rw [Bool.and_eq_true, Bool.and_eq_true, Bool.and_eq_true] at hw
  obtain ⟨⟨⟨h1, h2⟩, h3⟩, h4⟩ := hw
  exact wpAnyT_first hi (Region.noSelect_spec hs) hQ (waits_spec h1) (by simpa using h2) (fun t ht => by simpa using List.all_eq_true.1 h4 t ht) fuel listed a w (Region.free_spec hi hf) (by simpa using hr) hy hS (fun t ht => by simpa using List.all_eq_true.1 h3 t ht) h

def AllReadyT (P : Program) (md : Region.Mode) (ops : Array Oper) (Q : Exit → Act → World → Prop) (S : World → Prop) (T : List Nat) (fuel : Nat) (listed : Array Bool) (a : Act) (w : World) (rs : List Nat) : Prop :=
  ∀ i ∈ rs, wpOp P ops Q i (fun a' w' => (Ahead T (listed.setIfInBounds i true) → S w') ∧ wpAnyT P md ops Q S T fuel (listed.setIfInBounds i true) a' w') a w
theorem AllReadyT.nil {fuel : Nat} {listed : Array Bool} {a : Act} {w : World} : AllReadyT P md ops Q S T fuel listed a w [] := fun _ h => by cases h
/-- ahead of the last part -/
theorem AllReadyT.cons {fuel : Nat} {listed : Array Bool} {a : Act} {w : World} {i : Nat} {o : Oper} {rs : List Nat} (ho : ops[i]? = some o)
    (h : ∀ K' : Act → World → Prop, Shut (∀ a w, S w → (S w → wpAnyT P md ops Q S T fuel (listed.setIfInBounds i true) a w) → K' a w) → if Region.wanted o (yielded ops a.tmps) = true then Oper.wp P o a w K' Q else K' (a.put o.dst undef) w)
    (hs : AllReadyT P md ops Q S T fuel listed a w rs) : AllReadyT P md ops Q S T fuel listed a w (i :: rs) := fun j hj => by
  rcases List.mem_cons.1 hj with rfl | hj
  · exact wpOp_step ho (fun K' hK => h K' (fun a w hS hW => hK a w ⟨fun _ => hS, hW hS⟩))
  · exact hs j hj
/-- in the last part -/
theorem AllReadyT.last {fuel : Nat} {listed : Array Bool} {a : Act} {w : World} {i : Nat} {o : Oper} (ho : ops[i]? = some o) (hT : (T.any fun t => (listed.setIfInBounds i true).getD t true) = true)
    (h : ∀ K' : Act → World → Prop, Shut (∀ a w, wpAnyT P md ops Q S T fuel (listed.setIfInBounds i true) a w → K' a w) → if Region.wanted o (yielded ops a.tmps) = true then Oper.wp P o a w K' Q else K' (a.put o.dst undef) w) : AllReadyT P md ops Q S T fuel listed a w [i] := fun j hj => by
  rw [List.mem_singleton] at hj
  subst hj
  refine wpOp_step ho (fun K' hK => h K' (fun a w hW => hK a w ⟨fun hA => ?_, hW⟩))
  obtain ⟨t, ht, h1⟩ := List.any_eq_true.1 hT
  rw [hA t ht] at h1
  cases h1
theorem wpAnyT_ready {rs : List Nat} {fuel : Nat} {listed : Array Bool} {a : Act} {w : World} (hr : Region.ready md ops listed = rs) (hne : rs ≠ [])
    (h : AllReadyT P md ops Q S T fuel listed a w rs) : wpAnyT P md ops Q S T (fuel + 1) listed a w :=
  ⟨fun h0 => absurd (hr ▸ h0) hne, hr ▸ h⟩
theorem wpAnyT_done {listed : Array Bool} {a : Act} {w : World} (hr : Region.ready md ops listed = []) (h : Q .normal a w) :
    ∀ fuel, wpAnyT P md ops Q S T fuel listed a w
  | 0 => ⟨hr, h⟩
  | _ + 1 => ⟨fun _ => h, by rw [hr]; simp⟩
theorem wp_region_T {id : Nat} {a : Act} {w : World} (T : List Nat) (S : World → Prop) (hm : P.follows .mixedOrders = true) (hS : S w.drew)
    (h : S w.drew → wpAnyT P .any ops Q S T ops.size (Array.replicate ops.size false) a w.drew) : (Code.region id ops true).wp P Q a w :=
  wp_region_any hm (wpAny_of_T _ _ _ _ (h hS))
end
end Go.Proofs.YtcidfldeiklcjaaGreatDoor
namespace Go.Proofs.YtcidfldeiklcjaaGreatDoor
open Go.RowKit Tape

def zeros9 : Array Value := #[.slice none 0 0, .slice none 0 0, .slice none 0 0, .slice none 0 0, .slice none 0 0, .slice none 0 0, .slice none 0 0, .slice none 0 0, .slice none 0 0]

/-- the record under way in block po, its reader's state in block b; what is finished -/
structure De (w wr : World) (b g po : Nat) (X : List Nat) (Fin : World → Prop) (cs : Array Value) (r : Tp) : Prop where
  tp : TpAt 174 wr b g r
  bp : Blk wr po 135 cs
  fin : Stable X Fin wr
  bX : b ∈ X
  pX : po ∈ X
  qX : w.heap.size ∈ X
  hX : ∀ z ∈ X, z < wr.heap.size
  gl : g < wr.heap.size
  bp_ : b ≠ po
  gp : g ≠ po
  wb : w.heap.size < b
  wp : w.heap.size < po
  bq : Blk wr w.heap.size 135 zeros9
  k0 : Kept [] w wr
section
variable {w wr w2 : World} {b g po : Nat} {X X' S : List Nat} {Fin : World → Prop} {cs : Array Value} {r r' : Tp}
theorem De.bl (h : De w wr b g po X Fin cs r) : b < wr.heap.size := h.hX b h.bX
theorem De.pl (h : De w wr b g po X Fin cs r) : po < wr.heap.size := h.hX po h.pX
/-- a step that leaves the three blocks alone -/
theorem De.step (h : De w wr b g po X Fin cs r) (k : Kept S wr w2) (hb : b ∉ S) (hp : po ∉ S) (hg : g ∉ S) (hq : w.heap.size ∉ S) (h0 : ∀ z ∈ S, w.heap.size ≤ z) (hS : ∀ z ∈ S, z < wr.heap.size → z ∈ X) (hX' : ∀ z ∈ X', z ∈ X ∨ wr.heap.size ≤ z) (hlt : ∀ z ∈ X', z < w2.heap.size) (hXX : ∀ z ∈ X, z ∈ X') :
    De w w2 b g po X' Fin cs r :=
  ⟨h.tp.keep k hb hg, h.bp.kept k hp, h.fin.step k hS hX', hXX _ h.bX, hXX _ h.pX, hXX _ h.qX, hlt, Nat.lt_of_lt_of_le h.gl k.size, h.bp_, h.gp, h.wb, h.wp, h.bq.kept k hq, h.k0.fresh k h0⟩
/-- numbers are read -/
theorem De.read (h : De w wr b g po X Fin cs r) (k : Kept [b] wr w2) (tp : TpAt 174 w2 b g r') : De w w2 b g po X Fin cs r' := by
  have h1 := h.bp_
  have h2 := h.wb
  exact ⟨tp, h.bp.kept k (by simp; omega), h.fin.step k (fun z hz _ => by rw [List.mem_singleton] at hz; subst hz; exact h.bX) (fun z hz => Or.inl hz), h.bX, h.pX, h.qX, fun z hz => Nat.lt_of_lt_of_le (h.hX z hz) k.size, Nat.lt_of_lt_of_le h.gl k.size,
    h.bp_, h.gp, h.wb, h.wp, h.bq.kept k (by simp; omega), h.k0.fresh k (by simp; omega)⟩
/-- a field is stored -/
theorem De.store (h : De w wr b g po X Fin cs r) (f : Nat) (v : Value) : De w (wr.setCell ⟨po, f, none⟩ v) b g po X Fin (cs.setIfInBounds f v) r := by
  have h1 := h.bp_
  have h2 := h.gp
  have h3 := h.wp
  have k : Kept [po] wr (wr.setCell ⟨po, f, none⟩ v) := (Kept.refl _ _).setCell (by simp) _
  exact ⟨h.tp.keep k (by simp; omega) (by simp; omega), h.bp.set_ f v, h.fin.step k (fun z hz _ => by rw [List.mem_singleton] at hz; subst hz; exact h.pX) (fun z hz => Or.inl hz), h.bX, h.pX, h.qX,
    fun z hz => by have := h.hX z hz; simpa [World.setCell] using this, by have := h.gl; simpa [World.setCell] using this, h.bp_, h.gp, h.wb, h.wp, h.bq.kept k (by simp; omega), h.k0.setCell (Or.inr (Nat.le_of_lt h3)) _⟩
/-- more is finished -/
theorem De.more (h : De w wr b g po X Fin cs r) {Q : World → Prop} (hQ : Stable X Q wr) : De w wr b g po X (fun w => Fin w ∧ Q w) cs r :=
  ⟨h.tp, h.bp, h.fin.and hQ, h.bX, h.pX, h.qX, h.hX, h.gl, h.bp_, h.gp, h.wb, h.wp, h.bq, h.k0⟩
end

/-- a field grows -/
structure Dg {α : Type} (R : World → List Value → α → Prop) (m : Nat) (e : TypeId) (f : Nat) (w wr : World) (b g po B : Nat) (X : List Nat) (Fin : World → Prop) (cs : Array Value) (a : Option Addr) (n c : Nat) (l : List α) (r : Tp) : Prop where
  de : De w wr b g po X Fin (cs.setIfInBounds f (.slice a n c)) r
  gr : Grow R m e B X wr (.slice a n c) l
  nl : n = l.length
  vX : ∀ z ∈ obl (.slice a n c), z ∈ X
  lb : b < B
  lp : po < B
  lg : g < B
  lq : w.heap.size < B
  lB : B ≤ wr.heap.size
section
variable {α : Type} {R : World → List Value → α → Prop} {m : Nat} {e : TypeId} {f : Nat} {w wr w1 u : World} {b g po B : Nat} {X : List Nat} {Fin : World → Prop} {cs : Array Value} {a : Option Addr} {n c : Nat} {l : List α} {r r' : Tp}
theorem Dg.ge (h : Dg R m e f w wr b g po B X Fin cs a n c l r) : ∀ z ∈ obl (.slice a n c), B ≤ z ∧ z < wr.heap.size := h.gr.ge
theorem Dg.read (h : Dg R m e f w wr b g po B X Fin cs a n c l r) (k : Kept [b] wr w1) (tp : TpAt 174 w1 b g r') : Dg R m e f w w1 b g po B X Fin cs a n c l r' :=
  ⟨h.de.read k tp, h.gr.step k (fun z hz hm => by have := h.ge z hz; have := h.lb; rw [List.mem_singleton] at hm; omega) (fun z hz _ => by rw [List.mem_singleton] at hz; subst hz; exact h.de.bX) (fun z hz => Or.inl hz), h.nl, h.vX, h.lb, h.lp, h.lg, h.lq, Nat.le_trans h.lB k.size⟩
theorem Dg.cell (h : Dg R m e f w wr b g po B X Fin cs a n c l r) (hf : f < cs.size) : ∀ w', Kept (b :: obl (.slice a n c)) wr w' → w'.cell? ⟨po, f, none⟩ = some (.slice a n c) := fun w' k => by
  have h1 := h.de.bp_
  have h2 := h.lp
  rw [(h.de.bp.kept k (fun hm => by
    rcases List.mem_cons.1 hm with e | e
    · omega
    · have := h.ge _ e; omega)).cell f]
  simp [hf]
theorem Dg.frozen (h : Dg R m e f w wr b g po B X Fin cs a n c l r) : ∀ w', Kept (b :: obl (.slice a n c)) wr w' → w'.frozen? ⟨po, f, none⟩ = false := fun w' k => by
  have h1 := h.de.bp_
  have h2 := h.lp
  exact (h.de.bp.kept k (fun hm => by
    rcases List.mem_cons.1 hm with e | e
    · omega
    · have := h.ge _ e; omega)).frozen f
/-- the row of a struct, laid by a slice literal of one element -/
theorem rowS {Y : World} {k : Nat} (hk : Y.heap.size = k) (T : TypeId) (cs : List Value) (m : Nat) (hm : cs.length = m) : Row (Y.alloc (.cells cs.toArray T)) m (.slice (some ⟨k, 0, none⟩) 1 1) 1 cs :=
  hk ▸ row_of_blk (Blk.new Y T cs.toArray) (by omega) (by omega)

/-- one more behind the field: u is the world of the append, w1 that behind the call -/
theorem Dg.pushed {y : World} {p : Option Addr} {q : Nat} {d : α} (D : Dg R m e f w w1 b g po B X Fin cs a n c l r') (ku : Kept [] w1 u) (G : Grow R m e B (X ++ obl (.slice p (l.length + 1) q)) y (.slice p (l.length + 1) q) (l ++ [d])) (k : Kept (obl (.slice a n c)) u y)
    (t : ∀ z ∈ obl (.slice p (l.length + 1) q), z ∈ obl (.slice a n c) ∨ z = u.heap.size) :
    Kept (obl (.slice a n c)) w1 y ∧ ∃ X', Dg R m e f w (y.setCell ⟨po, f, none⟩ (.slice p (l.length + 1) q)) b g po B X' Fin cs p (l.length + 1) q (l ++ [d]) r' ∧ ∀ z ∈ X', z ∈ X ∨ w1.heap.size ≤ z := by
  have hle := D.lB
  have hsu := ku.size
  have hlb := D.lb
  have hlp := D.lp
  have hlg := D.lg
  have hlq := D.lq
  have hge := D.ge
  have kk : Kept (obl (.slice a n c)) w1 y := (ku.mono (by simp)).trans k
  have hsy := k.size
  have hXX : ∀ z ∈ X ++ obl (.slice p (l.length + 1) q), z ∈ X ∨ w1.heap.size ≤ z := fun z hz => by
    rcases List.mem_append.1 hz with e | e
    · exact Or.inl e
    · rcases t z e with e | e
      · exact Or.inl (D.vX z e)
      · exact Or.inr (by omega)
  refine ⟨kk, X ++ obl (.slice p (l.length + 1) q), ?_, hXX⟩
  have hlt : ∀ z ∈ X ++ obl (.slice p (l.length + 1) q), z < y.heap.size := fun z hz => by
    rcases List.mem_append.1 hz with e | e
    · have := D.de.hX z e; omega
    · exact (G.ge z e).2
  have D1 : De w y b g po (X ++ obl (.slice p (l.length + 1) q)) Fin (cs.setIfInBounds f (.slice a n c)) r' :=
    D.de.step kk (fun hm => by have := hge _ hm; omega) (fun hm => by have := hge _ hm; omega) (fun hm => by have := hge _ hm; omega) (fun hm => by have := hge _ hm; omega) (fun z hz => by have := hge z hz; omega) (fun z hz _ => D.vX z hz)
      hXX hlt (fun z hz => List.mem_append_left _ hz)
  have D2 := D1.store f (.slice p (l.length + 1) q)
  have hcs : (cs.setIfInBounds f (.slice a n c)).setIfInBounds f (.slice p (l.length + 1) q) = cs.setIfInBounds f (.slice p (l.length + 1) q) := by
    apply Array.ext_getElem?
    intro j
    simp only [Array.getElem?_setIfInBounds, Array.size_setIfInBounds]
    split <;> rfl
  rw [hcs] at D2
  have kp : Kept [po] y (y.setCell ⟨po, f, none⟩ (.slice p (l.length + 1) q)) := (Kept.refl _ _).setCell (by simp) _
  refine ⟨D2, G.step kp (fun z hz hm => by have := G.ge z hz; rw [List.mem_singleton] at hm; omega) (fun z hz _ => by rw [List.mem_singleton] at hz; subst hz; exact List.mem_append_left _ D.de.pX) (fun z hz => Or.inl hz), by simp, fun z hz => List.mem_append_right _ hz, hlb, hlp, hlg, hlq, ?_⟩
  have : (y.setCell ⟨po, f, none⟩ (.slice p (l.length + 1) q)).heap.size = y.heap.size := by simp [World.setCell]
  omega
theorem step_push {ops : Array Oper} {o : Oper} {ac : Act} {K : Act → World → Prop} {Q : Exit → Act → World → Prop} {E : Prop} (D : Dg R m e f w w1 b g po B X Fin cs a n c l r') (hgd : o.guard = none) (s x : Operand) (T : TypeId)
    (ho : o.op = .call { callee := .builtin .append, args := #[s, x], argTypes := #[T, T] }) (i : TypeInfo) (z : Value) (bytes : Nat) (ht : Tryz.prog.underlying T = some (.slice e)) (hi : Tryz.prog.info? e = some i) (hz : i.zero = some z)
    (hsize : i.size = m) (hby : i.bytes = bytes) (hzs : z.cells.size = m) (hsz : 0 < m) (hbs : bytes ≤ 128)
    (hs : ac.eval s = .slice a n c) (v : Value) (hx : ac.eval x = v) (el : List Value) (d : α) (hrow : Row u m v 1 el) (ku : Kept [] w1 u) (hR : Stable X (fun w => R w el d) w1) (h1 : ∀ u ∈ el, u.oneCell' = true) (hn : l.length ≤ 1000000000)
    (h : ∀ p q y, Kept (obl (.slice a n c)) w1 y → (∃ X', Dg R m e f w (y.setCell ⟨po, f, none⟩ (.slice p (l.length + 1) q)) b g po B X' Fin cs p (l.length + 1) q (l ++ [d]) r') → K (ac.put o.dst (.slice p (l.length + 1) q)) y) :
    if Region.wanted o (yielded ops ac.tmps) = true then Oper.wp Tryz.prog o ac u K Q else E := by
  have hle := D.lB
  have hsu := ku.size
  refine step_append_grow hgd s x T ho i z bytes ht hi hz hsize hby hzs hsz hbs hs (D.gr.step (X' := X) ku (by simp) (by simp) (fun z hz => Or.inl hz)) v el d hx hrow (hR.step ku (by simp) (fun z hz => Or.inl hz)) h1 hn (by omega) D.vX ?_
  intro p q y G k t
  obtain ⟨kk, X', hD, _⟩ := D.pushed ku G k t
  exact h p q y kk ⟨X', hD⟩
/-- the field is finished -/
theorem Dg.done (h : Dg R m e f w wr b g po B X Fin cs a n c l r) (hl : l.length ≤ 9223372036854775807) :
    ∃ X', De w wr b g po X' (fun w => Fin w ∧ RowOf R m w (.slice a n c) l) (cs.setIfInBounds f (.slice a n c)) r ∧ (∀ z ∈ X', z ∈ X) ∧ ∀ z ∈ obl (.slice a n c), z ∉ X' := by
  have hlb := h.lb
  have hlp := h.lp
  have hlq := h.lq
  have hge := h.ge
  let X' := X.filter fun z => !(obl (.slice a n c)).contains z
  have m1 : ∀ z, z ∈ X' → z ∈ X := fun z hz => (List.mem_filter.1 hz).1
  have m2 : ∀ z, z ∈ X → z ∉ obl (.slice a n c) → z ∈ X' := fun z hz hn => List.mem_filter.2 ⟨hz, by simpa using hn⟩
  have m3 : ∀ z ∈ obl (.slice a n c), z ∉ X' := fun z hz hm => by have := (List.mem_filter.1 hm).2; simp at this; exact this hz
  refine ⟨X', ?_, m1, m3⟩
  have d := h.de
  have fin2 : Stable X' (fun w => Fin w ∧ RowOf R m w (.slice a n c) l) wr := (d.fin.less (fun z hz => Or.inl (m1 z hz))).and (h.gr.done (fun z hz => Or.inl (m1 z hz)) m3 hl)
  exact ⟨d.tp, d.bp, fin2, m2 _ d.bX (fun hm => by have := hge _ hm; omega), m2 _ d.pX (fun hm => by have := hge _ hm; omega), m2 _ d.qX (fun hm => by have := hge _ hm; omega), fun z hz => d.hX z (m1 z hz), d.gl, d.bp_, d.gp, d.wb, d.wp, d.bq, d.k0⟩

/-- the rounds of a loop that fills a field -/
def GRel (R : World → List Value → α → Prop) (m : Nat) (e : TypeId) (f : Nat) (one : Tp → α × Tp) (w : World) (b g po B : Nat) (Fin : World → Prop) (cs : Array Value) (fin : List α × Tp) (N : Nat) (vi : Value) (wr : World) : Prop :=
  ∃ (k : Nat) (r : Tp) (acc : List α) (X : List Nat) (a : Option Addr) (n c : Nat), vi = .int .i64 acc.length ∧ acc.length + k = N ∧ times one k r acc = fin ∧ r.left.length ≤ 100000001 ∧ Dg R m e f w wr b g po B X Fin cs a n c acc r
theorem GRel.next {one : Tp → α × Tp} {fin : List α × Tp} {N k : Nat} {acc : List α} {d : α} {p : Option Addr} {q : Nat} {wf : World}
    (h : ∃ X', Dg R m e f w wf b g po B X' Fin cs p (acc.length + 1) q (acc ++ [d]) r) (hN : acc.length + (k + 1) = N) (hf : times one k r (acc ++ [d]) = fin) (hr : r.left.length ≤ 100000001) :
    GRel R m e f one w b g po B Fin cs fin N (.int .i64 ((acc.length : Int) + 1)) wf := by
  obtain ⟨X', D⟩ := h
  exact ⟨k, r, acc ++ [d], X', p, acc.length + 1, q, by simp, by simp; omega, hf, hr, D⟩
theorem Dg.start (D : De w wr b g po X Fin cs r) (hcs : cs.setIfInBounds f (.slice none 0 0) = cs) : Dg R m e f w wr b g po wr.heap.size X Fin cs none 0 0 [] r :=
  ⟨by rw [hcs]; exact D, Grow.nil_ _ _ _ _ _ _, rfl, by simp [obl, Value.ownBlock], D.bl, D.pl, D.gl, D.hX _ D.qX, Nat.le_refl _⟩
end
end Go.Proofs.YtcidfldeiklcjaaGreatDoor
