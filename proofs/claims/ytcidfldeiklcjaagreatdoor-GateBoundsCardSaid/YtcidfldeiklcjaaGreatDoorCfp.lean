/- Matrices of the call's own under way: the least weights of walks with one edge more. -/
import Derived.Test.YtcidfldeiklcjaaGreatDoorBds
import Derived.Test.YtcidfldeiklcjaaGreatDoorCyc
namespace Go.Proofs.YtcidfldeiklcjaaGreatDoor
open Go.RowKit Tm Bf

/-- a matrix whose first k rows are laid -/
structure PreM (w : World) (B gb n : Nat) (rb : Nat → Nat) (k : Nat) (M : Gf) : Prop where
  g : Blk w gb 24 (gC n rb k).toArray
  row : ∀ a, a < k → GutAt w (rb a) n (M a)
  inj : ∀ a b, a < k → b < k → rb a = rb b → a = b
  ne : ∀ a, a < k → rb a ≠ gb
  ge : ∀ a, a < k → B ≤ rb a
section
variable {w w' : World} {B gb n k : Nat} {rb : Nat → Nat} {M : Gf}
theorem PreM.kept (h : PreM w B gb n rb k M) (kk : Kept [] w w') : PreM w' B gb n rb k M :=
  ⟨h.g.kept kk (by simp), fun a ha => (h.row a ha).kept kk (by simp), h.inj, h.ne, h.ge⟩
theorem PreM.gcell (h : PreM w B gb n rb k M) {a : Nat} (ha : a < k) (hk : k ≤ n) : w.cell? ⟨gb, a, none⟩ = some (.slice (some ⟨rb a, 0, none⟩) n n) := by
  rw [h.g.cell a, List.getElem?_toArray, gC_get (by omega), if_pos ha]
theorem PreM.done (h : PreM w B gb n rb n M) : MatW w B gb n rb M :=
  ⟨h.row, fun _ ha => h.gcell ha (Nat.le_refl _), h.inj, h.ne, h.ge⟩
theorem PreM.congr {H : Gf} (h : PreM w B gb n rb k M) (e : ∀ a b, a < k → b < n → M a b = H a b) : PreM w B gb n rb k H :=
  ⟨h.g, fun a ha => by have := h.row a ha; unfold GutAt at this ⊢; rw [← outC_congr (e a · ha)]; exact this, h.inj, h.ne, h.ge⟩
theorem PreM.next {b : Nat} (h : PreM w B gb n rb k M) (hk : k < n) (hB : B ≤ w.heap.size) (hb : w.heap.size ≤ b) (k1 : Kept [] w w') (ho : GutAt w' b n fun _ => far) :
    PreM (w'.setCell ⟨gb, k, none⟩ (.slice (some ⟨b, 0, none⟩) n n)) B gb n (fun a => if a = k then b else rb a) (k + 1) (fun a => if a = k then fun _ => far else M a) := by
  have hgl := h.g.lt
  have hl : ∀ a, a < k → rb a < w.heap.size := fun a ha => (h.row a ha).lt
  refine ⟨?_, fun a ha => ?_, fun a c ha hc e => ?_, fun a ha => ?_, fun a ha => ?_⟩
  · have := (h.g.kept k1 (by simp)).set_ k (.slice (some ⟨b, 0, none⟩) n n)
    rw [gC_set hk] at this
    exact this
  · by_cases e : a = k
    · subst e
      simp only [if_true]
      exact Blk.far ho (p := ⟨gb, a, none⟩) (by simp; omega) _
    · simp only [if_neg e]
      exact Blk.far ((h.row a (by omega)).kept k1 (by simp)) (p := ⟨gb, k, none⟩) (h.ne a (by omega)) _
  · by_cases e1 : a = k <;> by_cases e2 : c = k
    · omega
    · simp only [if_pos e1, if_neg e2] at e; have := hl c (by omega); omega
    · simp only [if_neg e1, if_pos e2] at e; have := hl a (by omega); omega
    · simp only [if_neg e1, if_neg e2] at e; exact h.inj a c (by omega) (by omega) e
  · by_cases e : a = k
    · simp only [if_pos e]; omega
    · simp only [if_neg e]; exact h.ne a (by omega)
  · by_cases e : a = k
    · simp only [if_pos e]; omega
    · simp only [if_neg e]; exact h.ge a (by omega)
theorem PreM.set_ (h : PreM w B gb n rb k M) {a b : Nat} (ha : a < k) (hb : b < n) (x : Int) : PreM (w.setCell ⟨rb a, b, none⟩ (.int .i64 x)) B gb n rb k fun i j => if i = a ∧ j = b then x else M i j := by
  refine ⟨h.g.far (p := ⟨rb a, b, none⟩) (fun e => h.ne a ha e.symm) _, fun i hi => ?_, h.inj, h.ne, h.ge⟩
  by_cases e : i = a
  · subst e
    have := (h.row i hi).set_ hb x
    unfold GutAt at this ⊢
    rw [outC_congr (p := upd (M i) b x) (fun v _ => by simp [upd])]
    exact this
  · have h1 := h.row i hi
    have h2 : Blk w (rb i) 3 (outC n (M i)).toArray := h1
    have h3 := h2.far (p := ⟨rb a, b, none⟩) (fun e1 => e (h.inj i a hi ha e1)) (.int .i64 x)
    unfold GutAt
    rw [outC_congr (p := M i) (fun v _ => by simp [e])]
    exact h3
theorem PreM.start (h : Blk w gb 24 (List.replicate n (Value.slice none 0 0)).toArray) : PreM w B gb n (fun _ => 0) 0 M := by
  rw [gC_zero _ fun _ => 0] at h
  exact ⟨h, fun a ha => by omega, fun a b ha => by omega, fun a ha => by omega, fun a ha => by omega⟩
end
/-- a matrix that is done stays, whatever is written elsewhere -/
theorem MatW.stable {w : World} {B gb n : Nat} {rb : Nat → Nat} {M : Gf} {X : List Nat} (h : MatW w B gb n rb M) (hg : gb ∉ X) (hr : ∀ a, a < n → rb a ∉ X) : Stable X (fun w => GraR n w [.slice (some ⟨gb, 0, none⟩) n n] M) w := fun S w' k hS => by
  refine ⟨_, rfl, gb, n, rb, fun _ => n, rfl, Nat.le_refl _, fun a ha => ⟨Nat.le_refl _, ?_, fun b hb => ?_⟩⟩
  · have hgl := World.block_lt_of_cell? _ _ (h.gcell a ha)
    exact (k.cell (p := ⟨gb, a, none⟩) hgl (fun hm => hg (hS _ hm hgl))).trans (h.gcell a ha)
  · have hgl := (h.row a ha).lt
    exact ((h.row a ha).kept k (fun hm => hr a ha (hS _ hm hgl))).cell hb

/-! ### a row of least weights under way -/
def NRow (G : Gf) (n q : Nat) (M : Gf) (a m b : Nat) : Prop := ∀ j, j < n → NextP G n q a j (if j < b then m + 1 else m) (M a j)
/-- the next matrix under way: rows below a are done; in row a the nodes below m have been taken, for the columns below b m, too -/
structure NxW (w0 wr : World) (G : Gf) (n q gb : Nat) (rb : Nat → Nat) (M : Gf) (a m b : Nat) : Prop where
  pre : PreM wr w0.heap.size gb n rb (a + 1) M
  row : NRow G n q M a m b
  done : ∀ i, i < a → ∀ j, j < n → NextP G n q i j n (M i j)
  kept : Kept [] w0 wr
/-- between two rows -/
structure NxA (w0 wr : World) (G : Gf) (n q gb : Nat) (rb : Nat → Nat) (M : Gf) (a : Nat) : Prop where
  pre : PreM wr w0.heap.size gb n rb a M
  done : ∀ i, i < a → ∀ j, j < n → NextP G n q i j n (M i j)
  kept : Kept [] w0 wr
section
variable {w0 wr w' : World} {G : Gf} {n q gb : Nat} {rb : Nat → Nat} {M : Gf} {a m b : Nat} {P : Gf}
theorem NxW.drew (h : NxW w0 wr G n q gb rb M a m b) : NxW w0 wr.drew G n q gb rb M a m b := ⟨h.pre.kept (Kept.refl _ _).drew, h.row, h.done, h.kept.drew⟩
theorem NxW.skip (h : NxW w0 wr G n q gb rb M a m b) (hP : Back G n q P) (hm : m < n) (hb : b < n) (hs : far ≤ G a m ∨ far ≤ P m b) : NxW w0 wr G n q gb rb M a m (b + 1) :=
  ⟨h.pre, fun j hj => by
    have hr := h.row j hj
    by_cases e : j = b
    · subst e
      rw [if_neg (by omega)] at hr
      rw [if_pos (by omega)]
      exact next_skip hP hm hj hr hs
    · by_cases e2 : j < b
      · rw [if_pos e2] at hr; rw [if_pos (by omega)]; exact hr
      · rw [if_neg e2] at hr; rw [if_neg (by omega)]; exact hr, h.done, h.kept⟩
theorem NxW.take (h : NxW w0 wr G n q gb rb M a m b) (hP : Back G n q P) (ha : a < n) (hm : m < n) (hb : b < n) (h1 : G a m < far) (h2 : P m b < far) (hsum : G a m + P m b < far) {x : Int} (hx : x = min (M a b) (G a m + P m b)) :
    NxW w0 (wr.setCell ⟨rb a, b, none⟩ (.int .i64 x)) G n q gb rb (fun i j => if i = a ∧ j = b then x else M i j) a m (b + 1) :=
  ⟨h.pre.set_ (by omega) hb x, fun j hj => by
    have hr := h.row j hj
    simp only [true_and]
    by_cases e : j = b
    · subst e
      rw [if_neg (by omega)] at hr
      rw [if_pos (by omega), if_pos rfl, hx]
      exact next_take hP ha hm hj hr h1 h2 hsum
    · rw [if_neg e]
      by_cases e2 : j < b
      · rw [if_pos e2] at hr; rw [if_pos (by omega)]; exact hr
      · rw [if_neg e2] at hr; rw [if_neg (by omega)]; exact hr, fun i hi j hj => by
    rw [if_neg (by omega)]; exact h.done i hi j hj, h.kept.setCell (Or.inr (h.pre.ge a (by omega))) _⟩
theorem NxW.col (h : NxW w0 wr G n q gb rb M a m n) : NxW w0 wr G n q gb rb M a (m + 1) 0 :=
  ⟨h.pre, fun j hj => by have := h.row j hj; rw [if_pos hj] at this; simpa using this, h.done, h.kept⟩
theorem NxW.fin (h : NxW w0 wr G n q gb rb M a n 0) : NxA w0 wr G n q gb rb M (a + 1) :=
  ⟨h.pre, fun i hi j hj => by
    by_cases e : i = a
    · subst e; have := h.row j hj; simpa using this
    · exact h.done i (by omega) j hj, h.kept⟩
theorem NxA.go {b : Nat} (h : NxA w0 wr G n q gb rb M a) (ha : a < n) (hgb : w0.heap.size ≤ gb) (hb : wr.heap.size ≤ b) (k1 : Kept [] wr w') (ho : GutAt w' b n fun _ => far) :
    NxW w0 (w'.setCell ⟨gb, a, none⟩ (.slice (some ⟨b, 0, none⟩) n n)) G n q gb (fun i => if i = a then b else rb i) (fun i => if i = a then fun _ => far else M i) a 0 0 :=
  ⟨h.pre.next ha h.kept.size hb k1 ho, fun j hj => by simpa using next_start (g := G) (n := n) q a j, fun i hi j hj => by rw [if_neg (by omega)]; exact h.done i hi j hj, (h.kept.trans k1).setCell (Or.inr hgb) _⟩
theorem NxA.back (h : NxA w0 wr G n q gb rb M n) : Back G n (q + 1) M := next_done fun a b ha hb => h.done a ha b hb
end

/-- what the search for a cycle has found so far: least weights for walks with up to k edges, none of a closed walk negative -/
structure CfS (G : Gf) (n : Nat) (Ms : List Gf) : Prop where
  back : ∀ k (hk : k < Ms.length), Back G n k Ms[k]
  no : ∀ j x, 1 ≤ j → j < Ms.length → ¬ Neg G n j x
theorem cfS_one {G : Gf} {n : Nat} {M : Gf} (h : Back G n 0 M) : CfS G n [M] := by
  refine ⟨fun k hk => ?_, fun j x h1 h2 => by simp at h2; omega⟩
  have : k = 0 := by simpa using hk
  subst this
  exact h
theorem CfS.next {G : Gf} {n : Nat} {Ms : List Gf} {M : Gf} (h : CfS G n Ms) (hM : Back G n Ms.length M) : ∀ k (hk : k < (Ms ++ [M]).length), Back G n k (Ms ++ [M])[k] := fun k hk => by
  by_cases e : k < Ms.length
  · rw [List.getElem_append_left e]; exact h.back k e
  · have e2 : k = Ms.length := by simp at hk; omega
    subst e2
    rw [List.getElem_append_right (Nat.le_refl _)]
    simpa using hM
theorem CfS.go {G : Gf} {n : Nat} {Ms : List Gf} {M : Gf} (h : CfS G n Ms) (hM : Back G n Ms.length M) (hno : ∀ a, a < n → ¬ M a a < 0) : CfS G n (Ms ++ [M]) :=
  ⟨h.next hM, fun j x h1 h2 hn => by
    by_cases e : j < Ms.length
    · exact h.no j x h1 e hn
    · have e2 : j = Ms.length := by simp at h2; omega
      subst e2
      obtain ⟨l, hw, h3, h4⟩ := hn
      have hx : x < n := hw.lt _ (List.mem_of_mem_head? hw.head)
      exact hno x hx ((back_neg hM hx).2 ⟨l, hw, h3, h4⟩)⟩
theorem CfS.none {G : Gf} {n : Nat} {Ms : List Gf} (h : CfS G n Ms) (hl : Ms.length = n + 1) : IsConf G n [] :=
  Or.inl ⟨rfl, fun j x hj hn => by
    obtain ⟨i, y, h1, h2, h3⟩ := neg_small hj hn
    exact h.no i y h1 (by omega) h3⟩
theorem CfS.found {G : Gf} {n k first at_ : Nat} {Ms : List Gf} {o : List Nat} {sum : Int} (h : CfS G n Ms) (hk : Ms.length = k) (hp : Path G n k first o at_ sum 0) : IsConf G n o := by
  obtain ⟨h1, h2, h3, h4⟩ := path_end hp fun j x hj hlt => h.no j x hj (by omega)
  exact Or.inr ⟨h2, h3, fun j x hj hlt => h.no j x hj (by omega), fun d hd he => h4 d hd (by omega)⟩
end Go.Proofs.YtcidfldeiklcjaaGreatDoor
