/- Cycles that are impossible: gate.Impossible. -/
import Derived.Test.YtcidfldeiklcjaaGreatDoorTm
import Derived.Test.YtcidfldeiklcjaaGreatDoorEnv
import Derived.Test.YtcidfldeiklcjaaGreatDoorBds
/- JOINED: Plb Imq Ans Imp -/
/- The law of bounds and cycles, plain: what greatest and least times satisfy; no closed walk of negative weight just if there are times. -/
namespace Go.Proofs.YtcidfldeiklcjaaGreatDoor.Bf

variable {g : Gf} {n s : Nat}

theorem feas_congr {t u : Nat → Int} (h : ∀ v, v < n → t v = u v) (hf : Feas g n t) : Feas g n u := fun a b ha hb he => by
  rw [← h a ha, ← h b hb]; exact hf a b ha hb he
theorem top_le {o t : Nat → Int} (h : Top g n s o) (hf : Feas g n t) (ht : t s = 0) : ∀ v, v < n → t v ≤ o v := fun _ hv => h.greatest hf ht hv
theorem low_le {o t : Nat → Int} (h : Top (turn g) n s o) (hf : Feas g n t) (ht : t s = 0) : ∀ v, v < n → -o v ≤ t v := fun v hv => by
  have h1 : Feas (turn g) n fun v => -t v := feas_turn.2 (by simpa using hf)
  have := h.greatest h1 (by simp [ht]) hv
  omega

/-- whole numbers that are bounded below have a least one -/
theorem least_int (P : Int → Prop) (B : Int) (hB : ∀ x, P x → B ≤ x) (hx : ∃ x, P x) : ∃ x, P x ∧ ∀ y, P y → x ≤ y := by
  obtain ⟨x, hx⟩ := hx
  obtain ⟨k, hk⟩ : ∃ k : Nat, x - B = k := ⟨(x - B).toNat, by have := hB x hx; omega⟩
  induction k using Nat.strongRecOn generalizing x with
  | _ k ih =>
    by_cases h : ∃ y, P y ∧ y < x
    · obtain ⟨y, hy, hlt⟩ := h
      have := hB y hy
      exact ih (y - B).toNat (by omega) y hy (by omega)
    · exact ⟨x, hx, fun y hy => Int.not_lt.1 fun hl => h ⟨y, hy, hl⟩⟩
theorem steps_lb (K : Int) (hK : ∀ a b, a < n → b < n → -K ≤ g a b) (hK0 : 0 ≤ K) : ∀ l : List Nat, (∀ x ∈ l, x < n) → -(K * l.length) ≤ wt g l
  | [], _ => by simp [wt]
  | [x], _ => by simp [wt]; exact hK0
  | x :: y :: l, h => by
    have ih := steps_lb K hK hK0 (y :: l) fun z hz => h z (List.mem_cons_of_mem _ hz)
    have h1 := hK x y (h x (by simp)) (h y (by simp))
    rw [wt]
    simp only [List.length_cons] at ih ⊢
    have e : K * ((l.length + 1 + 1 : Nat) : Int) = K * ((l.length + 1 : Nat) : Int) + K := by
      rw [show ((l.length + 1 + 1 : Nat) : Int) = ((l.length + 1 : Nat) : Int) + 1 by omega, Int.mul_add, Int.mul_one]
    rw [e]; omega
/-- where every node is reached and no closed walk has negative weight there are times that satisfy all edges -/
theorem feas_of_no_neg (hs : s < n) (hall : ∀ b, b < n → b ≠ s → g s b < far) (K : Int) (hK : ∀ a b, a < n → b < n → -K ≤ g a b) (hK0 : 0 ≤ K) (hno : ∀ j x, 1 ≤ j → ¬ Neg g n j x) : ∃ t, Feas g n t := by
  have hex : ∀ v, v < n → ∃ x, (∃ l, Walk g n s v l ∧ l.length ≤ n ∧ wt g l = x) ∧ ∀ y, (∃ l, Walk g n s v l ∧ l.length ≤ n ∧ wt g l = y) → x ≤ y := by
    intro v hv
    refine least_int _ (-(K * n)) ?_ ?_
    · rintro x ⟨l, h1, h2, rfl⟩
      have h3 := steps_lb K hK hK0 l h1.lt
      have h4 : K * (l.length : Int) ≤ K * (n : Int) := Int.mul_le_mul_of_nonneg_left (by omega) hK0
      omega
    · by_cases e : v = s
      · subst e
        exact ⟨_, [v], walk_nil hv, by simp; omega, rfl⟩
      · obtain ⟨h1, _⟩ := walk_snoc (walk_nil hs) hv (hall v hv e)
        exact ⟨_, _, h1, by simp; omega, rfl⟩
  have hch : ∃ t : Nat → Int, ∀ v, v < n → (∃ l, Walk g n s v l ∧ l.length ≤ n ∧ wt g l = t v) ∧ ∀ y, (∃ l, Walk g n s v l ∧ l.length ≤ n ∧ wt g l = y) → t v ≤ y := by
    refine ⟨fun v => if hv : v < n then Classical.choose (hex v hv) else 0, fun v hv => ?_⟩
    simp only [dif_pos hv]
    exact Classical.choose_spec (hex v hv)
  obtain ⟨t, ht⟩ := hch
  refine ⟨t, fun a b ha hb he => ?_⟩
  obtain ⟨⟨l, h1, h2, h3⟩, _⟩ := ht a ha
  obtain ⟨h4, h5⟩ := walk_snoc h1 hb he
  rcases shorten_or _ _ _ _ rfl h4 with ⟨m, h6, h7, h8⟩ | ⟨j, x, h6, _, h8⟩
  · have := (ht b hb).2 _ ⟨m, h7, h6, rfl⟩
    omega
  · exact absurd h8 (hno j x h6)
theorem neg_no_feas {j x : Nat} (h : Neg g n j x) (t : Nat → Int) : ¬ Feas g n t := fun hf => by
  obtain ⟨l, h1, _, h3⟩ := h
  have := walk_le hf _ _ _ h1
  omega

/-- what Conflict gives -/
def IsConf (g : Gf) (n : Nat) (c : List Nat) : Prop :=
  (c = [] ∧ ∀ j x, 1 ≤ j → ¬ Neg g n j x) ∨
  (NegCyc g n c ∧ c.Nodup ∧ (∀ j x, 1 ≤ j → j < c.length → ¬ Neg g n j x) ∧ ∀ d, NegCyc g n d → d.length = c.length → d = c ∨ ∃ p x y q r, c = p ++ x :: q ∧ d = p ++ y :: r ∧ x < y)
/-- what Impossible accepts -/
def Acc (g : Gf) (n : Nat) (c : List Nat) : Prop := NegCyc g n c ∧ c.Nodup
theorem conf_acc {c : List Nat} (h : IsConf g n c) : (c ≠ [] ↔ Acc g n c) := by
  constructor
  · intro hne
    rcases h with h | h
    · exact absurd h.1 hne
    · exact ⟨h.1, h.2.1⟩
  · rintro ⟨⟨a, t, rfl, _⟩, _⟩ e; cases e
theorem conf_feas {c : List Nat} (h : IsConf g n c) (hs : s < n) (hall : ∀ b, b < n → b ≠ s → g s b < far) (K : Int) (hK : ∀ a b, a < n → b < n → -K ≤ g a b) (hK0 : 0 ≤ K) : c ≠ [] ↔ ∀ t, ¬ Feas g n t := by
  constructor
  · intro hne t
    rcases h with h | h
    · exact absurd h.1 hne
    · obtain ⟨a, t', _, h3⟩ := negCyc_neg h.1
      exact neg_no_feas h3 t
  · intro ht e
    rcases h with h | h
    · obtain ⟨t, h2⟩ := feas_of_no_neg hs hall K hK hK0 h.2
      exact ht t h2
    · subst e
      obtain ⟨a, t', h3, _⟩ := h.1
      cases h3
/-- any other cycle has as many nodes at least, and if as many, comes after it -/
theorem conf_least {c d : List Nat} (h : IsConf g n c) (hd : Acc g n d) : c ≠ [] ∧ c.length ≤ d.length ∧ (d.length = c.length → d = c ∨ ∃ p x y q r, c = p ++ x :: q ∧ d = p ++ y :: r ∧ x < y) := by
  obtain ⟨a, t, hdl, h1⟩ := negCyc_neg hd.1
  rcases h with h | ⟨h2, _, h3, h4⟩
  · exact absurd h1 (h.2 _ _ (by rw [hdl]; simp))
  · obtain ⟨a', t', hc, _⟩ := h2
    refine ⟨by rw [hc]; simp, Nat.not_lt.1 fun hl => h3 _ _ (by rw [hdl]; simp) hl h1, h4 d hd.1⟩
/-- there is but one conflict -/
theorem conf_one {c d : List Nat} (h : IsConf g n c) (hd : NegCyc g n d) (hdn : d.Nodup) (hmin : ∀ j x, 1 ≤ j → j < d.length → ¬ Neg g n j x)
    (hl : ∀ b, NegCyc g n b → b.length = d.length → b = d ∨ ∃ p x y q r, d = p ++ x :: q ∧ b = p ++ y :: r ∧ x < y) : c = d := by
  obtain ⟨hne, hlen, hor⟩ := conf_least h ⟨hd, hdn⟩
  rcases h with h | ⟨h2, _, h3, h4⟩
  · exact absurd h.1 hne
  obtain ⟨a, t, hcl, h1⟩ := negCyc_neg h2
  have e : d.length = c.length := by
    have : ¬ c.length < d.length := fun hlt => hmin _ _ (by rw [hcl]; simp) hlt h1
    omega
  rcases hor e with h5 | ⟨p, x, y, q, r, e1, e2, hxy⟩
  · exact h5.symm
  · rcases hl c h2 e.symm with h6 | ⟨p', x', y', q', r', e3, e4, hxy'⟩
    · exact h6
    · exfalso
      rw [e1] at e4
      rw [e2] at e3
      have hd2 : ∀ (p p' q q' r r' : List Nat) (x y x' y' : Nat), p ++ x :: q = p' ++ y' :: r' → p ++ y :: r = p' ++ x' :: q' → x < y → x' < y' → False := by
        intro p
        induction p with
        | nil =>
          intro p' q q' r r' x y x' y' h1 h2 h3 h4
          cases p' with
          | nil => simp at h1 h2; omega
          | cons z p' => simp at h1 h2; omega
        | cons z p ih =>
          intro p' q q' r r' x y x' y' h1 h2 h3 h4
          cases p' with
          | nil => simp at h1 h2; omega
          | cons z' p' =>
            simp only [List.cons_append, List.cons.injEq] at h1 h2
            exact ih p' q q' r r' x y x' y' h1.2 h2.2 h3 h4
      exact hd2 p p' q q' r r' x y x' y' e4 e3 hxy hxy'
end Go.Proofs.YtcidfldeiklcjaaGreatDoor.Bf
namespace Go.Proofs.YtcidfldeiklcjaaGreatDoor.Tm
open Bf

def PossAll (l : List Ent) (dr : Int) (at_ : Nat → Int) : Prop := ∀ i, i < l.length → PossAt l dr at_ i
theorem tOf_end (l : List Ent) (at_ : Nat → Int) : tOf l at_ l.length = 0 := by unfold tOf; simp
theorem tOf_in (l : List Ent) (at_ : Nat → Int) {i : Nat} (h : i < l.length) : tOf l at_ i = at_ i := by unfold tOf; rw [if_neg (by omega)]
section
variable {l : List Ent} {dr : Int}
theorem poss_unsat (h0 : 0 ≤ dr) (h1 : dr ≤ 1000) (hw : ∀ x ∈ l, WF x) (h : ∀ t, ¬ Feas (gOf (edges l dr l.length)) (l.length + 1) t) (at_ : Nat → Int) : ¬ PossAll l dr at_ := fun hp =>
  h _ ((poss_iff l dr at_ h0 h1 hw).1 hp)
theorem poss_up (h0 : 0 ≤ dr) (h1 : dr ≤ 1000) (hw : ∀ x ∈ l, WF x) {up : Nat → Int} (h : Top (gOf (edges l dr l.length)) (l.length + 1) l.length up) {at_ : Nat → Int} (he : ∀ i, i < l.length → at_ i = up i) : PossAll l dr at_ :=
  (poss_iff l dr at_ h0 h1 hw).2 (feas_congr (fun v hv => by
    by_cases e : v = l.length
    · subst e; rw [tOf_end, h.is_zero (by omega)]
    · rw [tOf_in l at_ (by omega), he v (by omega)]) h.feas)
theorem poss_low (h0 : 0 ≤ dr) (h1 : dr ≤ 1000) (hw : ∀ x ∈ l, WF x) {lo : Nat → Int} (h : Top (turn (gOf (edges l dr l.length))) (l.length + 1) l.length lo) {at_ : Nat → Int} (he : ∀ i, i < l.length → at_ i = -lo i) : PossAll l dr at_ :=
  (poss_iff l dr at_ h0 h1 hw).2 (feas_congr (fun v hv => by
    by_cases e : v = l.length
    · subst e; rw [tOf_end, h.is_zero (by omega)]; rfl
    · rw [tOf_in l at_ (by omega), he v (by omega)]) (feas_turn.1 h.feas))
theorem poss_in (h0 : 0 ≤ dr) (h1 : dr ≤ 1000) (hw : ∀ x ∈ l, WF x) {up lo : Nat → Int} (hu : Top (gOf (edges l dr l.length)) (l.length + 1) l.length up) (hl : Top (turn (gOf (edges l dr l.length))) (l.length + 1) l.length lo)
    {at_ : Nat → Int} (hp : PossAll l dr at_) : ∀ i, i < l.length → -lo i ≤ at_ i ∧ at_ i ≤ up i := fun i hi => by
  have hf := (poss_iff l dr at_ h0 h1 hw).1 hp
  have a := top_le hu hf (tOf_end l at_) i (by omega)
  have b := low_le hl hf (tOf_end l at_) i (by omega)
  rw [tOf_in l at_ hi] at a b
  exact ⟨b, a⟩
end
end Go.Proofs.YtcidfldeiklcjaaGreatDoor.Tm
/- A list of nodes that is a closed walk of negative weight, told by its indices. Plain Lean. -/
namespace Go.Proofs.YtcidfldeiklcjaaGreatDoor.Bf

def sumTo (f : Nat → Int) : Nat → Int
  | 0 => 0
  | k + 1 => sumTo f k + f k
theorem sumTo_shift (f : Nat → Int) : ∀ k, sumTo f (k + 1) = f 0 + sumTo (fun j => f (j + 1)) k
  | 0 => by simp [sumTo]
  | k + 1 => by rw [sumTo, sumTo_shift f k, sumTo]; omega
theorem sumTo_congr {f h : Nat → Int} : ∀ k, (∀ j, j < k → f j = h j) → sumTo f k = sumTo h k
  | 0, _ => rfl
  | k + 1, e => by rw [sumTo, sumTo, sumTo_congr k fun j hj => e j (by omega), e k (by omega)]
variable {g : Gf} {n : Nat}
theorem wt_sum : ∀ l : List Nat, wt g l = sumTo (fun j => g (l.getD j 0) (l.getD (j + 1) 0)) (l.length - 1)
  | [] => rfl
  | [_] => rfl
  | a :: b :: l => by
    have ih := wt_sum (b :: l)
    rw [wt, ih]
    show _ = sumTo _ (l.length + 1)
    rw [sumTo_shift]
    rfl
theorem steps_all : ∀ l : List Nat, Steps g l ↔ ∀ j, j + 1 < l.length → g (l.getD j 0) (l.getD (j + 1) 0) < far
  | [] => by simp [Steps]
  | [_] => by simp [Steps]
  | a :: b :: l => by
    have ih := steps_all (b :: l)
    rw [Steps, ih]
    constructor
    · rintro ⟨h1, h2⟩ j hj
      cases j with
      | zero => exact h1
      | succ j => exact h2 j (by simpa using hj)
    · intro h
      exact ⟨h 0 (by simp), fun j hj => h (j + 1) (by simpa using hj)⟩
def natI (o : List Nat) : List Int := o.map fun x : Nat => (x : Int)
theorem natI_len (o : List Nat) : (natI o).length = o.length := by simp [natI]
theorem natI_snoc (o : List Nat) (b : Nat) : natI (o ++ [b]) = natI o ++ [(b : Int)] := by simp [natI]
theorem natI_get (o : List Nat) (j : Nat) : ((natI o).getD j 0).toNat = o.getD j 0 := by
  unfold natI
  rw [List.getD_eq_getElem?_getD, List.getD_eq_getElem?_getD, List.getElem?_map]
  cases o[j]? <;> rfl
/-- the weight of the step behind a place -/
def cw (g : Gf) (cyc : List Int) (j : Nat) : Int := g (cyc.getD j 0).toNat (cyc.getD ((j + 1) % cyc.length) 0).toNat
theorem round_get {c : List Nat} {a : Nat} {t : List Nat} (hc : c = a :: t) {j : Nat} (hj : j < c.length) : (c ++ [a]).getD j 0 = c.getD j 0 ∧ (c ++ [a]).getD (j + 1) 0 = c.getD ((j + 1) % c.length) 0 := by
  rw [List.getD_eq_getElem?_getD, List.getD_eq_getElem?_getD, List.getD_eq_getElem?_getD, List.getD_eq_getElem?_getD, List.getElem?_append_left hj]
  refine ⟨rfl, ?_⟩
  by_cases h : j + 1 < c.length
  · rw [List.getElem?_append_left h, Nat.mod_eq_of_lt h]
  · have e : j + 1 = c.length := by omega
    rw [e, Nat.mod_self, List.getElem?_append_right (Nat.le_refl _)]
    subst hc
    simp
theorem acc_iff (cyc : List Int) : (∃ c, cyc = natI c ∧ Acc g n c) ↔ 0 < cyc.length ∧ (∀ j, j < cyc.length → 0 ≤ cyc.getD j 0 ∧ cyc.getD j 0 < n) ∧ cyc.Nodup ∧ (∀ j, j < cyc.length → cw g cyc j < far) ∧ sumTo (cw g cyc) cyc.length < 0 := by
  have key : ∀ c : List Nat, ∀ a t, c = a :: t → wt g (c ++ [a]) = sumTo (cw g (natI c)) c.length ∧ (Steps g (c ++ [a]) ↔ ∀ j, j < c.length → cw g (natI c) j < far) := by
    intro c a t hc
    have e : ∀ j, j < c.length → g ((c ++ [a]).getD j 0) ((c ++ [a]).getD (j + 1) 0) = cw g (natI c) j := fun j hj => by
      obtain ⟨h1, h2⟩ := round_get hc hj
      unfold cw
      rw [h1, h2, natI_get, natI_len, natI_get]
    refine ⟨?_, ?_⟩
    · rw [wt_sum, show (c ++ [a]).length - 1 = c.length by simp]
      exact sumTo_congr _ e
    · rw [steps_all]
      constructor
      · intro h j hj
        rw [← e j hj]; exact h j (by simp; omega)
      · intro h j hj
        have hj' : j < c.length := by simpa using hj
        rw [e j hj']; exact h j hj'
  constructor
  · rintro ⟨c, rfl, ⟨a, t, hc, hw, hneg⟩, hnd⟩
    obtain ⟨k1, k2⟩ := key c a t hc
    rw [natI_len]
    refine ⟨by rw [hc]; simp, fun j hj => ?_, ?_, k2.1 hw.steps, by rw [← k1]; exact hneg⟩
    · have h1 : c[j] < n := hw.lt _ (List.mem_append_left _ (List.getElem_mem hj))
      unfold natI
      rw [List.getD_eq_getElem?_getD, List.getElem?_map, List.getElem?_eq_getElem hj]
      simp
      exact h1
    · unfold natI
      unfold List.Nodup at hnd ⊢
      rw [List.pairwise_map]
      exact hnd.imp fun h e => h (by have e' : ((_ : Nat) : Int) = ((_ : Nat) : Int) := e; exact Int.ofNat.inj e')
  · rintro ⟨h1, h2, h3, h4, h5⟩
    have e : cyc = natI (cyc.map Int.toNat) := by
      unfold natI
      rw [List.map_map]
      apply List.ext_getElem
      · simp
      · intro i hi hi2
        have := h2 i hi
        rw [List.getD_eq_getElem?_getD, List.getElem?_eq_getElem hi] at this
        simp at this ⊢
        omega
    obtain ⟨c, hcq⟩ : ∃ c, cyc.map Int.toNat = c := ⟨_, rfl⟩
    rw [hcq] at e
    subst e
    refine ⟨c, rfl, ?_, ?_⟩
    · rw [natI_len] at h1 h2 h4 h5
      match c, h1, h2, h4, h5 with
      | a :: t, h1, h2, h4, h5 =>
        obtain ⟨k1, k2⟩ := key (a :: t) a t rfl
        refine ⟨a, t, rfl, ⟨rfl, by rw [List.getLast?_append]; simp, fun x hx => ?_, k2.2 h4⟩, by rw [k1]; exact h5⟩
        have hm : x ∈ a :: t := by
          rcases List.mem_append.1 hx with hx | hx
          · exact hx
          · rw [List.mem_singleton.1 hx]; exact List.mem_cons_self
        obtain ⟨i, hi, rfl⟩ := List.getElem_of_mem hm
        have := h2 i hi
        unfold natI at this
        rw [List.getD_eq_getElem?_getD, List.getElem?_map, List.getElem?_eq_getElem hi] at this
        simp at this
        exact this
    · unfold natI at h3
      unfold List.Nodup at h3 ⊢
      rw [List.pairwise_map] at h3
      exact h3.imp fun h e => h (congrArg (fun x : Nat => (x : Int)) e)
end Go.Proofs.YtcidfldeiklcjaaGreatDoor.Bf
/- An answer that is yes just if something holds. -/
namespace Go.Proofs.YtcidfldeiklcjaaGreatDoor
open Go.RowKit

def AnsB (P : Prop) (w : World) (e : Ending) (w' : World) : Prop := Kept [] w w' ∧ ∃ b, e = .returned (.bool b) ∧ (b = true ↔ P)
section
variable {P Q : Prop} {w w' : World}
theorem AnsB.no (k : Kept [] w w') (h : ¬ P) : AnsB P w (.returned (.bool false)) w' := ⟨k, false, rfl, ⟨fun h => (by cases h), fun hp => absurd hp h⟩⟩
theorem AnsB.yes (k : Kept [] w w') (h : P) : AnsB P w (.returned (.bool true)) w' := ⟨k, true, rfl, ⟨fun _ => h, fun _ => rfl⟩⟩
theorem AnsB.of {b : Bool} (k : Kept [] w w') (h : b = true ↔ P) : AnsB P w (.returned (.bool b)) w' := ⟨k, b, rfl, h⟩
end
end Go.Proofs.YtcidfldeiklcjaaGreatDoor
namespace Go.Proofs.YtcidfldeiklcjaaGreatDoor
open Go.RowKit Tm Bf

/-- what Impossible answers -/
def ImpP (s : Stp) (keys : List Int) (l : List Ent) (dr : Int) (cyc : List Int) : Prop :=
  (setupB s && inB dr 0 1000) = true ∧ ∃ o, JoinIs (signedB s keys) l o ∧ ∃ c, cyc = natI c ∧ Acc (Gl o dr) (o.length + 1) c
/-- the same, told by indices -/
def ImpR (G : Gf) (n : Nat) (cyc : List Int) : Prop := 0 < cyc.length ∧ (∀ j, j < cyc.length → 0 ≤ cyc.getD j 0 ∧ cyc.getD j 0 < ((n + 1 : Nat) : Int)) ∧ cyc.Nodup ∧ (∀ j, j < cyc.length → cw G cyc j < far) ∧ sumTo (cw G cyc) cyc.length < 0
theorem imp_iff {s : Stp} {keys : List Int} {l o : List Ent} {dr : Int} (cyc : List Int) (h : (setupB s && inB dr 0 1000) = true) (hj : JoinIs (signedB s keys) l o) : ImpP s keys l dr cyc ↔ ImpR (Gl o dr) o.length cyc := by
  unfold ImpR
  rw [← acc_iff]
  constructor
  · rintro ⟨_, o', h1, h2⟩
    rw [join_one h1 hj] at h2
    exact h2
  · exact fun h2 => ⟨h, o, hj, h2⟩

set_option maxRecDepth 100000 in
set_option maxHeartbeats 4000000 in
theorem impossible_any (vs vk va vc : Value) (s : Stp) (keys : List Int) (l : List Ent) (dr : Int) (cyc : List Int) (w : World) (hs : StpV w vs s) (hk : Row w 1 vk keys.length (ints keys)) (ha : EntsV w va l) (hl : l.length ≤ 12) (hI : ∀ e ∈ l, EntI e) (hki : ∀ x ∈ keys, Wire.I64 x)
    (hc : Row w 1 vc cyc.length (ints cyc)) (hcl : cyc.length ≤ 100) (hci : ∀ x ∈ cyc, Wire.I64 x) (hE : Env2 w) :
    Calls Tryz.prog 15 #[vs, vk, va, .int .i64 dr, vc] w (AnsB (ImpP s keys l dr cyc) w) := by
  have hs' := hs
  obtain ⟨⟨ad, cc, rfl, hrow⟩, ip, iq, ig, ib, il⟩ := hs'
  obtain ⟨aa, ca, rfl, _, _⟩ := RowOf.form ha
  obtain ⟨ka, kc, rfl, _, _⟩ := hk.form
  obtain ⟨ya, yc, rfl, _, hyc⟩ := hc.form
  obtain ⟨W, hW⟩ : ∃ W, w.alloc (.cells (stpA s (.slice ad s.bases.length cc)) 26) = W := ⟨_, rfl⟩
  have hb : Blk W w.heap.size 26 (stpA s (.slice ad s.bases.length cc)) := hW ▸ Blk.new _ _ _
  have hkW : Kept [] w W := hW ▸ (Kept.refl _ _).alloc _
  have TM : Hid (Calls Tryz.prog 25 #[.agg #[.int .i64 s.P, .int .i64 s.Q, .int .i64 s.G, .slice ad s.bases.length cc, .int .i64 s.blind], .slice ka keys.length kc, .slice aa l.length ca, .int .i64 dr] W (TmE s keys l dr W)) :=
    timed_any _ _ _ s keys l dr W (hs.kept hkW) (hk.kept hkW) (ha.kept hkW) hl hI hki (hE.kept0 hkW)
  have s0 : W.cell? ⟨w.heap.size, 0, none⟩ = some (.int .i64 s.P) := hb.cell 0
  have s1 : W.cell? ⟨w.heap.size, 1, none⟩ = some (.int .i64 s.Q) := hb.cell 1
  have s2 : W.cell? ⟨w.heap.size, 2, none⟩ = some (.int .i64 s.G) := hb.cell 2
  have s3 : W.cell? ⟨w.heap.size, 3, none⟩ = some (.slice ad s.bases.length cc) := hb.cell 3
  have s4 : W.cell? ⟨w.heap.size, 4, none⟩ = some (.int .i64 s.blind) := hb.cell 4
  have HW := Lib.hid hW
  have HKW := Lib.hid hkW
  have HY := Lib.hid (hc.kept hkW)
  have HCI := Lib.hid hci
  clear hW hb hrow hkW hs hk ha hki hE ib hI hc hci
  show Calls _ _ #[.agg #[.int .i64 s.P, .int .i64 s.Q, .int .i64 s.G, .slice ad s.bases.length cc, .int .i64 s.blind], _, _, _, _] _ _
  go_enter Tryz.func15, Tryz.ntmps15
  go_upto_region 1 with (fail)
  have hW' : w.alloc (.cells #[.int .i64 s.P, .int .i64 s.Q, .int .i64 s.G, .slice ad s.bases.length cc, .int .i64 s.blind] 26) = W := HW.out
  rw [hW']
  clear hW'
  go_wp2_with (go_at_call 25; with_reducible refine TM.out.mono ?_)
  rintro e w1 ⟨k1, ⟨hno, rfl⟩ | ⟨hyes, o, gb, hjo, hlo, hwf, hd0, hd1, rfl, hm⟩⟩
  · have HNO : Hid (¬ ImpP s keys l dr cyc) := fun h => by rw [h.1] at hno; cases hno
    have K1 := Lib.hid k1
    clear s0 s1 s2 s3 s4 hno k1
    go_wp2_with fail
    go_ret
    exact AnsB.no (HKW.out.trans K1.out) HNO.out
  have HIM := Lib.hid (imp_iff cyc hyes hjo)
  have K1 := Lib.hid (HKW.out.trans k1)
  have HGB := Lib.hid (gl_bd o dr hd0 hd1 hwf)
  have hmm : MatV w1 (.slice (some ⟨gb, 0, none⟩) (o.length + 1) (o.length + 1)) (o.length + 1) (Gl o dr) := hm
  have HY1 := Lib.hid (HY.out.kept k1)
  obtain ⟨G, hG⟩ : ∃ G, Gl o dr = G := ⟨_, rfl⟩
  rw [hG] at hmm HGB HIM
  obtain ⟨n, hn⟩ : ∃ n, o.length = n := ⟨_, rfl⟩
  rw [hn] at hmm HGB HIM hlo ⊢
  obtain ⟨gb', gc', rb, cp, hgv, hgc, hmc⟩ := hmm
  injection hgv with h1 _ h3
  injection h1 with h1
  injection h1 with h1
  subst h1 h3
  have HM := Lib.hid hmc
  obtain ⟨P, hP⟩ : ∃ P, ImpP s keys l dr cyc = P := ⟨_, rfl⟩
  rw [hP] at HIM
  have HPQ := Lib.hid hP
  obtain ⟨L, hL⟩ : ∃ L, cyc.length = L := ⟨_, rfl⟩
  have HLL := Lib.hid hL
  rw [hL] at hyc hcl HY1 ⊢
  clear s0 s1 s2 s3 s4 hyes k1 hjo hwf hd0 hd1 hm hmc hG hn TM HY hP hL
  have hn1 : ((n + 1 : Nat) : Int) - 1 = (n : Int) := by omega
  go_wp2_with fail
  go_loopw [13, 14, 15, 16, 29] (fun vsum _ _ _ vi wr => ∃ k : Nat, k ≤ L ∧ vi = .int .i64 k ∧ vsum = .int .i64 (sumTo (cw G cyc) k) ∧ Hid (∀ j, j < k → 0 ≤ cyc.getD j 0 ∧ cyc.getD j 0 < ((n + 1 : Nat) : Int)) ∧ Hid ((cyc.take k).Nodup) ∧ Hid (∀ j, j < k → cw G cyc j < far) ∧ -(8589934592 * (k : Int)) ≤ sumTo (cw G cyc) k ∧ sumTo (cw G cyc) k ≤ 8589934592 * (k : Int) ∧ Hid (Kept [] w1 wr)) (fun _ _ _ _ vi _ => L - (intOf vi).toNat)
  case atStart => exact ⟨0, by omega, rfl, rfl, fun j hj => by omega, by simp [Hid], fun j hj => by omega, by simp [sumTo], by simp [sumTo], Kept.refl _ _⟩
  case round =>
    obtain ⟨k, hkl, rfl, rfl, HA, HN, HF, hs0, hs1, HK⟩ := hrel
    obtain ⟨S, hS⟩ : ∃ S, sumTo (cw G cyc) k = S := ⟨_, rfl⟩
    rw [hS] at hs0 hs1 ⊢
    have HSS := Lib.hid hS
    clear hS
    by_cases hkn : k < L
    · have hkc : k < cyc.length := by have := HLL.out; omega
      obtain ⟨yb, yo, rfl, hcell⟩ := (HY1.out.kept HK.out).at_ (by omega)
      have hxk := hcell k _ (ints_get hkc)
      obtain ⟨m, hm⟩ : ∃ m, (k + 1) % L = m := ⟨_, rfl⟩
      have hmL : m < L := by rw [← hm]; exact Nat.mod_lt _ (by omega)
      have hmc : m < cyc.length := by have := HLL.out; omega
      have hyk := hcell m _ (ints_get hmc)
      have hrem : ((k : Int) + 1) % (L : Int) = (m : Int) := by rw [← hm]; simp
      have hremt : Int.tmod ((k : Int) + 1) (L : Int) = (m : Int) := by rw [Int.tmod_eq_emod_of_nonneg (by omega)]; exact hrem
      have hgk : cyc.getD k 0 = cyc[k] := by rw [List.getD_eq_getElem?_getD, List.getElem?_eq_getElem hkc]; rfl
      have hgm : cyc.getD m 0 = cyc[m] := by rw [List.getD_eq_getElem?_getD, List.getElem?_eq_getElem hmc]; rfl
      have HX : Hid (cyc.getD k 0 = cyc[k] ∧ cyc.getD ((k + 1) % cyc.length) 0 = cyc[m]) := ⟨hgk, by rw [HLL.out, hm]; exact hgm⟩
      have HMM : Hid (∃ j, j < cyc.length ∧ cyc.getD j 0 = cyc[m]) := ⟨m, hmc, hgm⟩
      have CT : Hid (∀ w2 c2, Kept [] wr w2 → Calls Tryz.prog 38 #[.slice (some ⟨yb, yo, none⟩) k c2, .int .i64 cyc[k]] w2 fun e w3 => e = .returned (.bool (decide (cyc[k] ∈ cyc.take k))) ∧ w2 = w3) := fun w2 c2 k2 =>
        contains_row yb yo k c2 cyc k cyc[k] w2 (by omega) (by have := HLL.out; omega) (fun j u hu => Kept.cellOf (hcell j u hu) _ k2) rfl
      have HTK : Hid (cyc.take (k + 1) = cyc.take k ++ [cyc[k]]) := List.take_succ_eq_append_getElem hkc
      obtain ⟨x, hx⟩ : ∃ x, cyc[k] = x := ⟨_, rfl⟩
      obtain ⟨y, hy⟩ : ∃ y, cyc[m] = y := ⟨_, rfl⟩
      rw [hx] at hxk HX CT HTK
      rw [hy] at hyk HX HMM
      clear hcell hm hgk hgm hx hy hmc hrem
      have WX : Hid (∀ w', Calls Tryz.prog 37 #[.int .i64 x, .int .i64 0, .int .i64 (n : Int)] w' fun e w2 => e = .returned (.bool (inB x 0 n)) ∧ w' = w2) := fun w' => within_any x 0 n w'
      have WY : Hid (∀ w', Calls Tryz.prog 37 #[.int .i64 y, .int .i64 0, .int .i64 (n : Int)] w' fun e w2 => e = .returned (.bool (inB y 0 n)) ∧ w' = w2) := fun w' => within_any y 0 n w'
      obtain ⟨t1, ht1⟩ : ∃ t, inB x 0 n = t := ⟨_, rfl⟩
      obtain ⟨t2, ht2⟩ : ∃ t, inB y 0 n = t := ⟨_, rfl⟩
      rw [ht1] at WX
      rw [ht2] at WY
      have NO1 : Hid (t1 = false → ¬ P) := fun h hp => by
        have h1 := (HIM.out.1 hp).2.1 k hkc
        rw [HX.out.1] at h1
        have h2 : inB x 0 n = true := (inB_iff _ _ _).2 ⟨h1.1, by omega⟩
        rw [ht1, h] at h2; cases h2
      have NO2 : Hid (t2 = false → ¬ P) := fun h hp => by
        obtain ⟨j, hj, hjy⟩ := HMM.out
        have h1 := (HIM.out.1 hp).2.1 j hj
        rw [hjy] at h1
        have h2 : inB y 0 n = true := (inB_iff _ _ _).2 ⟨h1.1, by omega⟩
        rw [ht2, h] at h2; cases h2
      have YS1 : Hid (t1 = true → ∃ xn : Nat, x = xn ∧ xn < n + 1) := fun h => by
        rw [h] at ht1
        obtain ⟨h1, h2⟩ := (inB_iff _ _ _).1 ht1
        exact ⟨x.toNat, by omega, by omega⟩
      have YS2 : Hid (t2 = true → ∃ yn : Nat, y = yn ∧ yn < n + 1) := fun h => by
        rw [h] at ht2
        obtain ⟨h1, h2⟩ := (inB_iff _ _ _).1 ht2
        exact ⟨y.toNat, by omega, by omega⟩
      clear ht1 ht2
      go_upto_region 9 with (fail)
      cases t1
      · have NO := Lib.hid (NO1.out rfl)
        go_wp2_with (go_at_call 37; refine (WX.out _).mono ?_; rintro e w4 ⟨rfl, rfl⟩)
        go_ret
        exact AnsB.no (K1.out.trans HK.out) (by rw [HPQ.out]; exact NO.out)
      cases t2
      · have NO := Lib.hid (NO2.out rfl)
        go_wp2_with (go_at_call 37; first | ((with_reducible refine (WX.out _).mono ?_); rintro e w4 ⟨rfl, rfl⟩) | ((with_reducible refine (WY.out _).mono ?_); rintro e w4 ⟨rfl, rfl⟩))
        go_ret
        exact AnsB.no (K1.out.trans HK.out) (by rw [HPQ.out]; exact NO.out)
      obtain ⟨xn, rfl, hxn⟩ := YS1.out rfl
      obtain ⟨yn, rfl, hyn⟩ := YS2.out rfl
      clear NO1 NO2 YS1 YS2
      by_cases hd : (xn : Int) ∈ cyc.take k
      · have NO : Hid (¬ P) := fun hp => by
          have h1 := (HIM.out.1 hp).2.2.1.sublist (List.take_sublist (k + 1) cyc)
          rw [HTK.out, List.nodup_append] at h1
          exact h1.2.2 _ hd _ (List.mem_singleton.2 rfl) rfl
        rw [decide_eq_true hd] at CT
        clear hd
        go_wp2_with (first | (go_at_call 37; first | ((with_reducible refine (WX.out _).mono ?_); rintro e w4 ⟨rfl, rfl⟩) | ((with_reducible refine (WY.out _).mono ?_); rintro e w4 ⟨rfl, rfl⟩)) | (go_at_call 38; refine (CT.out _ _ (Kept.refl _ _)).mono ?_; rintro e w4 ⟨rfl, rfl⟩))
        go_ret
        exact AnsB.no (K1.out.trans HK.out) (by rw [HPQ.out]; exact NO.out)
      have HND : Hid ((cyc.take (k + 1)).Nodup) := by
        rw [HTK.out, List.nodup_append]
        exact ⟨HN.out, by simp, fun a ha b hb => by rw [List.mem_singleton.1 hb]; exact fun e => hd (e ▸ ha)⟩
      rw [decide_eq_false hd] at CT
      obtain ⟨hcp, hrow, hcl2⟩ := HM.out xn hxn
      have g0 := Kept.cellOf hrow _ HK.out
      have g1 := Kept.cellOf (hcl2 yn hyn) _ HK.out
      have gbd := HGB.out xn yn hxn hyn
      have HCW : Hid (cw G cyc k = G xn yn) := by unfold cw; rw [HX.out.1, HX.out.2]; rfl
      obtain ⟨g, hg⟩ : ∃ g, G xn yn = g := ⟨_, rfl⟩
      rw [hg] at g1 gbd HCW
      have gsm : g = 1152921504606846976 ∨ (-8589934592 ≤ g ∧ g ≤ 8589934592) := gbd
      have hxi : (0 : Int) ≤ (xn : Int) := by omega
      have hyi : (0 : Int) ≤ (yn : Int) := by omega
      clear hd hrow hcl2 gbd hg
      by_cases c1 : g < 1152921504606846976
      · have hg2 : -8589934592 ≤ g ∧ g ≤ 8589934592 := by omega
        have wS : IntKind.i64.wrap (S + g) = S + g := by rw [IntKind.wrap_i64]; omega
        have HS2 : Hid (sumTo (cw G cyc) (k + 1) = S + g) := by
          show _ = _
          rw [sumTo, HSS.out, HCW.out]
        have HA2 : Hid (∀ j, j < k + 1 → 0 ≤ cyc.getD j 0 ∧ cyc.getD j 0 < ((n + 1 : Nat) : Int)) := fun j hj => by
          rcases Nat.lt_or_ge j k with h | h
          · exact HA.out j h
          · obtain rfl : j = k := by omega
            rw [HX.out.1]; omega
        have HF2 : Hid (∀ j, j < k + 1 → cw G cyc j < far) := fun j hj => by
          rcases Nat.lt_or_ge j k with h | h
          · exact HF.out j h
          · obtain rfl : j = k := by omega
            rw [HCW.out]; exact c1
        clear gsm
        go_wp2_with (first | (go_at_call 37; first | ((with_reducible refine (WX.out _).mono ?_); rintro e w4 ⟨rfl, rfl⟩) | ((with_reducible refine (WY.out _).mono ?_); rintro e w4 ⟨rfl, rfl⟩)) | (go_at_call 38; refine (CT.out _ _ (Kept.refl _ _)).mono ?_; rintro e w4 ⟨rfl, rfl⟩))
        go_roundw
        case rel => exact ⟨k + 1, by omega, by go_num, by rw [HS2.out], HA2, HND, HF2, by rw [HS2.out]; omega, by rw [HS2.out]; omega, HK⟩
        case measure => simp [intOf]; omega
      · have NO : Hid (¬ P) := fun hp => by
          have h1 := (HIM.out.1 hp).2.2.2.1 k hkc
          rw [HCW.out] at h1
          exact c1 h1
        go_wp2_with (first | (go_at_call 37; first | ((with_reducible refine (WX.out _).mono ?_); rintro e w4 ⟨rfl, rfl⟩) | ((with_reducible refine (WY.out _).mono ?_); rintro e w4 ⟨rfl, rfl⟩)) | (go_at_call 38; refine (CT.out _ _ (Kept.refl _ _)).mono ?_; rintro e w4 ⟨rfl, rfl⟩))
        go_ret
        exact AnsB.no (K1.out.trans HK.out) (by rw [HPQ.out]; exact NO.out)
    · obtain rfl : k = L := by omega
      have HPF : Hid (decide (S < 0) = true ↔ P) := by
        rw [HIM.out]
        unfold ImpR
        rw [HLL.out, HSS.out]
        constructor
        · intro h
          have hS : S < 0 := by simpa using h
          refine ⟨?_, HA.out, ?_, HF.out, hS⟩
          · rcases Nat.eq_zero_or_pos k with h0 | h0
            · subst h0
              have := HSS.out
              simp [sumTo] at this
              omega
            · exact h0
          · have := HN.out
            rwa [List.take_of_length_le (by rw [HLL.out]; omega)] at this
        · intro h
          simpa using h.2.2.2.2
      go_wp2_with fail
      go_ret
      exact AnsB.of (K1.out.trans HK.out) (by rw [HPQ.out]; exact HPF.out)
end Go.Proofs.YtcidfldeiklcjaaGreatDoor
