/- The example of the law on times: its entries, their signatures, the graph, its smallest cycle. -/
import Derived.Test.YtcidfldeiklcjaaGreatDoorSea
import Derived.Test.YtcidfldeiklcjaaGreatDoorBds
import Derived.Test.YtcidfldeiklcjaaGreatDoorImp
namespace Go.Proofs.YtcidfldeiklcjaaGreatDoor
open Go.RowKit Tm Bf

/-- the setup of the examples -/
def st8 : Stp := ⟨23, 11, 4, [4, 16, 18], 3⟩
def ea8 : Ent := ⟨0, 0, 100, 1, [1000, 1010], [], 0, 0⟩
def eb8 (most : Int) : Ent := ⟨0, 1, 300, 1, [0, most], [], 0, 0⟩
def ec8 : Ent := ⟨1, 0, 50, 2, [0, 1], [], 0, 0⟩
theorem setb8 : setupB st8 = true := by decide
theorem ok_a : sealOk st8 3 ea8 = true := by decide
theorem ok_b (most : Int) (h : most = 1100 ∨ most = 2147483648) : sealOk st8 3 (eb8 most) = true := by
  rcases h with rfl | rfl <;> decide
theorem ok_c : sealOk st8 5 ec8 = true := by decide
theorem alg3 : ∀ k, k < 11 → ∀ c, c < 11 → overN 11 (pwrN 11 4 (addN 11 (k : Nat) (mulN 11 (c : Nat) 3 : Nat) : Nat) : Nat) (pwrN 11 18 (c : Nat) : Nat) = pwrN 11 4 (k : Nat) := by decide
theorem alg5 : ∀ k, k < 11 → ∀ c, c < 11 → overN 11 (pwrN 11 4 (addN 11 (k : Nat) (mulN 11 (c : Nat) 5 : Nat) : Nat) : Nat) (pwrN 11 12 (c : Nat) : Nat) = pwrN 11 4 (k : Nat) := by decide
/-- what Seal signs is signed -/
theorem sig8 (x pub : Int) (e : Ent) (hx : expoB st8 x = true) (hp : pub = (pwrN 11 4 x : Nat)) (hm : memB 11 pub = true)
    (ha : ∀ k, k < 11 → ∀ c, c < 11 → overN 11 (pwrN 11 4 (addN 11 (k : Nat) (mulN 11 (c : Nat) x : Nat) : Nat) : Nat) (pwrN 11 pub (c : Nat) : Nat) = pwrN 11 4 (k : Nat)) :
    sigB st8 pub (bodyE e) (sealS st8 x e).c (sealS st8 x e).s = true := by
  obtain ⟨k, hk⟩ : ∃ k, numN 11 (Wire.intE x ++ bodyE e) = k := ⟨_, rfl⟩
  have hkl : k < 11 := by rw [← hk]; exact numK_lt _ _ _ (by omega)
  have hK : sealK st8 x e = (k : Int) := by
    unfold sealK
    rw [show st8.Q.toNat = 11 from rfl, hk]
  have hke : expoB st8 (k : Int) = true := by
    unfold expoB
    rw [show st8.Q = 11 from rfl]
    simp; omega
  obtain ⟨msg, hmsg⟩ : ∃ m, bodyE e = m := ⟨_, rfl⟩
  obtain ⟨c, hc⟩ : ∃ c, numN 11 (chaE msg (pwrN 11 4 x : Nat) (pwrN 11 4 (k : Int) : Nat)) = c := ⟨_, rfl⟩
  have hcl : c < 11 := by rw [← hc]; exact numK_lt _ _ _ (by omega)
  have hS : signN st8 x k msg = (((c : Nat) : Int), ((addN 11 k (mulN 11 c x : Nat) : Nat) : Int), true) := by
    unfold signN
    rw [setb8, hx, hke]
    simp only [Bool.and_self, if_true]
    rw [show st8.Q.toNat = 11 from rfl, show st8.G = 4 from rfl, hc]
  have h1 : (sealS st8 x e).c = (c : Nat) := by unfold sealS; rw [hK, hmsg, hS]
  have h2 : (sealS st8 x e).s = (addN 11 k (mulN 11 c x : Nat) : Nat) := by unfold sealS; rw [hK, hmsg, hS]
  rw [h1, h2, hmsg]
  have hce : expoB st8 (c : Nat) = true := by
    unfold expoB
    rw [show st8.Q = 11 from rfl]
    simp; omega
  have hadd : addN 11 k (mulN 11 c x : Nat) < 11 := Nat.mod_lt _ (by omega)
  have hse : expoB st8 (addN 11 k (mulN 11 c x : Nat) : Nat) = true := by
    unfold expoB
    rw [show st8.Q = 11 from rfl]
    simp; omega
  unfold sigB
  rw [setb8, show st8.Q.toNat = 11 from rfl, hm, hce, hse]
  simp only [Bool.true_and]
  unfold sigN
  rw [show st8.G = 4 from rfl, ha k hkl c hcl, hp, hc]
  simp
def a8 : Ent := sealS st8 3 ea8
def b8 (most : Int) : Ent := sealS st8 3 (eb8 most)
def c8 : Ent := sealS st8 5 ec8
def keys8 : List Int := [18, 12]
theorem signed_of {x : Int} {e : Ent} (h : sealOk st8 x e = true) (hg : e.gate < 2) (hs : sigB st8 (nth keys8 e.gate.toNat) (bodyE e) (sealS st8 x e).c (sealS st8 x e).s = true) : signedB st8 keys8 (sealS st8 x e) = true := by
  unfold sealOk at h
  rw [Bool.and_eq_true] at h
  have hf : formedB st8 (sealS st8 x e) = formedB st8 e := rfl
  unfold signedB
  rw [hf, h.1, show (sealS st8 x e).gate = e.gate from rfl, show bodyE (sealS st8 x e) = bodyE e from rfl, hs, decide_eq_true (show e.gate < (keys8.length : Int) from hg)]
  rfl
theorem sg_a : signedB st8 keys8 a8 = true := signed_of ok_a (by decide) (sig8 3 18 ea8 (by decide) (by decide) (by decide) alg3)
theorem sg_b (most : Int) (h : most = 1100 ∨ most = 2147483648) : signedB st8 keys8 (b8 most) = true := signed_of (ok_b most h) (show (0 : Int) < 2 by decide) (sig8 3 18 (eb8 most) (by decide) (by decide) (by decide) alg3)
theorem sg_c : signedB st8 keys8 c8 = true := signed_of ok_c (by decide) (sig8 5 12 ec8 (by decide) (by decide) (by decide) alg5)
def l8 (most : Int) : List Ent := [c8, b8 most, a8]
def o8 (most : Int) : List Ent := [a8, b8 most, c8]
theorem join8 (most : Int) (h : most = 1100 ∨ most = 2147483648) : JoinIs (signedB st8 keys8) (l8 most) (o8 most) := by
  refine ⟨?_, fun z => ?_⟩
  · unfold o8
    refine List.Pairwise.cons (fun z hz => ?_) (List.Pairwise.cons (fun z hz => ?_) (List.Pairwise.cons (fun z hz => by cases hz) List.Pairwise.nil))
    · rcases List.mem_cons.1 hz with rfl | hz
      · exact Or.inr ⟨rfl, Or.inl (show (0 : Int) < 1 by decide)⟩
      · rw [List.mem_singleton.1 hz]
        exact Or.inl (show (0 : Int) < 1 by decide)
    · rw [List.mem_singleton.1 hz]
      exact Or.inl (show (0 : Int) < 1 by decide)
  · unfold o8 l8
    simp only [List.mem_cons, List.not_mem_nil, or_false]
    constructor
    · rintro (rfl | rfl | rfl)
      · exact ⟨Or.inr (Or.inr rfl), sg_a⟩
      · exact ⟨Or.inr (Or.inl rfl), sg_b most h⟩
      · exact ⟨Or.inl rfl, sg_c⟩
    · rintro ⟨rfl | rfl | rfl, _⟩
      · exact Or.inr (Or.inr rfl)
      · exact Or.inr (Or.inl rfl)
      · exact Or.inl rfl
/-- the edges of the example -/
def E8 (most : Int) : List Tm.Edge := [(3, 0, 2147483648), (0, 3, 0), (3, 0, 1010), (0, 3, -1000), (3, 1, 2147483648), (1, 3, 0), (0, 1, 220), (1, 0, -180), (3, 1, most), (1, 3, 0), (3, 2, 2147483648), (2, 3, 0), (2, 1, 0)]
theorem edges8 (most : Int) : edges (o8 most) 100 3 = E8 most := rfl
def g8 (most : Int) : Gf := gOf (E8 most)
theorem gl8 (most : Int) : Gl (o8 most) 100 = g8 most := by
  unfold Gl g8
  rw [show (o8 most).length = 3 from rfl, edges8]
theorem lt8 (most : Int) (h : most = 1100 ∨ most = 2147483648) : ∀ e ∈ E8 most, e.1 < 4 ∧ e.2.1 < 4 ∧ e.2.2 < far := by
  rcases h with rfl | rfl <;> decide
def tup : Nat → Int := fun i => if i = 0 then 1010 else if i = 1 then 1230 else if i = 2 then 2147483648 else 0
def tlo : Nat → Int := fun i => if i = 0 then 1000 else if i = 1 then 1180 else if i = 2 then 1180 else 0
theorem feas_up : Feas (g8 2147483648) 4 tup := (feas_iff (lt8 _ (Or.inr rfl))).2 (by decide)
theorem feas_lo : Feas (g8 2147483648) 4 tlo := (feas_iff (lt8 _ (Or.inr rfl))).2 (by decide)
theorem up8 {up : Nat → Int} (h : Top (g8 2147483648) 4 3 up) : up 0 = 1010 ∧ up 1 = 1230 ∧ up 2 = 2147483648 := by
  have hz := h.is_zero (by omega)
  have f0 := h.feas 3 0 (by omega) (by omega) (by decide)
  have f1 := h.feas 0 1 (by omega) (by omega) (by decide)
  have f2 := h.feas 3 2 (by omega) (by omega) (by decide)
  rw [show g8 2147483648 3 0 = 1010 by decide] at f0
  rw [show g8 2147483648 0 1 = 220 by decide] at f1
  rw [show g8 2147483648 3 2 = 2147483648 by decide] at f2
  have t0 := h.greatest feas_up (by decide) (v := 0) (by omega)
  have t1 := h.greatest feas_up (by decide) (v := 1) (by omega)
  have t2 := h.greatest feas_up (by decide) (v := 2) (by omega)
  rw [show tup 0 = 1010 by decide] at t0
  rw [show tup 1 = 1230 by decide] at t1
  rw [show tup 2 = 2147483648 by decide] at t2
  omega
theorem lo8 {lo : Nat → Int} (h : Top (turn (g8 2147483648)) 4 3 lo) : -lo 0 = 1000 ∧ -lo 1 = 1180 ∧ -lo 2 = 1180 := by
  have hz := h.is_zero (by omega)
  have f0 := h.feas 3 0 (by omega) (by omega) (by decide)
  have f1 := h.feas 0 1 (by omega) (by omega) (by decide)
  have f2 := h.feas 1 2 (by omega) (by omega) (by decide)
  rw [show turn (g8 2147483648) 3 0 = -1000 by decide] at f0
  rw [show turn (g8 2147483648) 0 1 = -180 by decide] at f1
  rw [show turn (g8 2147483648) 1 2 = 0 by decide] at f2
  have t0 := low_le h feas_lo (by decide) 0 (by omega)
  have t1 := low_le h feas_lo (by decide) 1 (by omega)
  have t2 := low_le h feas_lo (by decide) 2 (by omega)
  rw [show tlo 0 = 1000 by decide] at t0
  rw [show tlo 1 = 1180 by decide] at t1
  rw [show tlo 2 = 1180 by decide] at t2
  omega
theorem neg8 : NegCyc (g8 1100) 4 [0, 3, 1] := by
  refine ⟨0, [3, 1], rfl, ⟨rfl, rfl, by decide, ?_⟩, by decide⟩
  simp only [List.cons_append, List.nil_append, Bf.Steps]
  exact ⟨by decide, by decide, by decide, trivial⟩
theorem no8 : ¬ wt (g8 2147483648) ([0, 3, 1] ++ [0]) < 0 := by decide
theorem one8 : ∀ x, x < 4 → ¬ g8 1100 x x < 0 := by decide
theorem two8 : ∀ x, x < 4 → ∀ y, y < 4 → ¬ (g8 1100 x y < far ∧ g8 1100 y x < far ∧ g8 1100 x y + g8 1100 y x < 0) := by decide
def lex8 (x y z : Nat) : Bool := decide (0 < x) || (decide (x = 0 ∧ 3 < y) || (decide (x = 0 ∧ y = 3 ∧ 1 < z) || decide (x = 0 ∧ y = 3 ∧ z = 1)))
def t8 (x y z : Nat) : Bool := !(decide (g8 1100 x y < far) && (decide (g8 1100 y z < far) && (decide (g8 1100 z x < far) && decide (g8 1100 x y + (g8 1100 y z + g8 1100 z x) < 0)))) || lex8 x y z
theorem t8_all : ∀ x, x < 4 → ∀ y, y < 4 → ∀ z, z < 4 → t8 x y z = true := by decide
theorem three8 {x y z : Nat} (hx : x < 4) (hy : y < 4) (hz : z < 4) (h1 : g8 1100 x y < far) (h2 : g8 1100 y z < far) (h3 : g8 1100 z x < far) (h4 : g8 1100 x y + (g8 1100 y z + g8 1100 z x) < 0) : 0 < x ∨ (x = 0 ∧ 3 < y) ∨ (x = 0 ∧ y = 3 ∧ 1 < z) ∨ (x = 0 ∧ y = 3 ∧ z = 1) := by
  have h := t8_all x hx y hy z hz
  unfold t8 lex8 at h
  rw [decide_eq_true h1, decide_eq_true h2, decide_eq_true h3, decide_eq_true h4] at h
  simpa using h
theorem conf8 {c : List Nat} (h : IsConf (g8 1100) 4 c) : c = [0, 3, 1] := by
  refine conf_one h neg8 (by decide) (fun j x hj hjl hn => ?_) (fun b hb hbl => ?_)
  · obtain ⟨l, hw, hl, hneg⟩ := hn
    obtain ⟨t, rfl⟩ := walk_head hw
    have hlast := hw.last
    have hst := hw.steps
    have hx : x < 4 := hw.lt x (by simp)
    rcases (by simp at hjl; omega : j = 1 ∨ j = 2) with rfl | rfl
    · match t, hl, hw, hlast, hst, hneg with
      | [y], _, hw, hlast, hst, hneg =>
        obtain rfl : y = x := by simpa using hlast
        simp only [wt] at hneg
        exact one8 y hx (by omega)
    · match t, hl, hw, hlast, hst, hneg with
      | [y, z], _, hw, hlast, hst, hneg =>
        obtain rfl : z = x := by simpa using hlast
        simp only [wt] at hneg
        exact two8 z hx y (hw.lt y (by simp)) ⟨hst.1, hst.2.1, by omega⟩
  · obtain ⟨a, t, rfl, hw, hneg⟩ := hb
    match t, hbl with
    | [y, z], _ =>
      have hst := hw.steps
      simp only [List.cons_append, List.nil_append, Bf.Steps] at hst
      simp only [List.cons_append, List.nil_append, wt] at hneg
      rcases three8 (hw.lt a (by simp)) (hw.lt y (by simp)) (hw.lt z (by simp)) hst.1 hst.2.1 hst.2.2.1 (by omega) with h1 | ⟨rfl, h1⟩ | ⟨rfl, rfl, h1⟩ | ⟨rfl, rfl, rfl⟩
      · exact Or.inr ⟨[], 0, a, [3, 1], [y, z], rfl, rfl, h1⟩
      · exact Or.inr ⟨[0], 3, y, [1], [z], rfl, rfl, h1⟩
      · exact Or.inr ⟨[0, 3], 1, z, [], [], rfl, rfl, h1⟩
      · exact Or.inl rfl
end Go.Proofs.YtcidfldeiklcjaaGreatDoor
