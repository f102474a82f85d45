/- The statement of proof.Decode that appends to two lists: its two appends as laws. -/
import Derived.Test.YtabiklpemoijcaaGreatDoorRow2
/- JOINED: PfI PfJ -/
/- What the rounds of proof.Decode keep. -/
namespace Go.Proofs.YtabiklpemoijcaaGreatDoor
open Go.RowKit Tape

theorem infoL : (Tryz.prog.info? 24).map (fun i => (i.zero, i.size, i.bytes)) = some (some (.slice none 0 0), 1, 24) := by kernel_rfl
theorem infoLL : (Tryz.prog.info? 83).map (fun i => (i.zero, i.size, i.bytes)) = some (some (.slice none 0 0), 1, 24) := by kernel_rfl

theorem TpAt.put {T : TypeId} {w : World} {b g : Nat} {v0 : Value} {bd : Bool} {l : List Int} {x : Option Addr} {m c : Nat} (hB : Blk w b T #[v0, .bool bd]) (hs : Src w g x c l) (hm : m = l.length) (hne : b ≠ g) : TpAt T (w.setCell ⟨b, 0, none⟩ (.slice x m c)) b g ⟨l, bd⟩ := by
  subst hm
  refine ⟨⟨x, c, ?_, hs.keep (S := [b]) ((Kept.refl _ _).setCell (by simp) _) (by simp; omega)⟩, hne⟩
  simpa using hB.set_ 0 (.slice x l.length c)

/-- what the rounds of a clause keep -/
structure PfI (wr w2 : World) (b g : Nat) (X : List Nat) (ad : Option Addr) (n cd : Nat) (aa : Option Addr) (m ca : Nat) (ds : List Int) (as_ : List (List Int)) (r : Tp) : Prop where
  tp : TpAt 202 w2 b g r
  kb : Kept [b] wr w2
  nd : n = ds.length
  na : m = as_.length
  od : w2.ownsRow wr.heap.size 3 1 (.slice ad n cd) n (ints ds)
  ga : ∃ X2, (∀ z ∈ X, z ∈ X2) ∧ (∀ z ∈ X2, z < w2.heap.size) ∧ (∀ z ∈ obl (.slice ad n cd), z ∈ X2) ∧ (∀ z ∈ obl (.slice aa m ca), z ∈ X2) ∧ Grow ListR 1 24 wr.heap.size X2 w2 (.slice aa m ca) as_
  dis : ∀ z ∈ obl (.slice ad n cd), z ∉ obl (.slice aa m ca)
  bX : b ∈ X
  bl : b < wr.heap.size
  gl : g < wr.heap.size
section
variable {wr w2 w3 : World} {b g : Nat} {X : List Nat} {ad aa ad' aa' : Option Addr} {n n' m m' cd cd' ca ca' : Nat} {ds : List Int} {as_ : List (List Int)} {r r' : Tp}
theorem PfI.le (h : PfI wr w2 b g X ad n cd aa m ca ds as_ r) : wr.heap.size ≤ w2.heap.size := h.kb.size
theorem PfI.ged (h : PfI wr w2 b g X ad n cd aa m ca ds as_ r) : ∀ z ∈ obl (.slice ad n cd), wr.heap.size ≤ z ∧ z < w2.heap.size := own_ge h.od
theorem PfI.gea (h : PfI wr w2 b g X ad n cd aa m ca ds as_ r) : ∀ z ∈ obl (.slice aa m ca), wr.heap.size ≤ z ∧ z < w2.heap.size := by
  obtain ⟨X2, _, _, _, _, G⟩ := h.ga
  exact G.ge
theorem PfI.keep (h : PfI wr w2 b g X ad n cd aa m ca ds as_ r) (k : Kept [] w2 w3) : PfI wr w3 b g X ad n cd aa m ca ds as_ r := by
  obtain ⟨X2, x1, x2, x3, x4, G⟩ := h.ga
  exact ⟨h.tp.keep k (by simp) (by simp), h.kb.trans (k.mono (by simp)), h.nd, h.na, own_keep h.od k (by simp),
    ⟨X2, x1, fun z hz => Nat.lt_of_lt_of_le (x2 z hz) k.size, x3, x4, G.step k (by simp) (by simp) (fun z hz => Or.inl hz)⟩, h.dis, h.bX, h.bl, h.gl⟩
theorem PfI.alloc (h : PfI wr w2 b g X ad n cd aa m ca ds as_ r) (x : Obj) : PfI wr (w2.alloc x) b g X ad n cd aa m ca ds as_ r := h.keep ((Kept.refl _ _).alloc _)
theorem PfI.read (h : PfI wr w2 b g X ad n cd aa m ca ds as_ r) (k : Kept [b] w2 w3) (tp : TpAt 202 w3 b g r') : PfI wr w3 b g X ad n cd aa m ca ds as_ r' := by
  obtain ⟨X2, x1, x2, x3, x4, G⟩ := h.ga
  have hb := h.bl
  have h1 := h.ged
  have h2 := h.gea
  have e1 : ∀ z ∈ obl (.slice ad n cd), z ∉ [b] := fun z hz hm => by have := h1 z hz; rw [List.mem_singleton] at hm; omega
  have e2 : ∀ z ∈ obl (.slice aa m ca), z ∉ [b] := fun z hz hm => by have := h2 z hz; rw [List.mem_singleton] at hm; omega
  exact ⟨tp, h.kb.trans k, h.nd, h.na, own_keep h.od k e1,
    ⟨X2, x1, fun z hz => Nat.lt_of_lt_of_le (x2 z hz) k.size, x3, x4, G.step k e2 (fun z hz _ => by rw [List.mem_singleton] at hz; subst hz; exact x1 _ h.bX) (fun z hz => Or.inl hz)⟩, h.dis, h.bX, h.bl, h.gl⟩
theorem PfI.pushd (h : PfI wr w2 b g X ad n cd aa m ca ds as_ r) {x : Int} (k : Kept (obl (.slice ad n cd)) w2 w3) (hn : n' = n + 1) (own1 : w3.ownsRow wr.heap.size 3 1 (.slice ad' n' cd') n' (ints (ds ++ [x])))
    (hat : ∀ z ∈ obl (.slice ad' n' cd'), z ∈ obl (.slice ad n cd) ∨ z = w2.heap.size) : PfI wr w3 b g X ad' n' cd' aa m ca (ds ++ [x]) as_ r := by
  obtain ⟨X2, x1, x2, x3, x4, G⟩ := h.ga
  have hb := h.bl
  have hg := h.gl
  have h1 := h.ged
  have h2 := h.gea
  have hs := k.size
  have own2 := own_ge own1
  refine ⟨h.tp.keep k (fun hm => by have := h1 _ hm; omega) (fun hm => by have := h1 _ hm; omega), h.kb.then_ k (fun z hz hm => by have := h1 z hm; omega), by rw [hn, h.nd]; simp, h.na, own1,
    ⟨X2 ++ obl (.slice ad' n' cd'), fun z hz => List.mem_append_left _ (x1 z hz), fun z hz => ?_, fun z hz => List.mem_append_right _ hz, fun z hz => List.mem_append_left _ (x4 z hz), G.step k (fun z hz hm => h.dis z hm hz) (fun z hz _ => x3 z hz) (fun z hz => ?_)⟩, ?_, h.bX, h.bl, h.gl⟩
  · rcases List.mem_append.1 hz with h | h
    · have := x2 z h; omega
    · exact (own2 z h).2
  · rcases List.mem_append.1 hz with h | h
    · exact Or.inl h
    · rcases hat z h with e | e
      · exact Or.inl (x3 z e)
      · exact Or.inr (by omega)
  · intro z hz hm
    rcases hat z hz with e | e
    · exact h.dis z e hm
    · have := h2 z hm; omega
theorem PfI.pusha (h : PfI wr w2 b g X ad n cd aa m ca ds as_ r) {x : List Int} {X2 : List Nat} (x1 : ∀ z ∈ X, z ∈ X2) (x2 : ∀ z ∈ X2, z < w2.heap.size) (x3 : ∀ z ∈ obl (.slice ad n cd), z ∈ X2)
    (k : Kept (obl (.slice aa m ca)) w2 w3) (hm : m' = m + 1) (G : Grow ListR 1 24 wr.heap.size (X2 ++ obl (.slice aa' m' ca')) w3 (.slice aa' m' ca') (as_ ++ [x]))
    (hat : ∀ z ∈ obl (.slice aa' m' ca'), z ∈ obl (.slice aa m ca) ∨ z = w2.heap.size) : PfI wr w3 b g X ad n cd aa' m' ca' ds (as_ ++ [x]) r := by
  have hb := h.bl
  have hg := h.gl
  have h1 := h.ged
  have h2 := h.gea
  have hs := k.size
  refine ⟨h.tp.keep k (fun hm => by have := h2 _ hm; omega) (fun hm => by have := h2 _ hm; omega), h.kb.then_ k (fun z hz hm => by have := h2 z hm; omega), h.nd, by rw [hm, h.na]; simp, own_keep h.od k (fun z hz hm => h.dis z hz hm),
    ⟨X2 ++ obl (.slice aa' m' ca'), fun z hz => List.mem_append_left _ (x1 z hz), fun z hz => ?_, fun z hz => List.mem_append_left _ (x3 z hz), fun z hz => List.mem_append_right _ hz, G⟩, ?_, h.bX, h.bl, h.gl⟩
  · rcases List.mem_append.1 hz with h | h
    · have := x2 z h; omega
    · exact (G.ge z h).2
  · intro z hz hm
    rcases hat z hm with e | e
    · exact h.dis z hz e
    · have := h1 z hz; omega
end

/-- what the rounds of a proof keep -/
structure PfO (w wr : World) (b g po B : Nat) (X : List Nat) (a1 : Option Addr) (n1 c1 : Nat) (a2 : Option Addr) (n2 c2 : Nat) (A : List (List Int)) (C : List (List (List Int))) (r : Tp) : Prop where
  tp : TpAt 202 wr b g r
  bp : Blk wr po 86 #[.slice a1 n1 c1, .slice a2 n2 c2]
  e1 : n1 = A.length
  e2 : n2 = C.length
  g1 : Grow ListR 1 24 B X wr (.slice a1 n1 c1) A
  g2 : Grow ListsR 1 83 B X wr (.slice a2 n2 c2) C
  dis : ∀ z ∈ obl (.slice a1 n1 c1), z ∉ obl (.slice a2 n2 c2)
  bX : b ∈ X
  pX : po ∈ X
  hX : ∀ z ∈ X, z < wr.heap.size
  x1 : ∀ z ∈ obl (.slice a1 n1 c1), z ∈ X
  x2 : ∀ z ∈ obl (.slice a2 n2 c2), z ∈ X
  lb : b < B
  lp : po < B
  lg : g < B
  le : B ≤ wr.heap.size
  bp_ : b ≠ po
  gp : g ≠ po
  k0 : Kept [] w wr
  wb : w.heap.size < b
  wp : w.heap.size < po
  qX : w.heap.size ∈ X
  bq : Blk wr w.heap.size 86 #[.slice none 0 0, .slice none 0 0]
  rX : ∀ z, z < w.heap.size → z ∈ X
section
variable {w wr w2 w3 : World} {b g po B : Nat} {X : List Nat} {a1 a2 a1' a2' : Option Addr} {n1 n1' c1 c1' n2 n2' c2 c2' : Nat} {A : List (List Int)} {C : List (List (List Int))} {r r' : Tp}
theorem PfO.ge1 (h : PfO w wr b g po B X a1 n1 c1 a2 n2 c2 A C r) : ∀ z ∈ obl (.slice a1 n1 c1), B ≤ z ∧ z < wr.heap.size := h.g1.ge
theorem PfO.ge2 (h : PfO w wr b g po B X a1 n1 c1 a2 n2 c2 A C r) : ∀ z ∈ obl (.slice a2 n2 c2), B ≤ z ∧ z < wr.heap.size := h.g2.ge
theorem PfO.read (h : PfO w wr b g po B X a1 n1 c1 a2 n2 c2 A C r) (k : Kept [b] wr w2) (tp : TpAt 202 w2 b g r') : PfO w w2 b g po B X a1 n1 c1 a2 n2 c2 A C r' := by
  have hb := h.lb
  have h1 := h.ge1
  have h2 := h.ge2
  have hbp := h.bp_
  have hwb := h.wb
  refine ⟨tp, h.bp.kept k (by simp; omega), h.e1, h.e2, h.g1.step k (fun z hz hm => ?_) (fun z hz _ => ?_) (fun z hz => Or.inl hz), h.g2.step k (fun z hz hm => ?_) (fun z hz _ => ?_) (fun z hz => Or.inl hz), h.dis, h.bX, h.pX, fun z hz => Nat.lt_of_lt_of_le (h.hX z hz) k.size, h.x1, h.x2, h.lb, h.lp, h.lg, Nat.le_trans h.le k.size, h.bp_, h.gp,
    h.k0.fresh k (fun z hz => by rw [List.mem_singleton] at hz; omega), h.wb, h.wp, h.qX, h.bq.kept k (by simp; omega), h.rX⟩
  · have := h1 z hz; rw [List.mem_singleton] at hm; omega
  · rw [List.mem_singleton] at hz; subst hz; exact h.bX
  · have := h2 z hz; rw [List.mem_singleton] at hm; omega
  · rw [List.mem_singleton] at hz; subst hz; exact h.bX
/-- both lists have grown, and are stored -/
theorem PfO.push (h : PfO w wr b g po B X a1 n1 c1 a2 n2 c2 A C r) {d : List Int} {e : List (List Int)} {X' : List Nat} (k : Kept (obl (.slice a1 n1 c1) ++ obl (.slice a2 n2 c2)) wr w2)
    (G1 : Grow ListR 1 24 B X' w2 (.slice a1' n1' c1') (A ++ [d])) (G2 : Grow ListsR 1 83 B X' w2 (.slice a2' n2' c2') (C ++ [e])) (m1 : n1' = n1 + 1) (m2 : n2' = n2 + 1)
    (hX' : ∀ z ∈ X, z ∈ X') (hlt : ∀ z ∈ X', z < w2.heap.size) (hd : ∀ z ∈ obl (.slice a1' n1' c1'), z ∉ obl (.slice a2' n2' c2'))
    (y1 : ∀ z ∈ obl (.slice a1' n1' c1'), z ∈ X') (y2 : ∀ z ∈ obl (.slice a2' n2' c2'), z ∈ X') :
    PfO w ((w2.setCell ⟨po, 0, none⟩ (.slice a1' n1' c1')).setCell ⟨po, 1, none⟩ (.slice a2' n2' c2')) b g po B X' a1' n1' c1' a2' n2' c2' (A ++ [d]) (C ++ [e]) r := by
  have h1 := h.ge1
  have h2 := h.ge2
  have hb := h.lb
  have hp := h.lp
  have hg := h.lg
  have hbp := h.bp_
  have hgp := h.gp
  have hwp := h.wp
  have hS : ∀ z ∈ obl (.slice a1 n1 c1) ++ obl (.slice a2 n2 c2), B ≤ z := fun z hz => by
    rcases List.mem_append.1 hz with e | e
    · exact (h1 z e).1
    · exact (h2 z e).1
  have kp : Kept [po] w2 ((w2.setCell ⟨po, 0, none⟩ (.slice a1' n1' c1')).setCell ⟨po, 1, none⟩ (.slice a2' n2' c2')) := ((Kept.refl _ _).setCell (by simp) _).setCell (by simp) _
  have hsz : ((w2.setCell ⟨po, 0, none⟩ (.slice a1' n1' c1')).setCell ⟨po, 1, none⟩ (.slice a2' n2' c2')).heap.size = w2.heap.size := by simp [World.setCell]
  have hpX : ∀ z ∈ [po], z < w2.heap.size → z ∈ X' := fun z hz _ => by rw [List.mem_singleton] at hz; subst hz; exact hX' _ h.pX
  have q1 := G1.ge
  have q2 := G2.ge
  refine ⟨(h.tp.keep k (fun hm => by have := hS _ hm; omega) (fun hm => by have := hS _ hm; omega)).keep kp (by simp; omega) (by simp; omega), ?_, by rw [m1, h.e1]; simp, by rw [m2, h.e2]; simp,
    G1.step kp (fun z hz hm => ?_) hpX (fun z hz => Or.inl hz), G2.step kp (fun z hz hm => ?_) hpX (fun z hz => Or.inl hz), hd, hX' _ h.bX, hX' _ h.pX, fun z hz => by rw [hsz]; exact hlt z hz, y1, y2, h.lb, h.lp, h.lg, ?_, h.bp_, h.gp, ?_, h.wb, h.wp, hX' _ h.qX, ?_, fun z hz => hX' z (h.rX z hz)⟩
  · have hb2 := h.bp.kept k (fun hm => by have := hS _ hm; omega)
    simpa using (hb2.set_ 0 (.slice a1' n1' c1')).set_ 1 (.slice a2' n2' c2')
  · have := q1 z hz; rw [List.mem_singleton] at hm; omega
  · have := q2 z hz; rw [List.mem_singleton] at hm; omega
  · rw [hsz]; have := h.le; have := k.size; omega
  · have hk0 := h.k0.size
    have hle := h.le
    exact ((h.k0.fresh k (fun z hz => by have := hS z hz; have := h.wb; omega)).setCell (Or.inr (Nat.le_of_lt hwp)) _).setCell (Or.inr (Nat.le_of_lt hwp)) _
  · exact (h.bq.kept k (fun hm => by have := hS _ hm; omega)).kept kp (by simp; omega)

theorem PfO.later2 (h : PfO w wr b g po B X a1 n1 c1 a2 n2 c2 A C r) (k : Kept (obl (.slice a1 n1 c1)) wr w2) (t : ∀ z ∈ obl (.slice a1' n1' c1'), z ∈ obl (.slice a1 n1 c1) ∨ wr.heap.size ≤ z) :
    Grow ListsR 1 83 B (X ++ obl (.slice a1' n1' c1')) w2 (.slice a2 n2 c2) C :=
  h.g2.step k (fun z hz hm => h.dis z hm hz) (fun z hz _ => h.x1 z hz) fun z hz => by
    rcases List.mem_append.1 hz with e | e
    · exact Or.inl e
    · rcases t z e with e | e
      · exact Or.inl (h.x1 z e)
      · exact Or.inr e
theorem PfO.later1 (h : PfO w wr b g po B X a1 n1 c1 a2 n2 c2 A C r) (k : Kept (obl (.slice a2 n2 c2)) wr w2) (t : ∀ z ∈ obl (.slice a2' n2' c2'), z ∈ obl (.slice a2 n2 c2) ∨ wr.heap.size ≤ z) :
    Grow ListR 1 24 B (X ++ obl (.slice a2' n2' c2')) w2 (.slice a1 n1 c1) A :=
  h.g1.step k (fun z hz hm => h.dis z hz hm) (fun z hz _ => h.x2 z hz) fun z hz => by
    rcases List.mem_append.1 hz with e | e
    · exact Or.inl e
    · rcases t z e with e | e
      · exact Or.inl (h.x2 z e)
      · exact Or.inr e
theorem PfO.now1 (h : PfO w wr b g po B X a1 n1 c1 a2 n2 c2 A C r) (k : Kept [] wr w2) : Grow ListR 1 24 B X w2 (.slice a1 n1 c1) A := h.g1.step k (by simp) (by simp) fun _ hz => Or.inl hz
theorem PfO.now2 (h : PfO w wr b g po B X a1 n1 c1 a2 n2 c2 A C r) (k : Kept [] wr w2) : Grow ListsR 1 83 B X w2 (.slice a2 n2 c2) C := h.g2.step k (by simp) (by simp) fun _ hz => Or.inl hz

/-- first the one, then the other -/
theorem PfO.order12 (h : PfO w wr b g po B X a1 n1 c1 a2 n2 c2 A C r) {u1 u2 : World} {d : List Int} {e : List (List Int)} (ku1 : Kept [] wr u1) (k1 : Kept (obl (.slice a1 n1 c1)) u1 w2)
    (G1 : Grow ListR 1 24 B (X ++ obl (.slice a1' n1' c1')) w2 (.slice a1' n1' c1') (A ++ [d])) (t1 : ∀ z ∈ obl (.slice a1' n1' c1'), z ∈ obl (.slice a1 n1 c1) ∨ z = u1.heap.size) (ku2 : Kept [] w2 u2) (k2 : Kept (obl (.slice a2 n2 c2)) u2 w3)
    (G2 : Grow ListsR 1 83 B ((X ++ obl (.slice a1' n1' c1')) ++ obl (.slice a2' n2' c2')) w3 (.slice a2' n2' c2') (C ++ [e])) (t2 : ∀ z ∈ obl (.slice a2' n2' c2'), z ∈ obl (.slice a2 n2 c2) ∨ z = u2.heap.size) (m1 : n1' = n1 + 1) (m2 : n2' = n2 + 1) :
    ∃ X', PfO w ((w3.setCell ⟨po, 0, none⟩ (.slice a1' n1' c1')).setCell ⟨po, 1, none⟩ (.slice a2' n2' c2')) b g po B X' a1' n1' c1' a2' n2' c2' (A ++ [d]) (C ++ [e]) r := by
  have s1 := ku1.size
  have s2 := k1.size
  have s3 := ku2.size
  have s4 := k2.size
  have h1 := h.ge1
  have h2 := h.ge2
  have q1 := G1.ge
  have q2 := G2.ge
  have kk : Kept (obl (.slice a2 n2 c2)) w2 w3 := (ku2.mono (by simp)).trans k2
  have d12 : ∀ z ∈ obl (.slice a1' n1' c1'), z ∉ obl (.slice a2 n2 c2) := fun z hz hm => by
    rcases t1 z hz with e | e
    · exact h.dis z e hm
    · have := h2 z hm; omega
  refine ⟨(X ++ obl (.slice a1' n1' c1')) ++ obl (.slice a2' n2' c2'), h.push ?_ (G1.step kk d12 (fun z hz _ => List.mem_append_left _ (h.x2 z hz)) fun z hz => ?_) G2 m1 m2 (fun z hz => List.mem_append_left _ (List.mem_append_left _ hz)) (fun z hz => ?_) (fun z hz hm => ?_)
    (fun z hz => List.mem_append_left _ (List.mem_append_right _ hz)) (fun z hz => List.mem_append_right _ hz)⟩
  · exact (((ku1.mono (by simp)).trans (k1.mono fun z _ hz => List.mem_append_left _ hz)).trans (kk.mono fun z _ hz => List.mem_append_right _ hz))
  · rcases List.mem_append.1 hz with e | e
    · exact Or.inl e
    · rcases t2 z e with e | e
      · exact Or.inl (List.mem_append_left _ (h.x2 z e))
      · exact Or.inr (by omega)
  · rcases List.mem_append.1 hz with e | e
    · rcases List.mem_append.1 e with e | e
      · have := h.hX z e; omega
      · have := q1 z e; omega
    · exact (q2 z e).2
  · rcases t2 z hm with e | e
    · exact d12 z hz e
    · have := q1 z hz; omega
theorem PfO.order21 (h : PfO w wr b g po B X a1 n1 c1 a2 n2 c2 A C r) {u1 u2 : World} {d : List Int} {e : List (List Int)} (ku1 : Kept [] wr u1) (k1 : Kept (obl (.slice a2 n2 c2)) u1 w2)
    (G2 : Grow ListsR 1 83 B (X ++ obl (.slice a2' n2' c2')) w2 (.slice a2' n2' c2') (C ++ [e])) (t2 : ∀ z ∈ obl (.slice a2' n2' c2'), z ∈ obl (.slice a2 n2 c2) ∨ z = u1.heap.size) (ku2 : Kept [] w2 u2) (k2 : Kept (obl (.slice a1 n1 c1)) u2 w3)
    (G1 : Grow ListR 1 24 B ((X ++ obl (.slice a2' n2' c2')) ++ obl (.slice a1' n1' c1')) w3 (.slice a1' n1' c1') (A ++ [d])) (t1 : ∀ z ∈ obl (.slice a1' n1' c1'), z ∈ obl (.slice a1 n1 c1) ∨ z = u2.heap.size) (m1 : n1' = n1 + 1) (m2 : n2' = n2 + 1) :
    ∃ X', PfO w ((w3.setCell ⟨po, 0, none⟩ (.slice a1' n1' c1')).setCell ⟨po, 1, none⟩ (.slice a2' n2' c2')) b g po B X' a1' n1' c1' a2' n2' c2' (A ++ [d]) (C ++ [e]) r := by
  have s1 := ku1.size
  have s2 := k1.size
  have s3 := ku2.size
  have s4 := k2.size
  have h1 := h.ge1
  have h2 := h.ge2
  have q1 := G1.ge
  have q2 := G2.ge
  have kk : Kept (obl (.slice a1 n1 c1)) w2 w3 := (ku2.mono (by simp)).trans k2
  have d21 : ∀ z ∈ obl (.slice a2' n2' c2'), z ∉ obl (.slice a1 n1 c1) := fun z hz hm => by
    rcases t2 z hz with e | e
    · exact h.dis z hm e
    · have := h1 z hm; omega
  refine ⟨(X ++ obl (.slice a2' n2' c2')) ++ obl (.slice a1' n1' c1'), h.push ?_ G1 (G2.step kk d21 (fun z hz _ => List.mem_append_left _ (h.x1 z hz)) fun z hz => ?_) m1 m2 (fun z hz => List.mem_append_left _ (List.mem_append_left _ hz)) (fun z hz => ?_) (fun z hz hm => ?_)
    (fun z hz => List.mem_append_right _ hz) (fun z hz => List.mem_append_left _ (List.mem_append_right _ hz))⟩
  · exact (((ku1.mono (by simp)).trans (k1.mono fun z _ hz => List.mem_append_right _ hz)).trans (kk.mono fun z _ hz => List.mem_append_left _ hz))
  · rcases List.mem_append.1 hz with e | e
    · exact Or.inl e
    · rcases t1 z e with e | e
      · exact Or.inl (List.mem_append_left _ (h.x1 z e))
      · exact Or.inr (by omega)
  · rcases List.mem_append.1 hz with e | e
    · rcases List.mem_append.1 e with e | e
      · have := h.hX z e; omega
      · have := q2 z e; omega
    · exact (q1 z e).2
  · rcases t1 z hz with e | e
    · exact d21 z hm e
    · have := q2 z hm; omega
end
end Go.Proofs.YtabiklpemoijcaaGreatDoor
namespace Go.Proofs.YtabiklpemoijcaaGreatDoor
open Go.RowKit Tape

theorem rowN {Y : World} {n : Nat} (hn : Y.heap.size = n) (T : TypeId) (v : Value) : Row (Y.alloc (.cells #[v] T)) 1 (.slice (some ⟨n, 0, none⟩) 1 1) 1 [v] :=
  hn ▸ row_of_blk (Blk.new Y T #[v]) rfl (by omega)
theorem row_one_keep {U y : World} {S : List Nat} {n : Nat} {v : Value} (h : Row U 1 (.slice (some ⟨n, 0, none⟩) 1 1) 1 [v]) (k : Kept S U y) (hn : n ∉ S) : Row y 1 (.slice (some ⟨n, 0, none⟩) 1 1) 1 [v] := by
  obtain ⟨h1, h2, a, c, hv, hcc, hc⟩ := h
  refine ⟨h1, h2, a, c, hv, hcc, fun hp => ?_⟩
  injection hv with ha _ _
  subst ha
  obtain ⟨b, off, hb, hcell⟩ := hc hp
  injection hb with hb
  injection hb with hb ho
  subst hb ho
  refine ⟨n, 0, rfl, fun j u hj => ?_⟩
  have := hcell j u hj
  exact (k.cell (World.block_lt_of_cell? U _ this) hn).trans this

/-- behind the first append -/
structure After1 (wr u y : World) (B : Nat) (X : List Nat) (a1 : Option Addr) (n1 c1 : Nat) (p : Option Addr) (m q : Nat) (A : List (List Int)) (d : List Int) : Prop where
  ku : Kept [] wr u
  k : Kept (obl (.slice a1 n1 c1)) u y
  hm : m = n1 + 1
  G : Grow ListR 1 24 B (X ++ obl (.slice p m q)) y (.slice p m q) (A ++ [d])
  t : ∀ z ∈ obl (.slice p m q), z ∈ obl (.slice a1 n1 c1) ∨ z = u.heap.size
section
variable {w wr u y u2 : World} {b g po B : Nat} {X : List Nat} {a1 a2 p : Option Addr} {n1 c1 n2 c2 m q : Nat} {A : List (List Int)} {C : List (List (List Int))} {r : Tp} {d : List Int} {e : List (List Int)}
theorem After1.ks (h : After1 wr u y B X a1 n1 c1 p m q A d) : Kept (obl (.slice a1 n1 c1)) wr y := (h.ku.mono (by simp)).trans h.k
theorem After1.t' (h : After1 wr u y B X a1 n1 c1 p m q A d) : ∀ z ∈ obl (.slice p m q), z ∈ obl (.slice a1 n1 c1) ∨ wr.heap.size ≤ z := fun z hz => (h.t z hz).imp id fun e => by have := h.ku.size; omega

theorem step_a1 {ops : Array Oper} {o : Oper} {a : Act} {K : Act → World → Prop} {Q : Exit → Act → World → Prop} {E : Prop} (O : PfO w wr b g po B X a1 n1 c1 a2 n2 c2 A C r) (hgd : o.guard = none) (s x : Operand)
    (ho : o.op = .call { callee := .builtin .append, args := #[s, x], argTypes := #[83, 83] })
    (hs : a.eval s = .slice a1 n1 c1) (v : Value) (hx : a.eval x = v) (el : Value) (hrow : Row u 1 v 1 [el]) (ku : Kept [] wr u) (hR : Stable X (fun w => ListR w [el] d) wr) (h1 : el.oneCell' = true) (hn : A.length ≤ 1000000000)
    (h : ∀ p q y, After1 wr u y B X a1 n1 c1 p (A.length + 1) q A d → K (a.put o.dst (.slice p (A.length + 1) q)) y) :
    if Region.wanted o (yielded ops a.tmps) = true then Oper.wp Tryz.prog o a u K Q else E := by
  obtain ⟨i, hi, hz0, hz1, hz2⟩ := info_parts infoL
  have hle := O.le
  have := ku.size
  refine step_append_grow hgd s x 83 ho i (.slice none 0 0) 24 Tryz.underlying83 hi hz0 hz1 hz2 rfl (by decide) (by decide) hs (O.now1 ku) v [el] d hx hrow (hR.step ku (by simp) (fun z hz => Or.inl hz)) (by simpa using h1) hn (by omega) O.x1 ?_
  intro p q y G k t
  exact h p q y ⟨ku, k, by rw [O.e1], G, t⟩

theorem step_a2 {ops : Array Oper} {o : Oper} {a : Act} {K : Act → World → Prop} {Q : Exit → Act → World → Prop} {E : Prop} (O : PfO w wr b g po B X a1 n1 c1 a2 n2 c2 A C r) (H : After1 wr u y B X a1 n1 c1 p m q A d) (hgd : o.guard = none) (s x : Operand)
    (ho : o.op = .call { callee := .builtin .append, args := #[s, x], argTypes := #[84, 84] })
    (hs : a.eval s = .slice a2 n2 c2) (v : Value) (hx : a.eval x = v) (el : Value) (hrow : Row u2 1 v 1 [el]) (ku : Kept [] y u2) (hR : Stable X (fun w => ListsR w [el] e) wr) (h1 : el.oneCell' = true) (hn : C.length ≤ 1000000000)
    (h : ∀ p' q' y', Kept (obl (.slice a1 n1 c1) ++ obl (.slice a2 n2 c2)) wr y' → (∃ X', PfO w ((y'.setCell ⟨po, 0, none⟩ (.slice p m q)).setCell ⟨po, 1, none⟩ (.slice p' (C.length + 1) q')) b g po B X' p m q p' (C.length + 1) q' (A ++ [d]) (C ++ [e]) r) → K (a.put o.dst (.slice p' (C.length + 1) q')) y') :
    if Region.wanted o (yielded ops a.tmps) = true then Oper.wp Tryz.prog o a u2 K Q else E := by
  obtain ⟨i, hi, hz0, hz1, hz2⟩ := info_parts infoLL
  have hle := O.le
  have s1 := H.ku.size
  have s2 := H.k.size
  have s3 := ku.size
  have kk : Kept (obl (.slice a1 n1 c1)) wr u2 := H.ks.trans (ku.mono (by simp))
  refine step_append_grow hgd s x 84 ho i (.slice none 0 0) 24 Tryz.underlying84 hi hz0 hz1 hz2 rfl (by decide) (by decide) hs (O.later2 kk H.t') v [el] e hx hrow (hR.step kk (fun z hz _ => O.x1 z hz) fun z hz => ?_) (by simpa using h1) hn (by omega) (fun z hz => List.mem_append_left _ (O.x2 z hz)) ?_
  · rcases List.mem_append.1 hz with e | e
    · exact Or.inl e
    · rcases H.t' z e with e | e
      · exact Or.inl (O.x1 z e)
      · exact Or.inr e
  · intro p' q' y' G k t
    refine h p' q' y' ((H.ks.mono fun z _ hz => List.mem_append_left _ hz).trans ((ku.mono (by simp)).trans (k.mono fun z _ hz => List.mem_append_right _ hz))) (O.order12 H.ku H.k H.G H.t ku k G t H.hm (by rw [O.e2]))
end
end Go.Proofs.YtabiklpemoijcaaGreatDoor
