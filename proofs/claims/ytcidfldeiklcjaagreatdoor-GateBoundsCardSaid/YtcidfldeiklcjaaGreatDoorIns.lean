/- Sorting a few entries: slices.SortFunc by its insertion branch. -/
import Derived.Test.YtcidfldeiklcjaaGreatDoorStb
import Derived.StillTailTactics
import Derived.Deep.DeepCutAuto
import Derived.Deep.CutBlock
/- JOINED: Esw Ins -/
/- Entries in a block that is written. -/
namespace Go.Proofs.YtcidfldeiklcjaaGreatDoor
open Go.RowKit Tm

abbrev EV := Ent × Value
/-- the cells of entries in a block -/
structure EC (w : World) (rb n : Nat) (f : Nat → EV) : Prop where
  cell : ∀ i, i < n → ∀ j v, (entC (f i).1 (f i).2)[j]? = some v → w.cell? ⟨rb, i * 8 + j, none⟩ = some v
  fz : ∀ k, w.frozen? ⟨rb, k, none⟩ = false
  lt : rb < w.heap.size
def put8 (w : World) (rb o : Nat) (e : Ent) (u : Value) : World :=
  (((((((w.setCell ⟨rb, o, none⟩ (.int .i64 e.gate)).setCell ⟨rb, o + 1, none⟩ (.int .i64 e.no)).setCell ⟨rb, o + 2, none⟩ (.int .i64 e.time)).setCell ⟨rb, o + 3, none⟩ (.int .i64 e.kind)).setCell ⟨rb, o + 4, none⟩ u).setCell ⟨rb, o + 5, none⟩ (.string ⟨e.text.toArray⟩)).setCell ⟨rb, o + 6, none⟩ (.int .i64 e.c)).setCell ⟨rb, o + 7, none⟩ (.int .i64 e.s)
def updE (f : Nat → EV) (i : Nat) (p : EV) : Nat → EV := fun k => if k = i then p else f k
section
variable {w w' : World} {rb n : Nat} {f : Nat → EV} {S : List Nat}
theorem EC.kept (h : EC w rb n f) (k : Kept S w w') (hS : rb ∉ S) : EC w' rb n f :=
  ⟨fun i hi j v hv => (k.cell (p := ⟨rb, i * 8 + j, none⟩) h.lt hS).trans (h.cell i hi j v hv), fun j => (k.frozen (p := ⟨rb, j, none⟩) h.lt hS).trans (h.fz j), Nat.lt_of_lt_of_le h.lt k.size⟩
theorem EC.congr {g : Nat → EV} (h : EC w rb n f) (e : ∀ i, i < n → f i = g i) : EC w rb n g := ⟨fun i hi j v hv => h.cell i hi j v (by rw [e i hi]; exact hv), h.fz, h.lt⟩
/-- one cell is stored -/
theorem set_same {p : Addr} {u v : Value} (h : w.cell? p = some u) : (w.setCell p v).cell? p = some v := World.cell?_setCell_same _ _ _ h
theorem set_far {b o k : Nat} {v : Value} (h : k ≠ o) : (w.setCell ⟨b, o, none⟩ v).cell? ⟨b, k, none⟩ = w.cell? ⟨b, k, none⟩ := World.cell?_setCell_other _ _ _ _ (by intro e; injection e with _ e2; exact h e2.symm)
theorem put8_far {o k : Nat} (e : Ent) (u : Value) (h : k < o ∨ o + 8 ≤ k) : (put8 w rb o e u).cell? ⟨rb, k, none⟩ = w.cell? ⟨rb, k, none⟩ := by
  unfold put8
  rw [set_far (by omega), set_far (by omega), set_far (by omega), set_far (by omega), set_far (by omega), set_far (by omega), set_far (by omega), set_far (by omega)]
theorem put8_in {o : Nat} (e : Ent) (u : Value) (h : ∀ j, j < 8 → (w.cell? ⟨rb, o + j, none⟩).isSome = true) (j : Nat) (v : Value) (hv : (entC e u)[j]? = some v) : (put8 w rb o e u).cell? ⟨rb, o + j, none⟩ = some v := by
  have hg : ∀ j, j < 8 → ∃ x, w.cell? ⟨rb, o + j, none⟩ = some x := fun j hj => Option.isSome_iff_exists.1 (h j hj)
  have hj : j < 8 := by have := (List.getElem?_eq_some_iff.1 hv).1; simpa [entC] using this
  unfold put8
  rcases (by omega : j = 0 ∨ j = 1 ∨ j = 2 ∨ j = 3 ∨ j = 4 ∨ j = 5 ∨ j = 6 ∨ j = 7) with rfl | rfl | rfl | rfl | rfl | rfl | rfl | rfl
  · obtain ⟨x, hx⟩ := hg 0 (by omega)
    simp only [entC, List.getElem?_cons_zero, Option.some.injEq] at hv
    subst hv
    have hx' : w.cell? ⟨rb, o, none⟩ = some x := hx
    show World.cell? _ ⟨rb, o, none⟩ = _
    rw [set_far (by omega), set_far (by omega), set_far (by omega), set_far (by omega), set_far (by omega), set_far (by omega), set_far (by omega), set_same hx']
  · obtain ⟨x, hx⟩ := hg 1 (by omega)
    simp only [entC, List.getElem?_cons_succ, List.getElem?_cons_zero, Option.some.injEq] at hv
    subst hv
    rw [set_far (by omega), set_far (by omega), set_far (by omega), set_far (by omega), set_far (by omega), set_far (by omega), set_same (by rw [set_far (by omega)]; exact hx)]
  · obtain ⟨x, hx⟩ := hg 2 (by omega)
    simp only [entC, List.getElem?_cons_succ, List.getElem?_cons_zero, Option.some.injEq] at hv
    subst hv
    rw [set_far (by omega), set_far (by omega), set_far (by omega), set_far (by omega), set_far (by omega), set_same (by rw [set_far (by omega), set_far (by omega)]; exact hx)]
  · obtain ⟨x, hx⟩ := hg 3 (by omega)
    simp only [entC, List.getElem?_cons_succ, List.getElem?_cons_zero, Option.some.injEq] at hv
    subst hv
    rw [set_far (by omega), set_far (by omega), set_far (by omega), set_far (by omega), set_same (by rw [set_far (by omega), set_far (by omega), set_far (by omega)]; exact hx)]
  · obtain ⟨x, hx⟩ := hg 4 (by omega)
    simp only [entC, List.getElem?_cons_succ, List.getElem?_cons_zero, Option.some.injEq] at hv
    subst hv
    rw [set_far (by omega), set_far (by omega), set_far (by omega), set_same (by rw [set_far (by omega), set_far (by omega), set_far (by omega), set_far (by omega)]; exact hx)]
  · obtain ⟨x, hx⟩ := hg 5 (by omega)
    simp only [entC, List.getElem?_cons_succ, List.getElem?_cons_zero, Option.some.injEq] at hv
    subst hv
    rw [set_far (by omega), set_far (by omega), set_same (by rw [set_far (by omega), set_far (by omega), set_far (by omega), set_far (by omega), set_far (by omega)]; exact hx)]
  · obtain ⟨x, hx⟩ := hg 6 (by omega)
    simp only [entC, List.getElem?_cons_succ, List.getElem?_cons_zero, Option.some.injEq] at hv
    subst hv
    rw [set_far (by omega), set_same (by rw [set_far (by omega), set_far (by omega), set_far (by omega), set_far (by omega), set_far (by omega), set_far (by omega)]; exact hx)]
  · obtain ⟨x, hx⟩ := hg 7 (by omega)
    simp only [entC, List.getElem?_cons_succ, List.getElem?_cons_zero, Option.some.injEq] at hv
    subst hv
    rw [set_same (by rw [set_far (by omega), set_far (by omega), set_far (by omega), set_far (by omega), set_far (by omega), set_far (by omega), set_far (by omega)]; exact hx)]
theorem put8_kept (o : Nat) (e : Ent) (u : Value) : Kept [rb] w (put8 w rb o e u) := by
  unfold put8
  repeat (refine Kept.setCell ?_ (Or.inl (by simp)) _)
  exact Kept.refl _ _
theorem put8_size (o : Nat) (e : Ent) (u : Value) : (put8 w rb o e u).heap.size = w.heap.size := by unfold put8; simp [World.setCell]
theorem EC.some_ (h : EC w rb n f) {i : Nat} (hi : i < n) : ∀ j, j < 8 → (w.cell? ⟨rb, i * 8 + j, none⟩).isSome = true := fun j hj => by
  obtain ⟨v, hv⟩ : ∃ v, (entC (f i).1 (f i).2)[j]? = some v := ⟨_, List.getElem?_eq_getElem (by simpa [entC] using hj)⟩
  rw [h.cell i hi j v hv]; rfl
/-- an entry is stored -/
theorem EC.put (h : EC w rb n f) {i : Nat} (hi : i < n) (e : Ent) (u : Value) : EC (put8 w rb (i * 8) e u) rb n (updE f i (e, u)) := by
  refine ⟨fun k hk j v hv => ?_, fun k => ?_, by rw [put8_size]; exact h.lt⟩
  · unfold updE at hv
    by_cases hki : k = i
    · subst hki
      rw [if_pos rfl] at hv
      exact put8_in e u (h.some_ hi) j v hv
    · rw [if_neg hki] at hv
      have hj : j < 8 := by have := (List.getElem?_eq_some_iff.1 hv).1; simpa [entC] using this
      rw [put8_far e u (by omega)]
      exact h.cell k hk j v hv
  · unfold put8
    simp only [World.frozen?_setCell]
    exact h.fz k
end
/-- numbers of entries that lie elsewhere -/
def NumsAt (n : Nat) (f : Nat → EV) (w : World) : Prop := ∀ i, i < n → Row w 1 (f i).2 (f i).1.nums.length (ints (f i).1.nums)
end Go.Proofs.YtcidfldeiklcjaaGreatDoor
namespace Go.Proofs.YtcidfldeiklcjaaGreatDoor
open Go.RowKit Tm

def Mem (n : Nat) (f0 f : Nat → EV) : Prop := ∀ z, (∃ k, k < n ∧ f k = z) ↔ (∃ k, k < n ∧ f0 k = z)
theorem Mem.refl (n : Nat) (f : Nat → EV) : Mem n f f := fun _ => Iff.rfl
def SortedE (n : Nat) (f : Nat → EV) : Prop := ∀ a b, a < b → b < n → ¬ ltE (f b).1 (f a).1
theorem leE_trans {a b c : Ent} (ha : EntI a) (hb : EntI b) (h1 : ¬ ltE b a) (h2 : ¬ ltE c b) : ¬ ltE c a := fun h => by
  rcases ltE_tri ha hb with h3 | h3 | h3
  · exact h2 (ltE_trans h h3)
  · subst h3; exact h2 h
  · exact h1 h3
def swapE (f : Nat → EV) (m : Nat) : Nat → EV := fun k => if k = m + 1 then f m else if k = m then f (m + 1) else f k
theorem swapE_mem {n m : Nat} {f0 f : Nat → EV} (h : Mem n f0 f) (hm : m + 1 < n) : Mem n f0 (swapE f m) := fun z => by
  rw [← h z]
  constructor
  · rintro ⟨k, hk, rfl⟩
    unfold swapE
    by_cases e1 : k = m + 1
    · exact ⟨m, by omega, by rw [if_pos e1]⟩
    · by_cases e2 : k = m
      · exact ⟨m + 1, hm, by rw [if_neg e1, if_pos e2]⟩
      · exact ⟨k, hk, by rw [if_neg e1, if_neg e2]⟩
  · rintro ⟨k, hk, rfl⟩
    unfold swapE
    by_cases e1 : k = m + 1
    · exact ⟨m, by omega, by rw [if_neg (by omega), if_pos rfl, e1]⟩
    · by_cases e2 : k = m
      · exact ⟨m + 1, hm, by rw [if_pos rfl, e2]⟩
      · exact ⟨k, hk, by rw [if_neg e1, if_neg e2]⟩
/-- the element of place j goes down to its place -/
def InsL (f : Nat → EV) (i j : Nat) : Prop := ∀ a b, a < b → b ≤ i → b ≠ j → ¬ ltE (f b).1 (f a).1
theorem InsL.start {f : Nat → EV} {i : Nat} (h : SortedE i f) : InsL f i i := fun a b hab hb hne => h a b hab (by omega)
theorem InsL.step {f : Nat → EV} {i m : Nat} (h : InsL f i (m + 1)) (hm : m + 1 ≤ i) (hlt : ltE (f (m + 1)).1 (f m).1) : InsL (swapE f m) i m := fun a b hab hb hne => by
  unfold swapE
  by_cases e1 : b = m + 1
  · subst e1
    rw [if_pos rfl]
    by_cases e2 : a = m
    · subst e2
      rw [if_neg (by omega), if_pos rfl]
      exact fun hx => ltE_irrefl _ (ltE_trans hx hlt)
    · rw [if_neg (by omega), if_neg e2]
      exact h a m (by omega) (by omega) (by omega)
  · rw [if_neg e1, if_neg hne]
    by_cases e2 : a = m + 1
    · subst e2
      rw [if_pos rfl]
      exact h m b (by omega) hb e1
    · by_cases e3 : a = m
      · subst e3
        rw [if_neg (by omega), if_pos rfl]
        exact h (a + 1) b (by omega) hb e1
      · rw [if_neg e2, if_neg e3]
        exact h a b hab hb e1
theorem InsL.zero {f : Nat → EV} {i : Nat} (h : InsL f i 0) : SortedE (i + 1) f := fun a b hab hb => h a b hab (by omega) (by omega)
theorem InsL.done {f : Nat → EV} {i m : Nat} (hI : ∀ k, k ≤ i → EntI (f k).1) (h : InsL f i (m + 1)) (hm : m + 1 ≤ i) (hn : ¬ ltE (f (m + 1)).1 (f m).1) : SortedE (i + 1) f := fun a b hab hb => by
  by_cases e : b = m + 1
  · subst e
    by_cases e2 : a = m
    · subst e2; exact hn
    · exact leE_trans (hI a (by omega)) (hI m (by omega)) (h a m (by omega) (by omega) (by omega)) hn
  · exact h a b hab (by omega) e
theorem Mem.all {n : Nat} {f0 f : Nat → EV} {P : EV → Prop} (h : Mem n f0 f) (hp : ∀ k, k < n → P (f0 k)) : ∀ k, k < n → P (f k) := fun k hk => by
  obtain ⟨j, hj, e⟩ := (h (f k)).1 ⟨k, hk, rfl⟩
  rw [← e]
  exact hp j hj

/-- a row of entries that is put in order -/
structure SoW (w wr : World) (rb n : Nat) (f0 f : Nat → EV) : Prop where
  ec : EC wr rb n f
  mem : Mem n f0 f
  kept : Kept [rb] w wr
section
variable {w wr w' : World} {rb n : Nat} {f0 f : Nat → EV}
theorem SoW.keep (h : SoW w wr rb n f0 f) (k : Kept [] wr w') : SoW w w' rb n f0 f := ⟨h.ec.kept k (by simp), h.mem, h.kept.then_ k (by simp)⟩
theorem SoW.swap (h : SoW w wr rb n f0 f) {m : Nat} (hm : m + 1 < n) : SoW w (put8 (put8 wr rb ((m + 1) * 8) (f m).1 (f m).2) rb (m * 8) (f (m + 1)).1 (f (m + 1)).2) rb n f0 (swapE f m) := by
  refine ⟨((h.ec.put hm (f m).1 (f m).2).put (show m < n by omega) (f (m + 1)).1 (f (m + 1)).2).congr fun i hi => ?_, swapE_mem h.mem hm, (h.kept.trans (put8_kept _ _ _)).trans (put8_kept _ _ _)⟩
  unfold updE swapE
  by_cases e1 : i = m + 1
  · rw [if_neg (by omega), if_pos e1, if_pos e1]
  · by_cases e2 : i = m
    · rw [if_pos e2, if_neg e1, if_pos e2]
    · rw [if_neg e2, if_neg e1, if_neg e1, if_neg e2]
end
/-- how sorting ends -/
def SoE (w : World) (rb n : Nat) (f0 : Nat → EV) (e : Ending) (w' : World) : Prop := e = .returned (.tuple #[]) ∧ ∃ f, SortedE n f ∧ SoW w w' rb n f0 f
abbrev entF (e : Ent) (u : Value) : Array Value := #[.int .i64 e.gate, .int .i64 e.no, .int .i64 e.time, .int .i64 e.kind, u, .string ⟨e.text.toArray⟩, .int .i64 e.c, .int .i64 e.s]

set_option maxRecDepth 100000 in
set_option maxHeartbeats 4000000 in
theorem insertion_any (rb n cap : Nat) (f0 : Nat → EV) (w : World) (hc : EC w rb n f0) (hn : Stable [rb] (NumsAt n f0) w) (hI : ∀ k, k < n → EntI (f0 k).1) (hrb : NG ≤ rb) (hE : Env w) (hl : n ≤ 1000) :
    Calls Tryz.prog 108 #[.slice (some ⟨rb, 0, none⟩) n cap, .int .i64 0, .int .i64 n, .func (.func 43) #[] #[]] w (SoE w rb n f0) := by
  have HC : Hid (∀ f wr a b, SoW w wr rb n f0 f → a < n → b < n → ∀ x : KW wr, Calls Tryz.prog 43 #[.agg (entF (f a).1 (f a).2), .agg (entF (f b).1 (f b).2)] x.val fun en w2 => en = .returned (.int .i64 (cmpE (f a).1 (f b).1)) ∧ Kept [] x.val w2) := fun f wr a b h ha hb x => by
    have kk : Kept [rb] w x.val := h.kept.then_ x.property (by simp)
    have hr : NumsAt n f0 x.val := hn [rb] x.val kk (fun z hz _ => hz)
    have row : ∀ i, i < n → EntA x.val (.agg (entF (f i).1 (f i).2)) (f i).1 := fun i hi => by
      obtain ⟨j, hj, e⟩ := (h.mem (f i)).1 ⟨i, hi, rfl⟩
      rw [← e]
      exact ⟨(f0 j).2, rfl, hr j hj⟩
    exact before_any _ _ _ _ x.val (row a ha) (row b hb) (h.mem.all (P := fun p => EntI p.1) hI a ha) (h.mem.all (P := fun p => EntI p.1) hI b hb) (hE.kept kk (by simpa using hrb))
  have HR : Hid (∀ f wr, SoW w wr rb n f0 f → NumsAt n f wr) := fun f wr h i hi => by
    have hr : NumsAt n f0 wr := hn [rb] wr h.kept (fun z hz _ => hz)
    obtain ⟨j, hj, e⟩ := (h.mem (f i)).1 ⟨i, hi, rfl⟩
    rw [← e]
    exact hr j hj
  have HI := Lib.hid hI
  have HS0 : Hid (SoW w w rb n f0 f0) := Lib.hid ⟨hc, Mem.refl _ _, Kept.refl _ _⟩
  clear hc hn hI hE
  go_enter Tryz.func108, Tryz.ntmps108
  go_wp2_with fail
  go_loopw [8] (fun vi wr => ∃ (i : Nat) (f : Nat → EV), 1 ≤ i ∧ vi = .int .i64 i ∧ SortedE (min i n) f ∧ SoW w wr rb n f0 f) (fun vi _ => n - (intOf vi).toNat)
  case atStart => exact ⟨1, f0, Nat.le_refl _, rfl, fun a b hab hb => by omega, HS0.out⟩
  case round =>
    obtain ⟨i, f, hi1, rfl, hso, hS⟩ := hrel
    have HSO := Lib.hid hso
    have HS := Lib.hid hS
    clear hso hS HS0
    by_cases hlt : i < n
    · have hsi : SortedE i f := by have := HSO.out; rwa [Nat.min_eq_left (by omega)] at this
      have HL := Lib.hid (InsL.start hsi)
      clear hsi
      go_wp2_with fail
      go_loopw [9] (fun vj wr => ∃ (j : Nat) (f : Nat → EV), j ≤ i ∧ vj = .int .i64 j ∧ InsL f i j ∧ SoW w wr rb n f0 f) (fun vj _ => (intOf vj).toNat)
      case atStart => exact ⟨i, f, Nat.le_refl _, rfl, HL.out, HS.out⟩
      case round =>
        obtain ⟨j, g, hj, rfl, hg, hT⟩ := hrel
        have HG := Lib.hid hg
        have HT := Lib.hid hT
        clear hg hT
        by_cases hj0 : j = 0
        · subst hj0
          have HZ := Lib.hid HG.out.zero
          go_upto_region 4 with (fail)
          refine wp_region_kept wr (Kept.refl _ _) (by kernel_rfl) (by kernel_rfl) ?_
          repeat (go_big_quiet_step (fail))
          refine wpQuiet_nil ?_
          rintro w5 ⟨⟨_, hk5⟩, rfl⟩
          go_wp2_with fail
          refine ⟨⟨i + 1, g, by omega, by go_num, ?_, HT.out.keep hk5⟩, by simp [intOf]; omega⟩
          rw [Nat.min_eq_left (by omega)]
          exact HZ.out
        · obtain ⟨m, hjm⟩ : ∃ m, j = m + 1 := ⟨j - 1, by omega⟩
          have hjn : j < n := by omega
          have hmn : m < n := by omega
          have hw : IntKind.i64.wrap ((j : Int) - 1) = (m : Int) := by rw [IntKind.wrap_i64]; omega
          have hj1 : decide (0 < j) = true := decide_eq_true (by omega)
          have hjp : 0 < j := by omega
          obtain ⟨ej, uj, hgj⟩ : ∃ e u, g j = (e, u) := ⟨_, _, rfl⟩
          obtain ⟨em, um, hgm⟩ : ∃ e u, g m = (e, u) := ⟨_, _, rfl⟩
          have HGJ := Lib.hid hgj
          have HGM := Lib.hid hgm
          have hcl := HC.out g wr j m HT.out hjn hmn
          rw [hgj, hgm] at hcl
          have CL := Lib.hid hcl
          have hrj : Row wr 1 uj ej.nums.length (ints ej.nums) ∧ Row wr 1 um em.nums.length (ints em.nums) := by
            have hr := HR.out g wr HT.out
            have h1 := hr j hjn
            have h2 := hr m hmn
            rw [hgj] at h1
            rw [hgm] at h2
            exact ⟨h1, h2⟩
          obtain ⟨ja, jc, rfl, _, _⟩ := hrj.1.form
          obtain ⟨ma, mc, rfl, _, _⟩ := hrj.2.form
          have HJM := Lib.hid hjm
          clear hgj hgm hcl hrj hjm
          have p0 : ∀ x : KW wr, x.val.cell? ⟨rb, j * 8, none⟩ = some (.int .i64 ej.gate) := fun x => x.cell (HT.out.ec.cell j hjn 0 _ (by rw [HGJ.out]; rfl))
          have p1 : ∀ x : KW wr, x.val.cell? ⟨rb, j * 8 + 1, none⟩ = some (.int .i64 ej.no) := fun x => x.cell (HT.out.ec.cell j hjn 1 _ (by rw [HGJ.out]; rfl))
          have p2 : ∀ x : KW wr, x.val.cell? ⟨rb, j * 8 + 2, none⟩ = some (.int .i64 ej.time) := fun x => x.cell (HT.out.ec.cell j hjn 2 _ (by rw [HGJ.out]; rfl))
          have p3 : ∀ x : KW wr, x.val.cell? ⟨rb, j * 8 + 3, none⟩ = some (.int .i64 ej.kind) := fun x => x.cell (HT.out.ec.cell j hjn 3 _ (by rw [HGJ.out]; rfl))
          have p4 : ∀ x : KW wr, x.val.cell? ⟨rb, j * 8 + 4, none⟩ = some (.slice ja ej.nums.length jc) := fun x => x.cell (HT.out.ec.cell j hjn 4 _ (by rw [HGJ.out]; rfl))
          have p5 : ∀ x : KW wr, x.val.cell? ⟨rb, j * 8 + 5, none⟩ = some (.string ⟨ej.text.toArray⟩) := fun x => x.cell (HT.out.ec.cell j hjn 5 _ (by rw [HGJ.out]; rfl))
          have p6 : ∀ x : KW wr, x.val.cell? ⟨rb, j * 8 + 6, none⟩ = some (.int .i64 ej.c) := fun x => x.cell (HT.out.ec.cell j hjn 6 _ (by rw [HGJ.out]; rfl))
          have p7 : ∀ x : KW wr, x.val.cell? ⟨rb, j * 8 + 7, none⟩ = some (.int .i64 ej.s) := fun x => x.cell (HT.out.ec.cell j hjn 7 _ (by rw [HGJ.out]; rfl))
          have q0 : ∀ x : KW wr, x.val.cell? ⟨rb, m * 8, none⟩ = some (.int .i64 em.gate) := fun x => x.cell (HT.out.ec.cell m hmn 0 _ (by rw [HGM.out]; rfl))
          have q1 : ∀ x : KW wr, x.val.cell? ⟨rb, m * 8 + 1, none⟩ = some (.int .i64 em.no) := fun x => x.cell (HT.out.ec.cell m hmn 1 _ (by rw [HGM.out]; rfl))
          have q2 : ∀ x : KW wr, x.val.cell? ⟨rb, m * 8 + 2, none⟩ = some (.int .i64 em.time) := fun x => x.cell (HT.out.ec.cell m hmn 2 _ (by rw [HGM.out]; rfl))
          have q3 : ∀ x : KW wr, x.val.cell? ⟨rb, m * 8 + 3, none⟩ = some (.int .i64 em.kind) := fun x => x.cell (HT.out.ec.cell m hmn 3 _ (by rw [HGM.out]; rfl))
          have q4 : ∀ x : KW wr, x.val.cell? ⟨rb, m * 8 + 4, none⟩ = some (.slice ma em.nums.length mc) := fun x => x.cell (HT.out.ec.cell m hmn 4 _ (by rw [HGM.out]; rfl))
          have q5 : ∀ x : KW wr, x.val.cell? ⟨rb, m * 8 + 5, none⟩ = some (.string ⟨em.text.toArray⟩) := fun x => x.cell (HT.out.ec.cell m hmn 5 _ (by rw [HGM.out]; rfl))
          have q6 : ∀ x : KW wr, x.val.cell? ⟨rb, m * 8 + 6, none⟩ = some (.int .i64 em.c) := fun x => x.cell (HT.out.ec.cell m hmn 6 _ (by rw [HGM.out]; rfl))
          have q7 : ∀ x : KW wr, x.val.cell? ⟨rb, m * 8 + 7, none⟩ = some (.int .i64 em.s) := fun x => x.cell (HT.out.ec.cell m hmn 7 _ (by rw [HGM.out]; rfl))
          have hjI : (j : Int) < (n : Int) := by omega
          have hmI : (m : Int) < (n : Int) := by omega
          go_upto_region 4 with (fail)
          refine wp_region_kept wr (Kept.refl _ _) (by kernel_rfl) (by kernel_rfl) ?_
          repeat (go_big_quiet_step (first | (go_at_call 43; exact quiet_kept (CL.out _))))
          refine wpQuiet_nil ?_
          rintro w5 ⟨⟨_, hk5⟩, rfl⟩
          have HT5 := Lib.hid (HT.out.keep hk5)
          have HLE := Lib.hid (cmpE_lt ej em)
          have HII := HI.out
          obtain ⟨cv, hcv⟩ : ∃ c, cmpE ej em = c := ⟨_, rfl⟩
          rw [hcv] at HLE ⊢
          clear p0 p1 p2 p3 p4 p5 p6 p7 q0 q1 q2 q3 q4 q5 q6 q7 CL hcv hk5 HII
          by_cases hlt2 : cv < 0
          · have hd : decide (cv < 0) = true := decide_eq_true hlt2
            have HLT : Hid (ltE ej em) := Lib.hid (HLE.out.1 hlt2)
            have hnc : ¬ 0 ≤ cv := by omega
            go_upto_region 6 with (fail)
            clear hd hnc hlt2
            have p0 : w5.cell? ⟨rb, j * 8, none⟩ = some (.int .i64 ej.gate) := HT5.out.ec.cell j hjn 0 _ (by rw [HGJ.out]; rfl)
            have fp0 : w5.frozen? ⟨rb, j * 8, none⟩ = false := HT5.out.ec.fz _
            have p1 : w5.cell? ⟨rb, j * 8 + 1, none⟩ = some (.int .i64 ej.no) := HT5.out.ec.cell j hjn 1 _ (by rw [HGJ.out]; rfl)
            have fp1 : w5.frozen? ⟨rb, j * 8 + 1, none⟩ = false := HT5.out.ec.fz _
            have p2 : w5.cell? ⟨rb, j * 8 + 2, none⟩ = some (.int .i64 ej.time) := HT5.out.ec.cell j hjn 2 _ (by rw [HGJ.out]; rfl)
            have fp2 : w5.frozen? ⟨rb, j * 8 + 2, none⟩ = false := HT5.out.ec.fz _
            have p3 : w5.cell? ⟨rb, j * 8 + 3, none⟩ = some (.int .i64 ej.kind) := HT5.out.ec.cell j hjn 3 _ (by rw [HGJ.out]; rfl)
            have fp3 : w5.frozen? ⟨rb, j * 8 + 3, none⟩ = false := HT5.out.ec.fz _
            have p4 : w5.cell? ⟨rb, j * 8 + 4, none⟩ = some (.slice ja ej.nums.length jc) := HT5.out.ec.cell j hjn 4 _ (by rw [HGJ.out]; rfl)
            have fp4 : w5.frozen? ⟨rb, j * 8 + 4, none⟩ = false := HT5.out.ec.fz _
            have p5 : w5.cell? ⟨rb, j * 8 + 5, none⟩ = some (.string ⟨ej.text.toArray⟩) := HT5.out.ec.cell j hjn 5 _ (by rw [HGJ.out]; rfl)
            have fp5 : w5.frozen? ⟨rb, j * 8 + 5, none⟩ = false := HT5.out.ec.fz _
            have p6 : w5.cell? ⟨rb, j * 8 + 6, none⟩ = some (.int .i64 ej.c) := HT5.out.ec.cell j hjn 6 _ (by rw [HGJ.out]; rfl)
            have fp6 : w5.frozen? ⟨rb, j * 8 + 6, none⟩ = false := HT5.out.ec.fz _
            have p7 : w5.cell? ⟨rb, j * 8 + 7, none⟩ = some (.int .i64 ej.s) := HT5.out.ec.cell j hjn 7 _ (by rw [HGJ.out]; rfl)
            have fp7 : w5.frozen? ⟨rb, j * 8 + 7, none⟩ = false := HT5.out.ec.fz _
            have q0 : w5.cell? ⟨rb, m * 8, none⟩ = some (.int .i64 em.gate) := HT5.out.ec.cell m hmn 0 _ (by rw [HGM.out]; rfl)
            have fq0 : w5.frozen? ⟨rb, m * 8, none⟩ = false := HT5.out.ec.fz _
            have q1 : w5.cell? ⟨rb, m * 8 + 1, none⟩ = some (.int .i64 em.no) := HT5.out.ec.cell m hmn 1 _ (by rw [HGM.out]; rfl)
            have fq1 : w5.frozen? ⟨rb, m * 8 + 1, none⟩ = false := HT5.out.ec.fz _
            have q2 : w5.cell? ⟨rb, m * 8 + 2, none⟩ = some (.int .i64 em.time) := HT5.out.ec.cell m hmn 2 _ (by rw [HGM.out]; rfl)
            have fq2 : w5.frozen? ⟨rb, m * 8 + 2, none⟩ = false := HT5.out.ec.fz _
            have q3 : w5.cell? ⟨rb, m * 8 + 3, none⟩ = some (.int .i64 em.kind) := HT5.out.ec.cell m hmn 3 _ (by rw [HGM.out]; rfl)
            have fq3 : w5.frozen? ⟨rb, m * 8 + 3, none⟩ = false := HT5.out.ec.fz _
            have q4 : w5.cell? ⟨rb, m * 8 + 4, none⟩ = some (.slice ma em.nums.length mc) := HT5.out.ec.cell m hmn 4 _ (by rw [HGM.out]; rfl)
            have fq4 : w5.frozen? ⟨rb, m * 8 + 4, none⟩ = false := HT5.out.ec.fz _
            have q5 : w5.cell? ⟨rb, m * 8 + 5, none⟩ = some (.string ⟨em.text.toArray⟩) := HT5.out.ec.cell m hmn 5 _ (by rw [HGM.out]; rfl)
            have fq5 : w5.frozen? ⟨rb, m * 8 + 5, none⟩ = false := HT5.out.ec.fz _
            have q6 : w5.cell? ⟨rb, m * 8 + 6, none⟩ = some (.int .i64 em.c) := HT5.out.ec.cell m hmn 6 _ (by rw [HGM.out]; rfl)
            have fq6 : w5.frozen? ⟨rb, m * 8 + 6, none⟩ = false := HT5.out.ec.fz _
            have q7 : w5.cell? ⟨rb, m * 8 + 7, none⟩ = some (.int .i64 em.s) := HT5.out.ec.cell m hmn 7 _ (by rw [HGM.out]; rfl)
            have fq7 : w5.frozen? ⟨rb, m * 8 + 7, none⟩ = false := HT5.out.ec.fz _
            have jm := HJM.out
            have n0 : ¬ j = m := by omega
            have n00 : ¬ j * 8 = m * 8 := by omega
            have nb1 : ¬ j * 8 = m * 8 + 1 := by omega
            have nc1 : ¬ j * 8 + 1 = m * 8 := by omega
            have nb2 : ¬ j * 8 = m * 8 + 2 := by omega
            have nc2 : ¬ j * 8 + 2 = m * 8 := by omega
            have nb3 : ¬ j * 8 = m * 8 + 3 := by omega
            have nc3 : ¬ j * 8 + 3 = m * 8 := by omega
            have nb4 : ¬ j * 8 = m * 8 + 4 := by omega
            have nc4 : ¬ j * 8 + 4 = m * 8 := by omega
            have nb5 : ¬ j * 8 = m * 8 + 5 := by omega
            have nc5 : ¬ j * 8 + 5 = m * 8 := by omega
            have nb6 : ¬ j * 8 = m * 8 + 6 := by omega
            have nc6 : ¬ j * 8 + 6 = m * 8 := by omega
            have nb7 : ¬ j * 8 = m * 8 + 7 := by omega
            have nc7 : ¬ j * 8 + 7 = m * 8 := by omega
            have nd11 : ¬ j * 8 + 1 = m * 8 + 1 := by omega
            have nd12 : ¬ j * 8 + 1 = m * 8 + 2 := by omega
            have nd13 : ¬ j * 8 + 1 = m * 8 + 3 := by omega
            have nd14 : ¬ j * 8 + 1 = m * 8 + 4 := by omega
            have nd15 : ¬ j * 8 + 1 = m * 8 + 5 := by omega
            have nd16 : ¬ j * 8 + 1 = m * 8 + 6 := by omega
            have nd17 : ¬ j * 8 + 1 = m * 8 + 7 := by omega
            have nd21 : ¬ j * 8 + 2 = m * 8 + 1 := by omega
            have nd22 : ¬ j * 8 + 2 = m * 8 + 2 := by omega
            have nd23 : ¬ j * 8 + 2 = m * 8 + 3 := by omega
            have nd24 : ¬ j * 8 + 2 = m * 8 + 4 := by omega
            have nd25 : ¬ j * 8 + 2 = m * 8 + 5 := by omega
            have nd26 : ¬ j * 8 + 2 = m * 8 + 6 := by omega
            have nd27 : ¬ j * 8 + 2 = m * 8 + 7 := by omega
            have nd31 : ¬ j * 8 + 3 = m * 8 + 1 := by omega
            have nd32 : ¬ j * 8 + 3 = m * 8 + 2 := by omega
            have nd33 : ¬ j * 8 + 3 = m * 8 + 3 := by omega
            have nd34 : ¬ j * 8 + 3 = m * 8 + 4 := by omega
            have nd35 : ¬ j * 8 + 3 = m * 8 + 5 := by omega
            have nd36 : ¬ j * 8 + 3 = m * 8 + 6 := by omega
            have nd37 : ¬ j * 8 + 3 = m * 8 + 7 := by omega
            have nd41 : ¬ j * 8 + 4 = m * 8 + 1 := by omega
            have nd42 : ¬ j * 8 + 4 = m * 8 + 2 := by omega
            have nd43 : ¬ j * 8 + 4 = m * 8 + 3 := by omega
            have nd44 : ¬ j * 8 + 4 = m * 8 + 4 := by omega
            have nd45 : ¬ j * 8 + 4 = m * 8 + 5 := by omega
            have nd46 : ¬ j * 8 + 4 = m * 8 + 6 := by omega
            have nd47 : ¬ j * 8 + 4 = m * 8 + 7 := by omega
            have nd51 : ¬ j * 8 + 5 = m * 8 + 1 := by omega
            have nd52 : ¬ j * 8 + 5 = m * 8 + 2 := by omega
            have nd53 : ¬ j * 8 + 5 = m * 8 + 3 := by omega
            have nd54 : ¬ j * 8 + 5 = m * 8 + 4 := by omega
            have nd55 : ¬ j * 8 + 5 = m * 8 + 5 := by omega
            have nd56 : ¬ j * 8 + 5 = m * 8 + 6 := by omega
            have nd57 : ¬ j * 8 + 5 = m * 8 + 7 := by omega
            have nd61 : ¬ j * 8 + 6 = m * 8 + 1 := by omega
            have nd62 : ¬ j * 8 + 6 = m * 8 + 2 := by omega
            have nd63 : ¬ j * 8 + 6 = m * 8 + 3 := by omega
            have nd64 : ¬ j * 8 + 6 = m * 8 + 4 := by omega
            have nd65 : ¬ j * 8 + 6 = m * 8 + 5 := by omega
            have nd66 : ¬ j * 8 + 6 = m * 8 + 6 := by omega
            have nd67 : ¬ j * 8 + 6 = m * 8 + 7 := by omega
            have nd71 : ¬ j * 8 + 7 = m * 8 + 1 := by omega
            have nd72 : ¬ j * 8 + 7 = m * 8 + 2 := by omega
            have nd73 : ¬ j * 8 + 7 = m * 8 + 3 := by omega
            have nd74 : ¬ j * 8 + 7 = m * 8 + 4 := by omega
            have nd75 : ¬ j * 8 + 7 = m * 8 + 5 := by omega
            have nd76 : ¬ j * 8 + 7 = m * 8 + 6 := by omega
            have nd77 : ¬ j * 8 + 7 = m * 8 + 7 := by omega
            clear jm
            go_region
            have HSW : Hid (SoW w (put8 (put8 w5 rb (j * 8) em (.slice ma em.nums.length mc)) rb (m * 8) ej (.slice ja ej.nums.length jc)) rb n f0 (swapE g m)) := by
              have hjm := HJM.out
              subst hjm
              have h := HT5.out.swap (m := m) hjn
              rw [HGM.out, HGJ.out] at h
              exact h
            have HIL : Hid (InsL (swapE g m) i m) := by
              have hjm := HJM.out
              subst hjm
              exact HG.out.step hj (by rw [HGJ.out, HGM.out]; exact HLT.out)
            all_goals
              clear n0 n00 nb1 nc1 nb2 nc2 nb3 nc3 nb4 nc4 nb5 nc5 nb6 nc6 nb7 nc7 nd11 nd12 nd13 nd14 nd15 nd16 nd17 nd21 nd22 nd23 nd24 nd25 nd26 nd27 nd31 nd32 nd33 nd34 nd35 nd36 nd37 nd41 nd42 nd43 nd44 nd45 nd46 nd47 nd51 nd52 nd53 nd54 nd55 nd56 nd57 nd61 nd62 nd63 nd64 nd65 nd66 nd67 nd71 nd72 nd73 nd74 nd75 nd76 nd77 p0 q0 fp0 fq0 p1 q1 fp1 fq1 p2 q2 fp2 fq2 p3 q3 fp3 fq3 p4 q4 fp4 fq4 p5 q5 fp5 fq5 p6 q6 fp6 fq6 p7 q7 fp7 fq7
              obtain ⟨w6, hw6⟩ : ∃ w6, (put8 (put8 w5 rb (j * 8) em (.slice ma em.nums.length mc)) rb (m * 8) ej (.slice ja ej.nums.length jc)).drew = w6 := ⟨_, rfl⟩
              have HS6 : Hid (SoW w w6 rb n f0 (swapE g m)) := Lib.hid (hw6 ▸ HSW.out.keep (Kept.refl _ _).drew)
              change Exit.inBlock 3 _ Exit.normal _ (put8 (put8 w5 rb (j * 8) em (.slice ma em.nums.length mc)) rb (m * 8) ej (.slice ja ej.nums.length jc)).drew
              rw [hw6]
              clear hw6 HSW
              go_wp2_with fail
              go_roundw
              case rel => exact ⟨m, swapE g m, by have := HJM.out; omega, rfl, HIL.out, HS6.out⟩
              case measure => have := HJM.out; simp [intOf]; omega
          · have hd : decide (cv < 0) = false := decide_eq_false hlt2
            have HLT : Hid (¬ ltE ej em) := Lib.hid (fun h => hlt2 (HLE.out.2 h))
            have hnc : 0 ≤ cv := by omega
            have HZ : Hid (SortedE (i + 1) g) := by
              have h1 := HG.out
              have hjm := HJM.out
              subst hjm
              exact InsL.done (fun k hk => HT.out.mem.all (P := fun p => EntI p.1) HI.out k (by omega)) h1 hj (by rw [HGJ.out, HGM.out]; exact HLT.out)
            go_wp2_with fail
            refine ⟨⟨i + 1, g, by omega, by go_num, ?_, HT5.out⟩, by simp [intOf]; omega⟩
            rw [Nat.min_eq_left (by omega)]
            exact HZ.out
    · have HZ : Hid (SortedE n f) := by have := HSO.out; rw [Nat.min_eq_right (by omega)] at this; exact this
      have hlt' : ¬ (i : Int) < (n : Int) := by omega
      go_wp2_with fail
      go_end0
      exact ⟨rfl, f, HZ.out, HS.out⟩

set_option maxRecDepth 100000 in
set_option maxHeartbeats 1600000 in
theorem pdq_any (rb n cap : Nat) (f0 : Nat → EV) (lim : Int) (w : World) (hc : EC w rb n f0) (hn : Stable [rb] (NumsAt n f0) w) (hI : ∀ k, k < n → EntI (f0 k).1) (hrb : NG ≤ rb) (hE : Env w) (hl : n ≤ 12) :
    Calls Tryz.prog 72 #[.slice (some ⟨rb, 0, none⟩) n cap, .int .i64 0, .int .i64 n, .int .i64 lim, .func (.func 43) #[] #[]] w (SoE w rb n f0) := by
  have IN := Lib.hid (insertion_any rb n cap f0 w hc hn hI hrb hE (by omega))
  have d1 : decide ((n : Int) ≤ 12) = true := decide_eq_true (by omega)
  have d2 : decide (n ≤ 12) = true := decide_eq_true hl
  clear hc hn hI hE
  go_enter Tryz.func72, Tryz.ntmps72
  go_wp2_with fail
  refine wp_loop_rounds 1 ?_
  rw [rounds_succ]
  go_wp2_with (go_at_call 108; refine IN.out.mono ?_)
  rintro e w1 ⟨rfl, f, h1, h2⟩
  have H1 := Lib.hid h1
  have H2 := Lib.hid h2
  clear h1 h2
  go_wp2_with fail
  go_end0
  exact ⟨rfl, f, H1.out, H2.out⟩
set_option maxRecDepth 100000 in
set_option maxHeartbeats 800000 in
theorem sort_any (rb n cap : Nat) (f0 : Nat → EV) (w : World) (hc : EC w rb n f0) (hn : Stable [rb] (NumsAt n f0) w) (hI : ∀ k, k < n → EntI (f0 k).1) (hrb : NG ≤ rb) (hE : Env w) (hl : n ≤ 12) :
    Calls Tryz.prog 42 #[.slice (some ⟨rb, 0, none⟩) n cap, .func (.func 43) #[] #[]] w (SoE w rb n f0) := by
  have PQ := Lib.hid (fun lim => pdq_any rb n cap f0 lim w hc hn hI hrb hE hl)
  have BL := Lib.hid (Tryz.bits_Len (n : Int) w (by omega) (by omega))
  have c1 : IntKind.u64.wrap (n : Int) = (n : Int) := by rw [IntKind.wrap_u64]; omega
  clear hc hn hI hE
  go_enter Tryz.func42, Tryz.ntmps42
  go_wp2_with (go_at_call 73; refine BL.out.mono ?_)
  rintro e w1 ⟨rfl, rfl⟩
  go_wp2_with (go_at_call 72; refine (PQ.out _).mono ?_)
  rintro e w1 ⟨rfl, f, h1, h2⟩
  have H1 := Lib.hid h1
  have H2 := Lib.hid h2
  clear h1 h2
  go_wp2_with fail
  go_end0
  exact ⟨rfl, f, H1.out, H2.out⟩
end Go.Proofs.YtcidfldeiklcjaaGreatDoor
