/- What Bounds, Conflict and Impossible say of one another; entries as they come in. -/
import Derived.Test.YtcidfldeiklcjaaGreatDoorFwt
import Derived.Test.YtcidfldeiklcjaaGreatDoorCyc
namespace Go.Proofs.YtcidfldeiklcjaaGreatDoor
open Go.RowKit Tm Bf

/-- an entry as it comes in -/
structure EntJ (e : Ent) : Prop where
  h0 : Wire.I64 e.gate
  h1 : Wire.I64 e.no
  h2 : Wire.I64 e.time
  h3 : Wire.I64 e.kind
  h4 : ∀ x ∈ e.nums, Wire.I64 x
  h5 : Wire.I64 e.c
  h6 : Wire.I64 e.s
  l4 : e.nums.length ≤ 9223372036854775807
  l5 : e.text.length ≤ 9223372036854775807
theorem entI_few {e : Ent} (h : EntJ e) (hf : fewB e = true) : EntI e := by
  unfold fewB at hf
  simp only [Bool.and_eq_true, decide_eq_true_eq] at hf
  exact ⟨h.h0, h.h1, h.h2, h.h3, h.h4, h.h5, h.h6, by omega, by omega⟩
theorem fewL_all {l : List Ent} {m : Nat} (hJ : ∀ e ∈ l, EntJ e) (h : fewL l m = true) : l.length ≤ m ∧ ∀ e ∈ l, EntI e := by
  unfold fewL at h
  rw [Bool.and_eq_true, decide_eq_true_eq, List.all_eq_true] at h
  exact ⟨h.1, fun e he => entI_few (hJ e he) (h.2 e he)⟩
theorem sealA_i {s : Stp} {xs : List Int} {e : Ent} (h : EntI e) : EntI (sealA s xs e) := by
  unfold sealA
  split
  · split
    · next h2 =>
      refine entI_seal h ?_
      unfold sealOk at h2
      rw [Bool.and_eq_true] at h2
      obtain ⟨q, hok, _⟩ := setupB_ok (formedB_wf h2.1).2.1
      have h3 := hok.hq
      have h4 : s.Q = q := hok.hQ
      omega
    · exact h
  · exact h
theorem sealL_i {s : Stp} {xs : List Int} {l : List Ent} (h : ∀ e ∈ l, EntI e) : ∀ e ∈ sealL s xs l, EntI e := fun e he => by
  obtain ⟨x, hx, rfl⟩ := List.mem_map.1 he
  exact sealA_i (h x hx)
theorem pubL_i {s : Stp} {xs : List Int} : ∀ x ∈ pubL s xs, Wire.I64 x := fun x hx => by
  obtain ⟨y, _, rfl⟩ := List.mem_map.1 hx
  unfold pubN
  split
  · next h =>
    have h1 : setupB s = true := by
      rw [Bool.and_eq_true] at h
      exact h.1
    obtain ⟨q, hok, _⟩ := setupB_ok h1
    have h3 := hok.hq
    have h4 : s.Q = q := hok.hQ
    have h5 : pwrN s.Q.toNat s.G y < 2 * s.Q.toNat + 1 := Nat.mod_lt _ (by omega)
    exact ⟨by omega, by omega⟩
  · exact ⟨by decide, by decide⟩
theorem natI_inj {c d : List Nat} (h : natI c = natI d) : c = d := by
  unfold natI at h
  exact (List.map_inj_right (fun x y h => Int.ofNat.inj h)).1 h
theorem natI_i64 {c : List Nat} (h : ∀ x ∈ c, x < 100) : ∀ x ∈ natI c, Wire.I64 x := fun x hx => by
  obtain ⟨y, hy, rfl⟩ := List.mem_map.1 hx
  have := h y hy
  exact ⟨by omega, by omega⟩
theorem natI_at {c : List Nat} {i : Nat} : (natI c).getD i 0 = ((c.getD i 0 : Nat) : Int) := by
  unfold natI
  rw [List.getD_eq_getElem?_getD, List.getD_eq_getElem?_getD, List.getElem?_map]
  cases c[i]? <;> rfl
/-- where one list comes after another of its length, the first place that tells them apart says so -/
theorem lex_first {c d p q r : List Nat} {x y : Nat} (hc : c = p ++ x :: q) (hd : d = p ++ y :: r) (hxy : x < y) {i : Nat} (hi : i < c.length) (he : ∀ j, j < i → d.getD j 0 = c.getD j 0) (hn : d.getD i 0 ≠ c.getD i 0) : c.getD i 0 < d.getD i 0 := by
  have hlt : ∀ j, j < p.length → d.getD j 0 = c.getD j 0 := fun j hj => by
    rw [hc, hd, List.getD_eq_getElem?_getD, List.getD_eq_getElem?_getD, List.getElem?_append_left hj, List.getElem?_append_left hj]
  have hcp : c.getD p.length 0 = x := by rw [hc, List.getD_eq_getElem?_getD, List.getElem?_append_right (Nat.le_refl _)]; simp
  have hdp : d.getD p.length 0 = y := by rw [hd, List.getD_eq_getElem?_getD, List.getElem?_append_right (Nat.le_refl _)]; simp
  rcases Nat.lt_trichotomy i p.length with h | h | h
  · exact absurd (hlt i h) hn
  · subst h; rw [hcp, hdp]; exact hxy
  · have := he p.length h
    rw [hcp, hdp] at this
    omega

structure CycL (s : Stp) (keys : List Int) (l : List Ent) (dr : Int) (er : Int) (c : List Nat) : Prop where
  er : er = 13 ↔ c ≠ []
  imp : ImpP s keys l dr (natI c) ↔ c ≠ []
  len : c.length ≤ 13
  sm : ∀ x ∈ c, x < 100
  rest : ∀ cyc, ImpP s keys l dr cyc → c ≠ [] ∧ c.length ≤ cyc.length ∧ (cyc.length = c.length → ∀ i, i < c.length → (∀ j, j < i → cyc.getD j 0 = (natI c).getD j 0) → cyc.getD i 0 ≠ (natI c).getD i 0 → (natI c).getD i 0 < cyc.getD i 0)
theorem cyc_law {s : Stp} {keys : List Int} {l : List Ent} {dr : Int} {w w' w1 w1' : World} {e e1 : Ending} (hB : BdsE s keys l dr w e w') (hC : ConE s keys l dr w1 e1 w1') :
    ∃ (ba : Option Addr) (bn bc : Nat) (er : Int) (c : List Nat) (a : Option Addr) (cp : Nat), e = .returned (.tuple #[.slice ba bn bc, .int .i64 er]) ∧ e1 = .returned (.slice a c.length cp) ∧ Row w1' 1 (.slice a c.length cp) c.length (ints (natI c)) ∧ CycL s keys l dr er c := by
  obtain ⟨_, hb⟩ := hB
  obtain ⟨_, hc⟩ := hC
  rcases hb with ⟨h1, rfl⟩ | ⟨h1, o, hj, ho, hw, hd0, hd1, hb⟩
  · rcases hc with ⟨_, rfl⟩ | ⟨h2, _⟩
    · have no : ∀ cyc, ¬ ImpP s keys l dr cyc := fun cyc h => by have h2 := h.1; rw [h1] at h2; cases h2
      exact ⟨none, 0, 0, 1, [], none, 0, rfl, rfl, row_nil0 _, ⟨by simp, ⟨fun h => absurd h (no _), fun h => absurd rfl h⟩, by simp, by simp, fun cyc h => absurd h (no _)⟩⟩
    · rw [h1] at h2; cases h2
  · rcases hc with ⟨h2, _⟩ | ⟨_, o', hj', _, _, _, _, c, a, cp, rfl, hr, hcf⟩
    · rw [h1] at h2; cases h2
    · have ho' := join_one hj' hj
      subst ho'
      have hfe := conf_feas hcf (s := o'.length) (by omega) (gl_out o' dr) 8589934592 (fun a b ha hb => by
        rcases gl_bd o' dr hd0 hd1 hw a b ha hb with h | h
        · rw [h]; unfold far; omega
        · exact h.1) (by omega)
      have hac := conf_acc hcf
      have himp : ∀ cyc, ImpP s keys l dr cyc ↔ ∃ d, cyc = natI d ∧ Acc (Gl o' dr) (o'.length + 1) d := fun cyc => by
        rw [imp_iff cyc h1 hj]
        unfold ImpR
        rw [← acc_iff]
      have hlt : ∀ x ∈ c, x < o'.length + 1 := fun x hx => by
        have hne : c ≠ [] := by intro h; subst h; cases hx
        obtain ⟨⟨a', t', _, hwk, _⟩, _⟩ := hac.1 hne
        exact hwk.lt x (List.mem_append_left _ hx)
      have hlen : c.length ≤ 13 := by
        by_cases hne : c = []
        · rw [hne]; simp
        · have := nodup_le _ c (hac.1 hne).2 hlt
          omega
      have hL : ∀ er : Int, (er = 13 ↔ c ≠ []) → CycL s keys l dr er c := fun er her => ⟨her, by
          rw [himp]
          constructor
          · rintro ⟨d, hd, hacd⟩
            have h3 := natI_inj hd
            subst h3
            exact hac.2 hacd
          · intro h
            exact ⟨c, rfl, hac.1 h⟩, hlen, fun x hx => by have := hlt x hx; omega, fun cyc hcyc => by
          obtain ⟨d, rfl, hd⟩ := (himp cyc).1 hcyc
          obtain ⟨h3, h4, h5⟩ := conf_least hcf hd
          rw [natI_len]
          refine ⟨h3, h4, fun hl i hi he hn => ?_⟩
          simp only [natI_at] at he hn ⊢
          rcases h5 hl with h6 | ⟨p, x, y, q, r, h6, h7, h8⟩
          · subst h6; exact absurd rfl hn
          · have := lex_first h6 h7 h8 hi (fun j hj => by have := he j hj; omega) (by omega)
            omega⟩
      rcases hb with ⟨v, up, lo, rfl, hu, _, hrw⟩ | ⟨rfl, hno⟩
      · obtain ⟨ba, bc, rfl, _, _⟩ := RowOf.form hrw
        refine ⟨ba, _, bc, 0, c, a, cp, rfl, rfl, hr, hL 0 ⟨fun h => by omega, fun h => absurd hu.feas (hfe.1 h _)⟩⟩
      · exact ⟨none, 0, 0, 13, c, a, cp, rfl, rfl, hr, hL 13 ⟨fun _ => hfe.2 hno, fun _ => rfl⟩⟩
end Go.Proofs.YtcidfldeiklcjaaGreatDoor
