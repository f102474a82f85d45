/- The reader's lists: items[int], Nums. -/
import Derived.Test.YtabiklpemoijcaaDoorRd3
import Derived.LoopTactic
namespace Go.Proofs.YtabiklpemoijcaaDoor
open Go.RowKit

/-- one int is read -/
def rdInt (r : Wire.Rd) : Int × Wire.Rd := Wire.number 59 (-9223372036854775808) r
theorem nums_eq (r : Wire.Rd) : Wire.nums r = Wire.items rdInt r := rfl
theorem infoInt : (Tryd.prog.info? 3).map (fun i => (i.zero, i.size, i.bytes)) = some (some (.int .i64 0), 1, 8) := by kernel_rfl

/-- a list of ints as cells -/
def ints (l : List Int) : List Value := l.map (Value.int .i64)

/-- what has been read, and what is left, adds up to no more than L -/
def Pays (L : Nat) (r : Wire.Rd) (n : Nat) : Prop := (r.bad = false → n + r.rest.length ≤ L) ∧ n ≤ L + 1

theorem number_pays (e : UInt8) (least : Int) (r : Wire.Rd) :
    (Wire.number e least r).2.bad = true ∨ ((Wire.number e least r).2.bad = false ∧ (Wire.number e least r).2.rest.length + 1 ≤ r.rest.length) := by
  cases h : (Wire.number e least r).2.bad
  · right
    obtain ⟨_, h2, _⟩ := Wire.number_inv e least r h
    refine ⟨rfl, ?_⟩
    conv => rhs; rw [h2]
    simp only [List.length_append, List.length_cons]
    omega
  · exact Or.inl rfl

theorem Pays.step {L n : Nat} {r r' : Wire.Rd} (h : Pays L r n) (hb : r.bad = false) (h' : r'.bad = true ∨ (r'.bad = false ∧ r'.rest.length + 1 ≤ r.rest.length)) : Pays L r' (n + 1) := by
  have h1 := h.1 hb
  refine ⟨fun hb' => ?_, by omega⟩
  rcases h' with h2 | ⟨_, h2⟩
  · rw [h2] at hb'; cases hb'
  · omega

/-- the loop's relation -/
def ItemsRel (w0 : World) (b : Nat) (fin : List Int × Wire.Rd) (L : Nat) (v i : Value) (wr : World) : Prop :=
  ∃ (n : Nat) (r : Wire.Rd) (acc : List Int), n ≤ 9223372036854775807 ∧ i = .int .i64 n ∧ Wire.loop rdInt n r acc = fin ∧ wr.ownsRow w0.heap.size 3 1 v acc.length (ints acc) ∧
    RdAt wr b r ∧ Kept [b] w0 wr ∧ Fits r ∧ Pays L r acc.length

set_option maxHeartbeats 1000000 in
theorem items_int (b : Nat) (r : Wire.Rd) (w : World) (h : RdAt w b r) (hE : Env w) (hs : Fits r) :
    Calls Tryd.prog 85 #[.pointer (some ⟨b, 0, none⟩), .func (.func 66) #[.pointer (some ⟨b, 0, none⟩)] #[]] w fun en w' =>
      ∃ v, en = .returned v ∧ w'.ownsRow w.heap.size 3 1 v (Wire.nums r).1.length (ints (Wire.nums r).1) ∧ RdAt w' b (Wire.nums r).2 ∧ Kept [b] w w' := by
  obtain ⟨n, r1, hq⟩ : ∃ n r1, Wire.number 91 0 r = (n, r1) := ⟨_, _, rfl⟩
  have hn0 : 0 ≤ n := by have := Wire.number_least 91 0 (by omega) r; rw [hq] at this; exact this
  have hn1 : n ≤ 9223372036854775807 := by have := Wire.number_bounds 91 0 r; rw [hq] at this; exact this.2
  obtain ⟨m, rfl⟩ := Int.eq_ofNat_of_zero_le hn0
  have hs1 := fits_number hq hs
  obtain ⟨fin, hfin⟩ : ∃ fin, Wire.loop rdInt m r1 [] = fin := ⟨_, rfl⟩
  have H := Lib.hid hq
  have HF := Lib.hid hfin
  have hbl := h.2.lt
  obtain ⟨i0, hi, hz0, hz1, hz2⟩ := info_parts infoInt
  clear hq hfin
  go_enter Tryd.func85, Tryd.ntmps85
  go_wp2_with (go_at_call 86; refine (rd_number' b r 91 0 H.out _ h hE hs).mono ?_)
  rintro e w1 ⟨rfl, h1, hk1⟩
  go_wp2_with fail
  go_loopw [5, 6] (fun v i wr => ItemsRel w b fin 1000000 v i wr) (fun _ i _ => (intOf i).toNat)
  case atStart =>
    exact ⟨m, r1, [], by omega, rfl, HF.out, by simpa [ints] using World.ownsRow_nil _ _ _ _, h1, hk1, hs1, fun _ => by unfold Fits at hs1; simpa using hs1, by simp⟩
  case round =>
    obtain ⟨n, r', acc, hn, rfl, hl, hown, hr, hk, hf, hp⟩ := hrel
    have hE' := hE.kept hk (by intro x hx; rw [List.mem_singleton] at hx; subst hx; exact h.1)
    have hsz := hk.size
    have c1 := hr.c1
    have HL := Lib.hid hl
    clear hl
    by_cases hgo : 0 < n ∧ r'.bad = false
    · obtain ⟨hn0, hbad⟩ := hgo
      obtain ⟨n, rfl⟩ : ∃ k, n = k + 1 := ⟨n - 1, by omega⟩
      obtain ⟨y, r2, hy⟩ : ∃ y r2, rdInt r' = (y, r2) := ⟨_, _, rfl⟩
      have hr2 := rd_int b r' wr hr hE' hf
      have hpay := hp.step hbad (number_pays 59 (-9223372036854775808) r')
      have hy' : Wire.number 59 (-9223372036854775808) r' = (y, r2) := hy
      have hf2 := fits_number hy hf
      have hl2 : Wire.loop rdInt n r2 (acc ++ [y]) = fin := by
        have := HL.out
        simp only [Wire.loop, hbad, Bool.false_eq_true, if_false, hy] at this
        exact this
      rw [hy'] at hr2 hpay
      simp only at hr2 hpay
      have HR := Lib.hid hr2
      have HL2 := Lib.hid hl2
      rw [hbad] at c1
      clear hy hy' hr2 hl2 hbad
      go_wp2_with (first
        | (go_at_call 66; refine HR.out.mono ?_; rintro e w2 ⟨rfl, h2, hk2⟩; have hown2 := own_kept hown hk2 (by simpa using hbl))
        | (at_builtin; refine wpList_append_own _ rfl _ _ 24 rfl w.heap.size 3 i0 (.int .i64 0) 1 8 Tryd.underlying24 hi hz0 hz1 hz2 rfl (by decide) _ _ _ rfl (hown2.alloc _) ⟨w2.heap.size, 0, none⟩ 1 1 [.int .i64 y] rfl rfl ?c1 ?c2 ?c3 ?c4 ?c5 ?_))
      case c1 => exact cell_one_new _ _ _
      case c2 => intro u hu; rw [List.mem_singleton] at hu; subst hu; rfl
      case c3 => have := hpay.2; unfold maxLen; omega
      case c4 => have := hpay.2; omega
      case c5 => have := hk2.size; simp; omega
      intro v' w3 hown3 hg3 _
      have hk3 : Kept [b] w w3 := ((hk.trans hk2).alloc _).grown hg3 (fun k hk => Or.inr (hown2.lt k hk).1)
      have hr3 : RdAt w3 b r2 := ⟨h2.1, (hg3.block b (Nat.lt_of_lt_of_le h2.2.lt (by simp)) (fun e => by have := (hown2.lt b e.symm).1; omega)).trans (h2.2.alloc _)⟩
      have e3 : ints acc ++ [.int .i64 y] = ints (acc ++ [y]) := by simp [ints]
      rw [e3] at hown3
      clear e3 hg3 hown2 hown h2 hk2 hk hr c1
      go_wp2
      go_roundw
      case rel => exact ⟨n, r2, acc ++ [y], by omega, by go_num, HL2.out, by simpa using hown3, hr3, hk3, hf2, by simpa using hpay⟩
      case measure => simp [intOf]
    · have hfin : fin = (acc, r') := by
        rw [← HL.out]
        cases n with
        | zero => rfl
        | succ n =>
          have hb : r'.bad = true := by
            cases hb : r'.bad
            · exact absurd ⟨by omega, hb⟩ hgo
            · rfl
          simp [Wire.loop, hb]
      have hout : Wire.nums r = (if (Wire.close [93] r').bad then [] else acc, Wire.close [93] r') := by
        rw [nums_eq]
        unfold Wire.items
        rw [H.out]
        simp only [Int.toNat_natCast]
        rw [HF.out, hfin]
        simp only
        split <;> rfl
      obtain ⟨rc, hrc⟩ : ∃ rc, Wire.close [93] r' = rc := ⟨_, rfl⟩
      have hcl := rd_close b r' [93] wr hr
      rw [hrc] at hcl hout
      have HC := Lib.hid hcl
      have HO := Lib.hid hout
      obtain ⟨va, vc, rfl⟩ := own_form hown
      have hexit : (n = 0) ∨ (0 < n ∧ r'.bad = true) := by
        rcases Nat.eq_zero_or_pos n with h0 | h0
        · exact Or.inl h0
        · right
          refine ⟨h0, ?_⟩
          cases hb : r'.bad
          · exact absurd ⟨h0, hb⟩ hgo
          · rfl
      clear hcl hrc hfin hout HL hgo
      rcases hexit with rfl | ⟨hn0, hb⟩
      · cases hbc : rc.bad
        all_goals
          go_wp2_with (go_at_call 88; refine HC.out.mono ?_; rintro e w2 ⟨rfl, h2, hk2⟩; have d1 := h2.c1; rw [hbc] at d1)
          go_ret
          rw [HO.out]
          simp only [hbc, if_true, Bool.false_eq_true, if_false]
          refine ⟨_, rfl, ?_, h2, hk.trans hk2⟩
        · exact own_kept hown hk2 (by simpa using hbl)
        · exact by simpa [ints] using World.ownsRow_nil _ _ _ _
      · rw [hb] at c1
        cases hbc : rc.bad
        all_goals
          go_wp2_with (go_at_call 88; refine HC.out.mono ?_; rintro e w2 ⟨rfl, h2, hk2⟩; have d1 := h2.c1; rw [hbc] at d1)
          go_ret
          rw [HO.out]
          simp only [hbc, if_true, Bool.false_eq_true, if_false]
          refine ⟨_, rfl, ?_, h2, hk.trans hk2⟩
        · exact own_kept hown hk2 (by simpa using hbl)
        · exact by simpa [ints] using World.ownsRow_nil _ _ _ _
end Go.Proofs.YtabiklpemoijcaaDoor
