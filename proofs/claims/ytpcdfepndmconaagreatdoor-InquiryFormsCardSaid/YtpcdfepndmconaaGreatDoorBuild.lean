/- A strings.Builder that the call itself has made: copyCheck, WriteString (this dump's copyCheck has no text at its panic, so the shelf's is not laid). -/
import Derived.Test.YtpcdfepndmconaaGreatDoorRd3
import Derived.LoopTactic
import Derived.Test.YtpcdfepndmconaaGreatDoorMem
import Derived.Test.YtpcdfepndmconaaGreatDoorShelf
import Derived.Lib.Builder
import Derived.Shelf.Strings.Builder1
/- JOINED: Rd4 Build -/
/- The reader's lists: items[int], Nums. -/
namespace Go.Proofs.YtpcdfepndmconaaGreatDoor
open Go.RowKit

/-- one int is read -/
def rdInt (r : Wire.Rd) : Int × Wire.Rd := Wire.number 59 (-9223372036854775808) r
theorem nums_eq (r : Wire.Rd) : Wire.nums r = Wire.items rdInt r := rfl
theorem infoInt : (Tryz.prog.info? 3).map (fun i => (i.zero, i.size, i.bytes)) = some (some (.int .i64 0), 1, 8) := by kernel_rfl

/-- a list of ints as cells -/
def ints (l : List Int) : List Value := l.map (Value.int .i64)

/-- what has been read, and what is left, adds up to no more than L -/
def Pays (L : Nat) (r : Wire.Rd) (n : Nat) : Prop := (r.bad = false → n + r.rest.length ≤ L) ∧ n ≤ L + 1

theorem number_pays (e : UInt8) (least : Int) (r : Wire.Rd) :
    (Wire.number e least r).2.bad = true ∨ ((Wire.number e least r).2.bad = false ∧ (Wire.number e least r).2.rest.length + 1 ≤ r.rest.length) := by
  cases h : (Wire.number e least r).2.bad
  · right
    obtain ⟨_, h2, _⟩ := Wire.number_inv e least r h
    refine ⟨rfl, ?_⟩
    conv => rhs; rw [h2]
    simp only [List.length_append, List.length_cons]
    omega
  · exact Or.inl rfl

theorem Pays.step {L n : Nat} {r r' : Wire.Rd} (h : Pays L r n) (hb : r.bad = false) (h' : r'.bad = true ∨ (r'.bad = false ∧ r'.rest.length + 1 ≤ r.rest.length)) : Pays L r' (n + 1) := by
  have h1 := h.1 hb
  refine ⟨fun hb' => ?_, by omega⟩
  rcases h' with h2 | ⟨_, h2⟩
  · rw [h2] at hb'; cases hb'
  · omega

/-- the loop's relation -/
def ItemsRel (w0 : World) (b : Nat) (fin : List Int × Wire.Rd) (L : Nat) (v i : Value) (wr : World) : Prop :=
  ∃ (n : Nat) (r : Wire.Rd) (acc : List Int), n ≤ 9223372036854775807 ∧ i = .int .i64 n ∧ Wire.loop rdInt n r acc = fin ∧ wr.ownsRow w0.heap.size 3 1 v acc.length (ints acc) ∧
    RdAt wr b r ∧ Kept [b] w0 wr ∧ Fits r ∧ Pays L r acc.length

set_option maxHeartbeats 1000000 in
theorem items_int (b : Nat) (r : Wire.Rd) (w : World) (h : RdAt w b r) (hE : Env w) (hs : Fits r) :
    Calls Tryz.prog 141 #[.pointer (some ⟨b, 0, none⟩), .func (.func 62) #[.pointer (some ⟨b, 0, none⟩)] #[]] w fun en w' =>
      ∃ v, en = .returned v ∧ w'.ownsRow w.heap.size 3 1 v (Wire.nums r).1.length (ints (Wire.nums r).1) ∧ RdAt w' b (Wire.nums r).2 ∧ Kept [b] w w' := by
  obtain ⟨n, r1, hq⟩ : ∃ n r1, Wire.number 91 0 r = (n, r1) := ⟨_, _, rfl⟩
  have hn0 : 0 ≤ n := by have := Wire.number_least 91 0 (by omega) r; rw [hq] at this; exact this
  have hn1 : n ≤ 9223372036854775807 := by have := Wire.number_bounds 91 0 r; rw [hq] at this; exact this.2
  obtain ⟨m, rfl⟩ := Int.eq_ofNat_of_zero_le hn0
  have hs1 := fits_number hq hs
  obtain ⟨fin, hfin⟩ : ∃ fin, Wire.loop rdInt m r1 [] = fin := ⟨_, rfl⟩
  have H := Lib.hid hq
  have HF := Lib.hid hfin
  have hbl := h.2.lt
  obtain ⟨i0, hi, hz0, hz1, hz2⟩ := info_parts infoInt
  clear hq hfin
  go_enter Tryz.func141, Tryz.ntmps141
  go_wp2_with (go_at_call 142; refine (rd_number' b r 91 0 H.out _ h hE hs).mono ?_)
  rintro e w1 ⟨rfl, h1, hk1⟩
  go_wp2_with fail
  go_loopw [5, 6] (fun v i wr => ItemsRel w b fin 100000000 v i wr) (fun _ i _ => (intOf i).toNat)
  case atStart =>
    exact ⟨m, r1, [], by omega, rfl, HF.out, by simpa [ints] using World.ownsRow_nil _ _ _ _, h1, hk1, hs1, fun _ => by unfold Fits at hs1; simpa using hs1, by simp⟩
  case round =>
    obtain ⟨n, r', acc, hn, rfl, hl, hown, hr, hk, hf, hp⟩ := hrel
    have hE' := hE.kept hk (by intro x hx; rw [List.mem_singleton] at hx; subst hx; exact h.1)
    have hsz := hk.size
    have c1 := hr.c1
    have HL := Lib.hid hl
    clear hl
    by_cases hgo : 0 < n ∧ r'.bad = false
    · obtain ⟨hn0, hbad⟩ := hgo
      obtain ⟨n, rfl⟩ : ∃ k, n = k + 1 := ⟨n - 1, by omega⟩
      obtain ⟨y, r2, hy⟩ : ∃ y r2, rdInt r' = (y, r2) := ⟨_, _, rfl⟩
      have hr2 := rd_int b r' wr hr hE' hf
      have hpay := hp.step hbad (number_pays 59 (-9223372036854775808) r')
      have hy' : Wire.number 59 (-9223372036854775808) r' = (y, r2) := hy
      have hf2 := fits_number hy hf
      have hl2 : Wire.loop rdInt n r2 (acc ++ [y]) = fin := by
        have := HL.out
        simp only [Wire.loop, hbad, Bool.false_eq_true, if_false, hy] at this
        exact this
      rw [hy'] at hr2 hpay
      simp only at hr2 hpay
      have HR := Lib.hid hr2
      have HL2 := Lib.hid hl2
      rw [hbad] at c1
      clear hy hy' hr2 hl2 hbad
      go_wp2_with (first
        | (go_at_call 62; refine HR.out.mono ?_; rintro e w2 ⟨rfl, h2, hk2⟩; have hown2 := own_kept hown hk2 (by simpa using hbl))
        | (at_builtin; refine wpList_append_own _ rfl _ _ 24 rfl w.heap.size 3 i0 (.int .i64 0) 1 8 Tryz.underlying24 hi hz0 hz1 hz2 rfl (by decide) _ _ _ rfl (hown2.alloc _) ⟨w2.heap.size, 0, none⟩ 1 1 [.int .i64 y] rfl rfl ?c1 ?c2 ?c3 ?c4 ?c5 ?_))
      case c1 => exact cell_one_new _ _ _
      case c2 => intro u hu; rw [List.mem_singleton] at hu; subst hu; rfl
      case c3 => have := hpay.2; unfold maxLen; omega
      case c4 => have := hpay.2; omega
      case c5 => have := hk2.size; simp; omega
      intro v' w3 hown3 hg3 _
      have hk3 : Kept [b] w w3 := ((hk.trans hk2).alloc _).grown hg3 (fun k hk => Or.inr (hown2.lt k hk).1)
      have hr3 : RdAt w3 b r2 := ⟨h2.1, (hg3.block b (Nat.lt_of_lt_of_le h2.2.lt (by simp)) (fun e => by have := (hown2.lt b e.symm).1; omega)).trans (h2.2.alloc _)⟩
      have e3 : ints acc ++ [.int .i64 y] = ints (acc ++ [y]) := by simp [ints]
      rw [e3] at hown3
      clear e3 hg3 hown2 hown h2 hk2 hk hr c1
      go_wp2
      go_roundw
      case rel => exact ⟨n, r2, acc ++ [y], by omega, by go_num, HL2.out, by simpa using hown3, hr3, hk3, hf2, by simpa using hpay⟩
      case measure => simp [intOf]
    · have hfin : fin = (acc, r') := by
        rw [← HL.out]
        cases n with
        | zero => rfl
        | succ n =>
          have hb : r'.bad = true := by
            cases hb : r'.bad
            · exact absurd ⟨by omega, hb⟩ hgo
            · rfl
          simp [Wire.loop, hb]
      have hout : Wire.nums r = (if (Wire.close [93] r').bad then [] else acc, Wire.close [93] r') := by
        rw [nums_eq]
        unfold Wire.items
        rw [H.out]
        simp only [Int.toNat_natCast]
        rw [HF.out, hfin]
        simp only
        split <;> rfl
      obtain ⟨rc, hrc⟩ : ∃ rc, Wire.close [93] r' = rc := ⟨_, rfl⟩
      have hcl := rd_close b r' [93] wr hr
      rw [hrc] at hcl hout
      have HC := Lib.hid hcl
      have HO := Lib.hid hout
      obtain ⟨va, vc, rfl⟩ := own_form hown
      have hexit : (n = 0) ∨ (0 < n ∧ r'.bad = true) := by
        rcases Nat.eq_zero_or_pos n with h0 | h0
        · exact Or.inl h0
        · right
          refine ⟨h0, ?_⟩
          cases hb : r'.bad
          · exact absurd ⟨h0, hb⟩ hgo
          · rfl
      clear hcl hrc hfin hout HL hgo
      rcases hexit with rfl | ⟨hn0, hb⟩
      · cases hbc : rc.bad
        all_goals
          go_wp2_with (go_at_call 144; refine HC.out.mono ?_; rintro e w2 ⟨rfl, h2, hk2⟩; have d1 := h2.c1; rw [hbc] at d1)
          go_ret
          rw [HO.out]
          simp only [hbc, if_true, Bool.false_eq_true, if_false]
          refine ⟨_, rfl, ?_, h2, hk.trans hk2⟩
        · exact own_kept hown hk2 (by simpa using hbl)
        · exact by simpa [ints] using World.ownsRow_nil _ _ _ _
      · rw [hb] at c1
        cases hbc : rc.bad
        all_goals
          go_wp2_with (go_at_call 144; refine HC.out.mono ?_; rintro e w2 ⟨rfl, h2, hk2⟩; have d1 := h2.c1; rw [hbc] at d1)
          go_ret
          rw [HO.out]
          simp only [hbc, if_true, Bool.false_eq_true, if_false]
          refine ⟨_, rfl, ?_, h2, hk.trans hk2⟩
        · exact own_kept hown hk2 (by simpa using hbl)
        · exact by simpa [ints] using World.ownsRow_nil _ _ _ _
end Go.Proofs.YtpcdfepndmconaaGreatDoor
namespace Go.Proofs.YtpcdfepndmconaaGreatDoor
open Go.RowKit

abbrev TB : TypeId := 204
theorem infoB : (Tryz.prog.info? 204).map (·.size) = some 2 := by kernel_rfl
theorem liesB : liesAt Tryz.prog Tryz.prog.depth 204 (2 / Tryz.prog.cellsOf 204) 0 204 1 = true := by kernel_rfl
theorem infoByte : (Tryz.prog.info? 5).map (fun i => (i.zero, i.size, i.bytes)) = some (some (.int .u8 0), 1, 1) := by kernel_rfl

set_option maxRecDepth 100000 in
set_option maxHeartbeats 1000000 in
theorem copyCheck_used (b : Nat) (w : World) (h0 : w.cell? ⟨b, 0, none⟩ = some (.pointer (some ⟨b, 0, none⟩))) :
    Calls Tryz.prog 211 #[.pointer (some ⟨b, 0, none⟩)] w fun e w' => e = .returned (.tuple #[]) ∧ w' = w := by
  obtain ⟨j, hj, _⟩ := Option.map_eq_some_iff.1 infoB
  go_enter Tryz.func211, Tryz.ntmps211
  go_wp2
  rw [Lib.run_neq_ptr_same w _ Tryz.underlying201 hj]
  go_wp2
  go_end0
  exact ⟨rfl, rfl⟩

set_option maxRecDepth 100000 in
set_option maxHeartbeats 1000000 in
theorem copyCheck_fresh (b : Nat) (w : World) (h0 : w.cell? ⟨b, 0, none⟩ = some (.pointer none)) (hsh : w.shape? b = some (TB, 2)) (hfz : w.frozen? ⟨b, 0, none⟩ = false) :
    Calls Tryz.prog 211 #[.pointer (some ⟨b, 0, none⟩)] w fun e w' => e = .returned (.tuple #[]) ∧ w' = w.setCell ⟨b, 0, none⟩ (.pointer (some ⟨b, 0, none⟩)) := by
  obtain ⟨j, hj, hjs⟩ := Option.map_eq_some_iff.1 infoB
  go_enter Tryz.func211, Tryz.ntmps211
  go_wp2
  rw [Lib.run_to_unsafe w ⟨b, 0, none⟩ Tryz.underlying201 Tryz.underlying234 hj (by rw [hjs]; decide) hsh (Nat.zero_lt_succ 1)]
  simp only [Result.andThen]
  rw [Oper.upon_value]
  go_wp2
  rw [run_callFunc_extern Tryz.func227 (by kernel_rfl) (by kernel_rfl) (by kernel_rfl) (e := Extern.AbiNoEscape.same) (by kernel_rfl)]
  rw [Lib.run_noEscape]
  simp only [Result.andThen]
  rw [Oper.upon_value]
  go_wp2
  rw [Lib.run_from_unsafe w ⟨b, 0, none⟩ Tryz.underlying234 Tryz.underlying201 hj hsh liesB]
  simp only [Result.andThen]
  rw [Oper.upon_value]
  go_wp2
  go_end0
  exact ⟨rfl, rfl⟩

theorem copyCheck_any (B b : Nat) (l : List Value) (w : World) (h : Lib.IsBuilder TB 5 B b l w) :
    Calls Tryz.prog 211 #[.pointer (some ⟨b, 0, none⟩)] w fun e w' => e = .returned (.tuple #[]) ∧
      (Lib.BuilderAt TB 5 B b (.pointer (some ⟨b, 0, none⟩)) l w' ∧ Below B w w') := by
  rcases h with h | h
  · refine (copyCheck_fresh b w h.cell0 h.shape h.frozen0).mono ?_
    rintro e w' ⟨rfl, rfl⟩
    exact ⟨rfl, h.used _, (Below.refl B w).setCell (p := ⟨b, 0, none⟩) h.1 _⟩
  · refine (copyCheck_used b w h.cell0).mono ?_
    rintro e w' ⟨rfl, rfl⟩
    exact ⟨rfl, h, Below.refl B _⟩

set_option maxRecDepth 100000 in
set_option maxHeartbeats 2000000 in
theorem writeString_any (B b : Nat) (l : List Value) (s : ByteArray) (w : World) (h : Lib.IsBuilder TB 5 B b l w) (hlen : l.length + s.size ≤ 140737488355328) (hBw : B ≤ w.heap.size) :
    Calls Tryz.prog 194 #[.pointer (some ⟨b, 0, none⟩), .string s] w fun e w' => e = .returned (.tuple #[.int .i64 s.size, .nilIface]) ∧
      (Lib.BuilderAt TB 5 B b (.pointer (some ⟨b, 0, none⟩)) (l ++ Lib.strCells s) w' ∧ Below B w w') := by
  obtain ⟨i0, hi, hz0, hz1, hz2⟩ := info_parts infoByte
  go_enter Tryz.func194, Tryz.ntmps194
  go_wp2_with (go_at_call 211; refine (copyCheck_any B b l _ h).mono ?_)
  rintro e w1 ⟨rfl, h1, hb1⟩
  obtain ⟨hB, v, hbk, hown, hne⟩ := h1
  have c0 : w1.cell? ⟨b, 0, none⟩ = some (.pointer (some ⟨b, 0, none⟩)) := by rw [Lib.cell_of_heap hbk]; rfl
  have c1 : w1.cell? ⟨b, 1, none⟩ = some v := by rw [Lib.cell_of_heap hbk]; rfl
  go_wp2_with (at_builtin; refine Lib.wpList_append_own_string _ rfl _ _ 202 9 rfl B 5 i0 Tryz.underlying202 Tryz.underlying9 hi hz0 hz1 hz2 _ _ _ rfl hown s rfl ?c3 ?c4 ?c5 ?_)
  case c3 => unfold maxLen; omega
  case c4 => omega
  case c5 => have := hb1.size; omega
  intro v' w2 hown' hgrow _
  have hlt : b < w1.heap.size := by
    rcases Nat.lt_or_ge b w1.heap.size with h' | h'
    · exact h'
    · simp [Array.getElem?_eq_none h'] at hbk
  have hb2 : w2.heap[b]? = some (.cells #[.pointer (some ⟨b, 0, none⟩), v] TB (0, 0)) := by
    rw [hgrow.block b hlt (fun e => hne e.symm)]
    exact hbk
  have d0 : w2.cell? ⟨b, 0, none⟩ = some (.pointer (some ⟨b, 0, none⟩)) := by rw [Lib.cell_of_heap hb2]; rfl
  have d1 : w2.cell? ⟨b, 1, none⟩ = some v := by rw [Lib.cell_of_heap hb2]; rfl
  have f1 : w2.frozen? ⟨b, 1, none⟩ = false := Lib.frozen_of_heap hb2 1
  obtain ⟨ao, n', cap, rfl⟩ : ∃ ao n' cap, v' = .slice ao n' cap := by
    rcases hown'.2 with ⟨hv, _⟩ | ⟨g, cap, cur, hv, _⟩
    · exact ⟨_, _, _, hv⟩
    · exact ⟨_, _, _, hv⟩
  go_wp2
  go_ret2
  refine ⟨rfl, ?_, ?_⟩
  · exact Lib.BuilderAt.put (T := TB) (e := 5) hB hb2 (bs' := l ++ Lib.strCells s) (by simpa [Lib.strCells_length] using hown') (by decide)
  · exact (hb1.grown hgrow (by have := hb1.size; omega) (fun k hk => (hown.lt k hk).1)).setCell (p := ⟨b, 1, none⟩) hB _
end Go.Proofs.YtpcdfepndmconaaGreatDoor
