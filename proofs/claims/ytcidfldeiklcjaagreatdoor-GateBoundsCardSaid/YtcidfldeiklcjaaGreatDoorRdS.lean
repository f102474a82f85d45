/- Lists of strings read: items[string], Texts. -/
import Derived.Test.YtcidfldeiklcjaaGreatDoorEnv
import Derived.Test.YtcidfldeiklcjaaGreatDoorShelf
import Derived.Lib.Builder
import Derived.Shelf.Strings.Builder1
import Derived.Test.YtcidfldeiklcjaaGreatDoorRd4
import Derived.Lib.AppendIntMem
/- JOINED: Build Enc Nums Name Stat EncS RdS -/
/- A strings.Builder that the call itself has made: copyCheck, WriteString (this dump's copyCheck has no text at its panic, so the shelf's is not laid). -/
namespace Go.Proofs.YtcidfldeiklcjaaGreatDoor
open Go.RowKit

abbrev TB : TypeId := 213
theorem infoB : (Tryz.prog.info? 213).map (·.size) = some 2 := by kernel_rfl
theorem liesB : liesAt Tryz.prog Tryz.prog.depth 213 (2 / Tryz.prog.cellsOf 213) 0 213 1 = true := by kernel_rfl
theorem infoByte : (Tryz.prog.info? 5).map (fun i => (i.zero, i.size, i.bytes)) = some (some (.int .u8 0), 1, 1) := by kernel_rfl

set_option maxRecDepth 100000 in
set_option maxHeartbeats 1000000 in
theorem copyCheck_used (b : Nat) (w : World) (h0 : w.cell? ⟨b, 0, none⟩ = some (.pointer (some ⟨b, 0, none⟩))) :
    Calls Tryz.prog 213 #[.pointer (some ⟨b, 0, none⟩)] w fun e w' => e = .returned (.tuple #[]) ∧ w' = w := by
  obtain ⟨j, hj, _⟩ := Option.map_eq_some_iff.1 infoB
  go_enter Tryz.func213, Tryz.ntmps213
  go_wp2
  rw [Lib.run_neq_ptr_same w _ Tryz.underlying211 hj]
  go_wp2
  go_end0
  exact ⟨rfl, rfl⟩

set_option maxRecDepth 100000 in
set_option maxHeartbeats 1000000 in
theorem copyCheck_fresh (b : Nat) (w : World) (h0 : w.cell? ⟨b, 0, none⟩ = some (.pointer none)) (hsh : w.shape? b = some (TB, 2)) (hfz : w.frozen? ⟨b, 0, none⟩ = false) :
    Calls Tryz.prog 213 #[.pointer (some ⟨b, 0, none⟩)] w fun e w' => e = .returned (.tuple #[]) ∧ w' = w.setCell ⟨b, 0, none⟩ (.pointer (some ⟨b, 0, none⟩)) := by
  obtain ⟨j, hj, hjs⟩ := Option.map_eq_some_iff.1 infoB
  go_enter Tryz.func213, Tryz.ntmps213
  go_wp2
  rw [Lib.run_to_unsafe w ⟨b, 0, none⟩ Tryz.underlying211 Tryz.underlying249 hj (by rw [hjs]; decide) hsh (Nat.zero_lt_succ 1)]
  simp only [Result.andThen]
  rw [Oper.upon_value]
  go_wp2
  rw [run_callFunc_extern Tryz.func232 (by kernel_rfl) (by kernel_rfl) (by kernel_rfl) (e := Extern.AbiNoEscape.same) (by kernel_rfl)]
  rw [Lib.run_noEscape]
  simp only [Result.andThen]
  rw [Oper.upon_value]
  go_wp2
  rw [Lib.run_from_unsafe w ⟨b, 0, none⟩ Tryz.underlying249 Tryz.underlying211 hj hsh liesB]
  simp only [Result.andThen]
  rw [Oper.upon_value]
  go_wp2
  go_end0
  exact ⟨rfl, rfl⟩

theorem copyCheck_any (B b : Nat) (l : List Value) (w : World) (h : Lib.IsBuilder TB 5 B b l w) :
    Calls Tryz.prog 213 #[.pointer (some ⟨b, 0, none⟩)] w fun e w' => e = .returned (.tuple #[]) ∧
      (Lib.BuilderAt TB 5 B b (.pointer (some ⟨b, 0, none⟩)) l w' ∧ Below B w w') := by
  rcases h with h | h
  · refine (copyCheck_fresh b w h.cell0 h.shape h.frozen0).mono ?_
    rintro e w' ⟨rfl, rfl⟩
    exact ⟨rfl, h.used _, (Below.refl B w).setCell (p := ⟨b, 0, none⟩) h.1 _⟩
  · refine (copyCheck_used b w h.cell0).mono ?_
    rintro e w' ⟨rfl, rfl⟩
    exact ⟨rfl, h, Below.refl B _⟩

set_option maxRecDepth 100000 in
set_option maxHeartbeats 2000000 in
theorem writeString_any (B b : Nat) (l : List Value) (s : ByteArray) (w : World) (h : Lib.IsBuilder TB 5 B b l w) (hlen : l.length + s.size ≤ 140737488355328) (hBw : B ≤ w.heap.size) :
    Calls Tryz.prog 179 #[.pointer (some ⟨b, 0, none⟩), .string s] w fun e w' => e = .returned (.tuple #[.int .i64 s.size, .nilIface]) ∧
      (Lib.BuilderAt TB 5 B b (.pointer (some ⟨b, 0, none⟩)) (l ++ Lib.strCells s) w' ∧ Below B w w') := by
  obtain ⟨i0, hi, hz0, hz1, hz2⟩ := info_parts infoByte
  go_enter Tryz.func179, Tryz.ntmps179
  go_wp2_with (go_at_call 213; refine (copyCheck_any B b l _ h).mono ?_)
  rintro e w1 ⟨rfl, h1, hb1⟩
  obtain ⟨hB, v, hbk, hown, hne⟩ := h1
  have c0 : w1.cell? ⟨b, 0, none⟩ = some (.pointer (some ⟨b, 0, none⟩)) := by rw [Lib.cell_of_heap hbk]; rfl
  have c1 : w1.cell? ⟨b, 1, none⟩ = some v := by rw [Lib.cell_of_heap hbk]; rfl
  go_wp2_with (at_builtin; refine Lib.wpList_append_own_string _ rfl _ _ 144 9 rfl B 5 i0 Tryz.underlying144 Tryz.underlying9 hi hz0 hz1 hz2 _ _ _ rfl hown s rfl ?c3 ?c4 ?c5 ?_)
  case c3 => unfold maxLen; omega
  case c4 => omega
  case c5 => have := hb1.size; omega
  intro v' w2 hown' hgrow _
  have hlt : b < w1.heap.size := by
    rcases Nat.lt_or_ge b w1.heap.size with h' | h'
    · exact h'
    · simp [Array.getElem?_eq_none h'] at hbk
  have hb2 : w2.heap[b]? = some (.cells #[.pointer (some ⟨b, 0, none⟩), v] TB (0, 0)) := by
    rw [hgrow.block b hlt (fun e => hne e.symm)]
    exact hbk
  have d0 : w2.cell? ⟨b, 0, none⟩ = some (.pointer (some ⟨b, 0, none⟩)) := by rw [Lib.cell_of_heap hb2]; rfl
  have d1 : w2.cell? ⟨b, 1, none⟩ = some v := by rw [Lib.cell_of_heap hb2]; rfl
  have f1 : w2.frozen? ⟨b, 1, none⟩ = false := Lib.frozen_of_heap hb2 1
  obtain ⟨ao, n', cap, rfl⟩ : ∃ ao n' cap, v' = .slice ao n' cap := by
    rcases hown'.2 with ⟨hv, _⟩ | ⟨g, cap, cur, hv, _⟩
    · exact ⟨_, _, _, hv⟩
    · exact ⟨_, _, _, hv⟩
  go_wp2
  go_ret2
  refine ⟨rfl, ?_, ?_⟩
  · exact Lib.BuilderAt.put (T := TB) (e := 5) hB hb2 (bs' := l ++ Lib.strCells s) (by simpa [Lib.strCells_length] using hown') (by decide)
  · exact (hb1.grown hgrow (by have := hb1.size; omega) (fun k hk => (hown.lt k hk).1)).setCell (p := ⟨b, 1, none⟩) hB _
end Go.Proofs.YtcidfldeiklcjaaGreatDoor
/- What is written: Int, Text, Nums. -/
namespace Go.Proofs.YtcidfldeiklcjaaGreatDoor
open Go.RowKit

/-! ### a slice that reads as a list of cells -/

def Row (w : World) (size : Nat) (v : Value) (n : Nat) (l : List Value) : Prop :=
  l.length = n * size ∧ n ≤ 9223372036854775807 ∧ ∃ a c, v = .slice a n c ∧ n ≤ c ∧ (0 < n → ∃ b off, a = some ⟨b, off, none⟩ ∧ ∀ k u, l[k]? = some u → w.cell? ⟨b, off + k, none⟩ = some u)

theorem Row.kept {w w' : World} {size : Nat} {v : Value} {n : Nat} {l : List Value} (h : Row w size v n l) (k : Kept [] w w') : Row w' size v n l := by
  obtain ⟨h1, h2, a, c, hv, hcc, hc⟩ := h
  refine ⟨h1, h2, a, c, hv, hcc, fun hn => ?_⟩
  obtain ⟨b, off, ha, hcell⟩ := hc hn
  refine ⟨b, off, ha, fun j u hu => ?_⟩
  have := hcell j u hu
  exact (k.cell (World.block_lt_of_cell? w _ this) (by simp)).trans this

theorem Row.form {w : World} {size : Nat} {v : Value} {n : Nat} {l : List Value} (h : Row w size v n l) : ∃ a c, v = .slice a n c ∧ n ≤ 9223372036854775807 ∧ n ≤ c := by
  obtain ⟨_, h2, a, c, hv, hcc, _⟩ := h
  exact ⟨a, c, hv, h2, hcc⟩
theorem Row.drew {w : World} {size : Nat} {v : Value} {n : Nat} {l : List Value} (h : Row w size v n l) : Row w.drew size v n l := h.kept (Kept.refl _ _).drew
theorem Row.drewN {w : World} {size : Nat} {v : Value} {n : Nat} {l : List Value} (h : Row w size v n l) (k : Nat) : Row (w.drewN k) size v n l := h.kept ((Kept.refl _ _).drewN k)

theorem Row.at_ {w : World} {size n m c : Nat} {a : Option Addr} {l : List Value} (h : Row w size (.slice a n c) m l) (hm : 0 < m) :
    ∃ b off, a = some ⟨b, off, none⟩ ∧ ∀ k u, l[k]? = some u → w.cell? ⟨b, off + k, none⟩ = some u := by
  obtain ⟨_, _, a', c', hv, _, hc⟩ := h
  injection hv with e1 e2 e3
  subst e1
  exact hc hm

theorem add_cell (b off k : Nat) : (⟨b, off, none⟩ : Addr).add k = ⟨b, off + k, none⟩ := by
  unfold Addr.add; split
  · next h => subst h; rfl
  · rfl

theorem Row.of_own {w : World} {B : Nat} {e : TypeId} {size : Nat} {v : Value} {n : Nat} {xs : List Value} (h : w.ownsRow B e size v n xs) (hn : n ≤ 9223372036854775807) : Row w size v n xs := by
  refine ⟨h.1, hn, ?_⟩
  rcases h.2 with ⟨h1, h2⟩ | ⟨g, cap, cur, hv, hB, hg, hnc, hcm, hcs, hx⟩
  · subst h2
    exact ⟨_, _, h1, by omega, fun hn => by omega⟩
  · refine ⟨_, _, hv, hnc, fun _ => ⟨g, 0, rfl, fun k u hu => ?_⟩⟩
    rw [← hx] at hu
    simp only [World.cell?, hg, Option.isSome_none, Bool.false_eq_true, if_false, Nat.zero_add]
    rw [List.getElem?_take] at hu
    split at hu
    · simpa using hu
    · cases hu

theorem bcat : ∀ x y : List UInt8, (⟨x.toArray⟩ : ByteArray) ++ ⟨y.toArray⟩ = ⟨(x ++ y).toArray⟩ := fun x y => ByteArray.mk_append_mk x y

set_option maxHeartbeats 400000 in
theorem int_any (n : Int) (w : World) (hn : Wire.I64 n) (hE : Env w) :
    Calls Tryz.prog 93 #[.int .i64 n] w fun e w' => e = .returned (.string ⟨(Wire.intE n).toArray⟩) ∧ Kept [] w w' := by
  have hl := Wire.itoa_len n hn
  have hcat := bcat
  go_enter Tryz.func93, Tryz.ntmps93
  go_wp2_with (go_at_call 139; refine (itoa_any n _ hn hE).mono ?_; rintro e w1 ⟨rfl, hk⟩)
  go_ret
  exact ⟨rfl, hk⟩

theorem textE_eq (s : List UInt8) : Lib.itoa s.length ++ 58 :: (s ++ [44]) = Wire.textE s := by simp [Wire.textE]
set_option maxHeartbeats 400000 in
theorem text_any (s : List UInt8) (w : World) (hn : s.length ≤ 100000000) (hE : Env w) :
    Calls Tryz.prog 85 #[.string ⟨s.toArray⟩] w fun e w' => e = .returned (.string ⟨(Wire.textE s).toArray⟩) ∧ Kept [] w w' := by
  have hl := Wire.itoa_len s.length ⟨by omega, by omega⟩
  have hcat := bcat
  go_enter Tryz.func85, Tryz.ntmps85
  go_wp2_with (go_at_call 139; refine (itoa_any s.length _ ⟨by omega, by omega⟩ hE).mono ?_; rintro e w1 ⟨rfl, hk⟩)
  go_ret
  exact ⟨by rw [← textE_eq]; simp, hk⟩

theorem intE_len (n : Int) (hn : Wire.I64 n) : (Wire.intE n).length ≤ 21 := by
  have := Wire.itoa_len n hn
  simp only [Wire.intE, List.length_append, List.length_singleton]; omega
theorem flat_len (l : List Int) (h : ∀ x ∈ l, Wire.I64 x) : (l.flatMap Wire.intE).length ≤ 21 * l.length := by
  induction l with
  | nil => simp
  | cons a l ih =>
    have h1 := intE_len a (h a (by simp))
    have h2 := ih fun x hx => h x (by simp [hx])
    simp only [List.flatMap_cons, List.length_append, List.length_cons]; omega

theorem builder_kept {T e : TypeId} {B b : Nat} {p : Value} {l : List Value} {w w' : World} (h : Lib.BuilderAt T e B b p l w) (k : Kept [] w w') : Lib.BuilderAt T e B b p l w' := by
  obtain ⟨h1, v, h2, h3, h4⟩ := h
  exact ⟨h1, v, (k.block b (Array.getElem?_eq_some_iff.1 h2).1 (by simp)).trans h2, own_kept h3 k (by simp), h4⟩

theorem textE_len (s : List UInt8) (h : s.length ≤ 100000000) : (Wire.textE s).length ≤ 100000022 := by
  have := Wire.itoa_len s.length ⟨by omega, by omega⟩
  simp only [Wire.textE, List.length_append, List.length_singleton]; omega
/-- the loop's relation -/
def EncRel (w0 : World) (b : Nat) (l : List Int) (i : Value) (wr : World) : Prop :=
  ∃ k : Nat, k ≤ l.length ∧ i = .int .i64 k ∧ Lib.IsBuilder TB 5 w0.heap.size b (Lib.byteCells (Lib.itoa l.length ++ [91] ++ (l.take k).flatMap Wire.intE)) wr ∧ Kept [] w0 wr

set_option maxRecDepth 100000 in
set_option maxHeartbeats 1000000 in
theorem encoded_int (v : Value) (l : List Int) (w : World) (hv : Row w 1 v l.length (ints l)) (hE : Env w) (hl : l.length ≤ 100000001) (hi : ∀ x ∈ l, Wire.I64 x) :
    Calls Tryz.prog 138 #[v, .func (.func 93) #[] #[]] w fun e w' => e = .returned (.string ⟨(Wire.numsE l).toArray⟩) ∧ Kept [] w w' := by
  have hv0 := hv
  obtain ⟨_, hlen, a, c, rfl, _, _⟩ := hv0
  have hil := Wire.itoa_len l.length ⟨by omega, by omega⟩
  have hcat := bcat
  go_enter Tryz.func138, Tryz.ntmps138
  go_wp2_with (first
    | (go_at_call 139; refine (itoa_any l.length _ ⟨by omega, by omega⟩ (by exact hE.alloc _)).mono ?_; rintro e w1 ⟨rfl, hk⟩))
  have hk0 : Kept [] w w1 := ((Kept.refl [] w).alloc _).trans hk
  have hsz := hk.size
  rw [World.size_alloc] at hsz
  have hb0 : Lib.IsBuilder TB 5 w.heap.size w.heap.size [] w1 :=
    Or.inl ⟨Nat.le_refl _, .slice none 0 0, (hk.block _ (by simp) (by simp)).trans (heap_alloc_new w _), World.ownsRow_nil _ _ _ _, by simp [Value.ownBlock]⟩
  have hws := writeString_any w.heap.size w.heap.size [] ⟨(Lib.itoa l.length ++ [91]).toArray⟩ w1 hb0 (by simp [ByteArray.size]; omega) (by omega)
  have HW := Lib.hid hws
  clear hws
  go_wp2_with (go_at_call 179; refine HW.out.mono ?_)
  rintro e w2 ⟨rfl, hb2, hbl2⟩
  have hk2 : Kept [] w w2 := hk0.then_below hbl2
  go_wp2_with fail
  go_loopw [7, 15] (fun _ i wr => EncRel w w.heap.size l i wr) (fun _ i _ => l.length - (intOf i).toNat)
  case atStart => exact ⟨0, Nat.zero_le _, rfl, Or.inr (by simpa [Lib.strCells_toArray] using hb2), hk2⟩
  case round =>
    obtain ⟨k, hkl, rfl, hb, hkr⟩ := hrel
    have hE' := hE.kept0 hkr
    have hrow := hv.kept hkr
    by_cases hlt : k < l.length
    · obtain ⟨bb, off, rfl, hc⟩ := hrow.at_ (by omega)
      have hx := hc k (.int .i64 l[k]) (by simp [ints, hlt])
      have hI := hi l[k] (List.getElem_mem hlt)
      have hIl := intE_len l[k] hI
      have hfl := flat_len (l.take k) (fun x hx => hi x (List.mem_of_mem_take hx))
      have htk : (l.take k).length ≤ 100000001 := by rw [List.length_take]; omega
      have HF : Hid (l.take (k + 1) = l.take k ++ [l[k]]) := List.take_succ_eq_append_getElem hlt
      have hks := hkr.size
      clear hc
      go_wp2_with (first
        | (go_at_call 93; refine (int_any l[k] _ hI hE').mono ?_))
      rintro e w3 ⟨rfl, hk3⟩
      have hb3 : Lib.IsBuilder TB 5 w.heap.size w.heap.size (Lib.byteCells (Lib.itoa l.length ++ [91] ++ (l.take k).flatMap Wire.intE)) w3 := by
        rcases hb with hb | hb
        · exact Or.inl (builder_kept hb hk3)
        · exact Or.inr (builder_kept hb hk3)
      have hws := writeString_any w.heap.size w.heap.size _ ⟨(Wire.intE l[k]).toArray⟩ w3 hb3
        (by rw [Lib.byteCells_length]; simp only [ByteArray.size, List.size_toArray, List.length_append, List.length_singleton]; omega) (by have := hk3.size; omega)
      have HW2 := Lib.hid hws
      clear hws
      go_wp2_with (go_at_call 179; refine HW2.out.mono ?_)
      rintro e w4 ⟨rfl, hb4, hbl4⟩
      have hk4 : Kept [] w w4 := (hkr.trans hk3).then_below hbl4
      go_wp2
      go_roundw
      case rel =>
        refine ⟨k + 1, by omega, by go_num, ?_, hk4⟩
        refine Or.inr ?_
        have e1 : Lib.itoa l.length ++ [91] ++ (l.take (k + 1)).flatMap Wire.intE = (Lib.itoa l.length ++ [91] ++ (l.take k).flatMap Wire.intE) ++ Wire.intE l[k] := by
          rw [HF.out, List.flatMap_append]; simp only [List.flatMap_cons, List.flatMap_nil, List.append_nil, List.append_assoc]
        rw [e1, Lib.byteCells_append, ← Lib.strCells_toArray (Wire.intE l[k])]
        exact hb4
      case measure => simp [intOf]; omega
    · obtain rfl : k = l.length := by omega
      rw [List.take_length] at hb
      have hfl := flat_len l hi
      have hks := hkr.size
      obtain ⟨F, hF⟩ : ∃ F, l.flatMap Wire.intE = F := ⟨_, rfl⟩
      rw [hF] at hb hfl
      have HF := Lib.hid hF
      clear hF
      have hss := Tryz.Builder_String_any w.heap.size w.heap.size _ wr hb hks
      have HS := Lib.hid hss
      clear hss
      go_wp2_with (go_at_call 180; refine HS.out.mono ?_)
      rintro e w3 ⟨rfl, hbl3⟩
      go_wp2
      go_ret
      refine ⟨?_, hkr.then_below hbl3⟩
      have e1 : Wire.numsE l = Lib.itoa l.length ++ 91 :: (F ++ [93]) := by
        unfold Wire.numsE Wire.listE
        rw [HF.out]
        simp
      rw [e1]
      simp

set_option maxHeartbeats 400000 in
theorem nums_any (v : Value) (l : List Int) (w : World) (hv : Row w 1 v l.length (ints l)) (hE : Env w) (hl : l.length ≤ 100000001) (hi : ∀ x ∈ l, Wire.I64 x) :
    Calls Tryz.prog 84 #[v] w fun e w' => e = .returned (.string ⟨(Wire.numsE l).toArray⟩) ∧ Kept [] w w' := by
  have H := Lib.hid (encoded_int v l w hv hE hl hi)
  go_enter Tryz.func84, Tryz.ntmps84
  go_wp2_with (go_at_call 138; refine H.out.mono ?_)
  rintro e w1 ⟨rfl, hk⟩
  go_wp2
  go_ret
  exact ⟨rfl, hk⟩

set_option maxHeartbeats 400000 in
theorem rd_nums (b : Nat) (r : Wire.Rd) (w : World) (h : RdAt w b r) (hE : Env w) (hs : Fits r) :
    Calls Tryz.prog 125 #[.pointer (some ⟨b, 0, none⟩)] w fun en w' =>
      ∃ v, en = .returned v ∧ w'.ownsRow w.heap.size 3 1 v (Wire.nums r).1.length (ints (Wire.nums r).1) ∧ RdAt w' b (Wire.nums r).2 ∧ Kept [b] w w' := by
  have H := Lib.hid (items_int b r w h hE hs)
  obtain ⟨q, hq⟩ : ∃ q, Wire.nums r = q := ⟨_, rfl⟩
  rw [hq] at H ⊢
  clear hq
  go_enter Tryz.func125, Tryz.ntmps125
  go_wp2_with (go_at_call 170; refine H.out.mono ?_)
  rintro e w1 ⟨v, rfl, ho, hr, hk⟩
  obtain ⟨a, c, rfl⟩ := own_form ho
  go_wp2
  go_ret
  exact ⟨_, rfl, ho, hr, hk⟩

theorem fits_loop (one : Wire.Rd → Int × Wire.Rd) (h1 : ∀ r, (one r).2.rest.length ≤ r.rest.length) : ∀ (n : Nat) (r : Wire.Rd) (acc : List Int), (Wire.loop one n r acc).2.rest.length ≤ r.rest.length
  | 0, r, acc => by simp [Wire.loop]
  | n + 1, r, acc => by
    simp only [Wire.loop]
    split
    · simp
    · exact Nat.le_trans (fits_loop one h1 n _ _) (h1 r)
theorem fits_nums {r : Wire.Rd} (hs : Fits r) : Fits (Wire.nums r).2 := by
  have h1 := Wire.number_rest_le 91 0 r
  have h2 := fits_loop rdInt (fun r => Wire.number_rest_le 59 _ r) (Wire.number 91 0 r).1.toNat (Wire.number 91 0 r).2 []
  have h3 := Wire.close_rest_le [93] (Wire.loop rdInt (Wire.number 91 0 r).1.toNat (Wire.number 91 0 r).2 []).2
  rw [nums_eq]
  unfold Wire.items Fits at *
  split <;> (simp only; omega)
theorem loop_pays (L : Nat) : ∀ (n : Nat) (r : Wire.Rd) (acc : List Int), Pays L r acc.length → (Wire.loop rdInt n r acc).1.length ≤ L + 1
  | 0, r, acc, h => by simpa [Wire.loop] using h.2
  | n + 1, r, acc, h => by
    simp only [Wire.loop]
    split
    · exact h.2
    · next hb =>
      have hb' : r.bad = false := by simpa using hb
      refine loop_pays L n _ _ ?_
      have := h.step hb' (number_pays 59 (-9223372036854775808) r)
      rw [List.length_append, List.length_singleton]
      exact this
theorem nums_len (r : Wire.Rd) (hs : Fits r) : (Wire.nums r).1.length ≤ 100000001 := by
  have h1 := Wire.number_rest_le 91 0 r
  have h2 := loop_pays 100000000 (Wire.number 91 0 r).1.toNat (Wire.number 91 0 r).2 [] ⟨fun _ => by unfold Fits at hs; simp only [List.length_nil]; omega, by simp⟩
  rw [nums_eq]
  unfold Wire.items
  split
  · simp
  · exact h2
/-! the reader's methods, told by what they give -/
theorem rd_nums' {l : List Int} {r' : Wire.Rd} (b : Nat) (r : Wire.Rd) (hq : Wire.nums r = (l, r')) (w : World) (h : RdAt w b r) (hE : Env w) (hs : Fits r) :
    Calls Tryz.prog 125 #[.pointer (some ⟨b, 0, none⟩)] w fun en w' =>
      ∃ v, en = .returned v ∧ w'.ownsRow w.heap.size 3 1 v l.length (ints l) ∧ RdAt w' b r' ∧ Kept [b] w w' := by
  have := rd_nums b r w h hE hs
  rw [hq] at this
  exact this
theorem rd_text' {l : List UInt8} {r' : Wire.Rd} (b : Nat) (r : Wire.Rd) (hq : Wire.text r = (l, r')) (w : World) (h : RdAt w b r) (hE : Env w) (hs : Fits r) :
    Calls Tryz.prog 126 #[.pointer (some ⟨b, 0, none⟩)] w fun en w' =>
      en = .returned (.string ⟨l.toArray⟩) ∧ RdAt w' b r' ∧ Kept [b] w w' := by
  have := rd_text b r w h hE hs
  rw [hq] at this
  exact this
theorem rd_int' {n : Int} {r' : Wire.Rd} (b : Nat) (r : Wire.Rd) (hq : Wire.number 59 (-9223372036854775808) r = (n, r')) (w : World) (h : RdAt w b r) (hE : Env w) (hs : Fits r) :
    Calls Tryz.prog 129 #[.pointer (some ⟨b, 0, none⟩)] w fun en w' =>
      en = .returned (.int .i64 n) ∧ RdAt w' b r' ∧ Kept [b] w w' := by
  have := rd_int b r w h hE hs
  rw [hq] at this
  exact this
theorem fits_nums' {l : List Int} {r r' : Wire.Rd} (hq : Wire.nums r = (l, r')) (hs : Fits r) : Fits r' := by
  have := fits_nums hs; rw [hq] at this; exact this
theorem fits_text' {l : List UInt8} {r r' : Wire.Rd} (hq : Wire.text r = (l, r')) (hs : Fits r) : Fits r' := by
  have := (fits_text hs).1; rw [hq] at this; exact this
end Go.Proofs.YtcidfldeiklcjaaGreatDoor
/- Small functions on lists of ints: SameNums, total, Min, Max. -/
namespace Go.Proofs.YtcidfldeiklcjaaGreatDoor
open Go.RowKit

theorem ints_get {l : List Int} {k : Nat} (h : k < l.length) : (ints l)[k]? = some (.int .i64 l[k]) := by simp [ints, h]

end Go.Proofs.YtcidfldeiklcjaaGreatDoor
/- base.letter, digit, inner, run, Name. -/
namespace Go.Proofs.YtcidfldeiklcjaaGreatDoor
open Go.RowKit

end Go.Proofs.YtcidfldeiklcjaaGreatDoor
/- Statutes: ValidStatute, Seats. -/
namespace Go.Proofs.YtcidfldeiklcjaaGreatDoor
open Go.RowKit

def strs (l : List (List UInt8)) : List Value := l.map fun s => .string ⟨s.toArray⟩
theorem strs_get {l : List (List UInt8)} {k : Nat} (h : k < l.length) : (strs l)[k]? = some (.string ⟨l[k].toArray⟩) := by simp [strs, h]

end Go.Proofs.YtcidfldeiklcjaaGreatDoor
/- Lists of strings: Texts. -/
namespace Go.Proofs.YtcidfldeiklcjaaGreatDoor
open Go.RowKit

end Go.Proofs.YtcidfldeiklcjaaGreatDoor
namespace Go.Proofs.YtcidfldeiklcjaaGreatDoor
open Go.RowKit

theorem infoStr : (Tryz.prog.info? 9).map (fun i => (i.zero, i.size, i.bytes)) = some (some (.string ⟨#[]⟩), 1, 16) := by kernel_rfl
theorem text_pays (r : Wire.Rd) : (Wire.text r).2.bad = true ∨ ((Wire.text r).2.bad = false ∧ (Wire.text r).2.rest.length + 1 ≤ r.rest.length) := by
  cases h : (Wire.text r).2.bad
  · right
    obtain ⟨_, h2, _⟩ := Wire.text_inv r h
    refine ⟨rfl, ?_⟩
    conv => rhs; rw [h2]
    simp only [Wire.textE, List.length_append, List.length_cons, List.length_nil]
    omega
  · exact Or.inl rfl

/-- the loop's relation -/
def ItemsRelS (w0 : World) (b : Nat) (fin : List (List UInt8) × Wire.Rd) (L : Nat) (v i : Value) (wr : World) : Prop :=
  ∃ (n : Nat) (r : Wire.Rd) (acc : List (List UInt8)), n ≤ 9223372036854775807 ∧ i = .int .i64 n ∧ Wire.loop Wire.text n r acc = fin ∧ wr.ownsRow w0.heap.size 9 1 v acc.length (strs acc) ∧
    RdAt wr b r ∧ Kept [b] w0 wr ∧ Fits r ∧ Pays L r acc.length

set_option maxHeartbeats 1000000 in
theorem items_string (b : Nat) (r : Wire.Rd) (w : World) (h : RdAt w b r) (hE : Env w) (hs : Fits r) :
    Calls Tryz.prog 174 #[.pointer (some ⟨b, 0, none⟩), .func (.func 126) #[.pointer (some ⟨b, 0, none⟩)] #[]] w fun en w' =>
      ∃ v, en = .returned v ∧ w'.ownsRow w.heap.size 9 1 v (Wire.texts r).1.length (strs (Wire.texts r).1) ∧ RdAt w' b (Wire.texts r).2 ∧ Kept [b] w w' := by
  obtain ⟨n, r1, hq⟩ : ∃ n r1, Wire.number 91 0 r = (n, r1) := ⟨_, _, rfl⟩
  have hn0 : 0 ≤ n := by have := Wire.number_least 91 0 (by omega) r; rw [hq] at this; exact this
  have hn1 : n ≤ 9223372036854775807 := by have := Wire.number_bounds 91 0 r; rw [hq] at this; exact this.2
  obtain ⟨m, rfl⟩ := Int.eq_ofNat_of_zero_le hn0
  have hs1 := fits_number hq hs
  obtain ⟨fin, hfin⟩ : ∃ fin, Wire.loop Wire.text m r1 [] = fin := ⟨_, rfl⟩
  have H := Lib.hid hq
  have HF := Lib.hid hfin
  have hbl := h.2.lt
  obtain ⟨i0, hi, hz0, hz1, hz2⟩ := info_parts infoStr
  clear hq hfin
  go_enter Tryz.func174, Tryz.ntmps174
  go_wp2_with (go_at_call 171; refine (rd_number' b r 91 0 H.out _ h hE hs).mono ?_)
  rintro e w1 ⟨rfl, h1, hk1⟩
  go_wp2_with fail
  go_loopw [5, 6] (fun v i wr => ItemsRelS w b fin 100000000 v i wr) (fun _ i _ => (intOf i).toNat)
  case atStart =>
    exact ⟨m, r1, [], by omega, rfl, HF.out, by simpa [strs] using World.ownsRow_nil _ _ _ _, h1, hk1, hs1, fun _ => by unfold Fits at hs1; simpa using hs1, by simp⟩
  case round =>
    obtain ⟨n, r', acc, hn, rfl, hl, hown, hr, hk, hf, hp⟩ := hrel
    have hE' := hE.kept hk (by intro x hx; rw [List.mem_singleton] at hx; subst hx; exact h.1)
    have hsz := hk.size
    have c1 := hr.c1
    have HL := Lib.hid hl
    clear hl
    by_cases hgo : 0 < n ∧ r'.bad = false
    · obtain ⟨hn0, hbad⟩ := hgo
      obtain ⟨n, rfl⟩ : ∃ k, n = k + 1 := ⟨n - 1, by omega⟩
      obtain ⟨y, r2, hy⟩ : ∃ y r2, Wire.text r' = (y, r2) := ⟨_, _, rfl⟩
      have hr2 := rd_text b r' wr hr hE' hf
      have hpay := hp.step hbad (text_pays r')
      have hf2 : Fits r2 := by have := (fits_text hf).1; rw [hy] at this; exact this
      have hl2 : Wire.loop Wire.text n r2 (acc ++ [y]) = fin := by
        have := HL.out
        simp only [Wire.loop, hbad, Bool.false_eq_true, if_false, hy] at this
        exact this
      rw [hy] at hr2 hpay
      simp only at hr2 hpay
      have HR := Lib.hid hr2
      have HL2 := Lib.hid hl2
      rw [hbad] at c1
      clear hy hr2 hl2 hbad
      go_wp2_with (first
        | (go_at_call 126; refine HR.out.mono ?_; rintro e w2 ⟨rfl, h2, hk2⟩; have hown2 := own_kept hown hk2 (by simpa using hbl))
        | (at_builtin; refine wpList_append_own _ rfl _ _ 121 rfl w.heap.size 9 i0 (.string ⟨#[]⟩) 1 16 Tryz.underlying121 hi hz0 hz1 hz2 rfl (by decide) _ _ _ rfl (hown2.alloc _) ⟨w2.heap.size, 0, none⟩ 1 1 [.string ⟨y.toArray⟩] rfl rfl ?c1 ?c2 ?c3 ?c4 ?c5 ?_))
      case c1 => exact cell_one_new _ _ _
      case c2 => intro u hu; rw [List.mem_singleton] at hu; subst hu; rfl
      case c3 => have := hpay.2; unfold maxLen; omega
      case c4 => have := hpay.2; omega
      case c5 => have := hk2.size; simp; omega
      intro v' w3 hown3 hg3 _
      have hk3 : Kept [b] w w3 := ((hk.trans hk2).alloc _).grown hg3 (fun k hk => Or.inr (hown2.lt k hk).1)
      have hr3 : RdAt w3 b r2 := ⟨h2.1, (hg3.block b (Nat.lt_of_lt_of_le h2.2.lt (by simp)) (fun e => by have := (hown2.lt b e.symm).1; omega)).trans (h2.2.alloc _)⟩
      have e3 : strs acc ++ [.string ⟨y.toArray⟩] = strs (acc ++ [y]) := by simp [strs]
      rw [e3] at hown3
      clear e3 hg3 hown2 hown h2 hk2 hk hr c1
      go_wp2
      go_roundw
      case rel => exact ⟨n, r2, acc ++ [y], by omega, by go_num, HL2.out, by simpa using hown3, hr3, hk3, hf2, by simpa using hpay⟩
      case measure => simp [intOf]
    · have hfin : fin = (acc, r') := by
        rw [← HL.out]
        cases n with
        | zero => rfl
        | succ n =>
          have hb : r'.bad = true := by
            cases hb : r'.bad
            · exact absurd ⟨by omega, hb⟩ hgo
            · rfl
          simp [Wire.loop, hb]
      have hout : Wire.texts r = (if (Wire.close [93] r').bad then [] else acc, Wire.close [93] r') := by
        unfold Wire.texts Wire.items
        rw [H.out]
        simp only [Int.toNat_natCast]
        rw [HF.out, hfin]
        simp only
        split <;> rfl
      obtain ⟨rc, hrc⟩ : ∃ rc, Wire.close [93] r' = rc := ⟨_, rfl⟩
      have hcl := rd_close b r' [93] wr hr
      rw [hrc] at hcl hout
      have HC := Lib.hid hcl
      have HO := Lib.hid hout
      obtain ⟨va, vc, rfl⟩ := own_form hown
      have hexit : (n = 0) ∨ (0 < n ∧ r'.bad = true) := by
        rcases Nat.eq_zero_or_pos n with h0 | h0
        · exact Or.inl h0
        · right
          refine ⟨h0, ?_⟩
          cases hb : r'.bad
          · exact absurd ⟨h0, hb⟩ hgo
          · rfl
      clear hcl hrc hfin hout HL hgo
      rcases hexit with rfl | ⟨hn0, hb⟩
      · cases hbc : rc.bad
        all_goals
          go_wp2_with (go_at_call 173; refine HC.out.mono ?_; rintro e w2 ⟨rfl, h2, hk2⟩; have d1 := h2.c1; rw [hbc] at d1)
          go_ret
          rw [HO.out]
          simp only [hbc, if_true, Bool.false_eq_true, if_false]
          refine ⟨_, rfl, ?_, h2, hk.trans hk2⟩
        · exact own_kept hown hk2 (by simpa using hbl)
        · exact by simpa [strs] using World.ownsRow_nil _ _ _ _
      · rw [hb] at c1
        cases hbc : rc.bad
        all_goals
          go_wp2_with (go_at_call 173; refine HC.out.mono ?_; rintro e w2 ⟨rfl, h2, hk2⟩; have d1 := h2.c1; rw [hbc] at d1)
          go_ret
          rw [HO.out]
          simp only [hbc, if_true, Bool.false_eq_true, if_false]
          refine ⟨_, rfl, ?_, h2, hk.trans hk2⟩
        · exact own_kept hown hk2 (by simpa using hbl)
        · exact by simpa [strs] using World.ownsRow_nil _ _ _ _

set_option maxHeartbeats 400000 in
theorem rd_texts (b : Nat) (r : Wire.Rd) (w : World) (h : RdAt w b r) (hE : Env w) (hs : Fits r) :
    Calls Tryz.prog 130 #[.pointer (some ⟨b, 0, none⟩)] w fun en w' =>
      ∃ v, en = .returned v ∧ w'.ownsRow w.heap.size 9 1 v (Wire.texts r).1.length (strs (Wire.texts r).1) ∧ RdAt w' b (Wire.texts r).2 ∧ Kept [b] w w' := by
  have H := Lib.hid (items_string b r w h hE hs)
  obtain ⟨q, hq⟩ : ∃ q, Wire.texts r = q := ⟨_, rfl⟩
  rw [hq] at H ⊢
  clear hq
  go_enter Tryz.func130, Tryz.ntmps130
  go_wp2_with (go_at_call 174; refine H.out.mono ?_)
  rintro e w1 ⟨v, rfl, ho, hr, hk⟩
  obtain ⟨a, c, rfl⟩ := own_form ho
  go_wp2
  go_ret
  exact ⟨_, rfl, ho, hr, hk⟩

theorem fits_loopS : ∀ (n : Nat) (r : Wire.Rd) (acc : List (List UInt8)), (Wire.loop Wire.text n r acc).2.rest.length ≤ r.rest.length
  | 0, r, acc => by simp [Wire.loop]
  | n + 1, r, acc => by
    simp only [Wire.loop]
    split
    · simp
    · refine Nat.le_trans (fits_loopS n _ _) ?_
      rcases text_pays r with h | ⟨_, h⟩
      · unfold Wire.text
        have h1 := Wire.number_rest_le 58 0 r
        split
        · simp [Wire.failed]
        · have h2 := Wire.close_rest_le [44] ⟨(Wire.number 58 0 r).2.rest.drop (Wire.number 58 0 r).1.toNat, (Wire.number 58 0 r).2.bad⟩
          simp only [List.length_drop] at h2
          split <;> (simp only; omega)
      · omega
theorem fits_texts {r : Wire.Rd} (hs : Fits r) : Fits (Wire.texts r).2 := by
  have h1 := Wire.number_rest_le 91 0 r
  have h2 := fits_loopS (Wire.number 91 0 r).1.toNat (Wire.number 91 0 r).2 []
  have h3 := Wire.close_rest_le [93] (Wire.loop Wire.text (Wire.number 91 0 r).1.toNat (Wire.number 91 0 r).2 []).2
  unfold Wire.texts Wire.items Fits at *
  split <;> (simp only; omega)
theorem rd_texts' {l : List (List UInt8)} {r' : Wire.Rd} (b : Nat) (r : Wire.Rd) (hq : Wire.texts r = (l, r')) (w : World) (h : RdAt w b r) (hE : Env w) (hs : Fits r) :
    Calls Tryz.prog 130 #[.pointer (some ⟨b, 0, none⟩)] w fun en w' =>
      ∃ v, en = .returned v ∧ w'.ownsRow w.heap.size 9 1 v l.length (strs l) ∧ RdAt w' b r' ∧ Kept [b] w w' := by
  have := rd_texts b r w h hE hs
  rw [hq] at this
  exact this
theorem fits_texts' {l : List (List UInt8)} {r r' : Wire.Rd} (hq : Wire.texts r = (l, r')) (hs : Fits r) : Fits r' := by
  have := fits_texts hs; rw [hq] at this; exact this
end Go.Proofs.YtcidfldeiklcjaaGreatDoor
