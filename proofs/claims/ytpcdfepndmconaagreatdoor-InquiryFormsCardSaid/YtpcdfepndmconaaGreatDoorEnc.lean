/- What is written: Int, Text, Nums. -/
import Derived.Test.YtpcdfepndmconaaGreatDoorBuild
import Derived.Lib.AppendIntMem
namespace Go.Proofs.YtpcdfepndmconaaGreatDoor
open Go.RowKit

/-! ### a slice that reads as a list of cells -/

def Row (w : World) (size : Nat) (v : Value) (n : Nat) (l : List Value) : Prop :=
  l.length = n * size ∧ n ≤ 9223372036854775807 ∧ ∃ a c, v = .slice a n c ∧ n ≤ c ∧ (0 < n → ∃ b off, a = some ⟨b, off, none⟩ ∧ ∀ k u, l[k]? = some u → w.cell? ⟨b, off + k, none⟩ = some u)

theorem Row.kept {w w' : World} {size : Nat} {v : Value} {n : Nat} {l : List Value} (h : Row w size v n l) (k : Kept [] w w') : Row w' size v n l := by
  obtain ⟨h1, h2, a, c, hv, hcc, hc⟩ := h
  refine ⟨h1, h2, a, c, hv, hcc, fun hn => ?_⟩
  obtain ⟨b, off, ha, hcell⟩ := hc hn
  refine ⟨b, off, ha, fun j u hu => ?_⟩
  have := hcell j u hu
  exact (k.cell (World.block_lt_of_cell? w _ this) (by simp)).trans this

theorem Row.form {w : World} {size : Nat} {v : Value} {n : Nat} {l : List Value} (h : Row w size v n l) : ∃ a c, v = .slice a n c ∧ n ≤ 9223372036854775807 ∧ n ≤ c := by
  obtain ⟨_, h2, a, c, hv, hcc, _⟩ := h
  exact ⟨a, c, hv, h2, hcc⟩
theorem Row.drew {w : World} {size : Nat} {v : Value} {n : Nat} {l : List Value} (h : Row w size v n l) : Row w.drew size v n l := h.kept (Kept.refl _ _).drew
theorem Row.drewN {w : World} {size : Nat} {v : Value} {n : Nat} {l : List Value} (h : Row w size v n l) (k : Nat) : Row (w.drewN k) size v n l := h.kept ((Kept.refl _ _).drewN k)

theorem Row.at_ {w : World} {size n m c : Nat} {a : Option Addr} {l : List Value} (h : Row w size (.slice a n c) m l) (hm : 0 < m) :
    ∃ b off, a = some ⟨b, off, none⟩ ∧ ∀ k u, l[k]? = some u → w.cell? ⟨b, off + k, none⟩ = some u := by
  obtain ⟨_, _, a', c', hv, _, hc⟩ := h
  injection hv with e1 e2 e3
  subst e1
  exact hc hm

theorem add_cell (b off k : Nat) : (⟨b, off, none⟩ : Addr).add k = ⟨b, off + k, none⟩ := by
  unfold Addr.add; split
  · next h => subst h; rfl
  · rfl

theorem Row.of_own {w : World} {B : Nat} {e : TypeId} {size : Nat} {v : Value} {n : Nat} {xs : List Value} (h : w.ownsRow B e size v n xs) (hn : n ≤ 9223372036854775807) : Row w size v n xs := by
  refine ⟨h.1, hn, ?_⟩
  rcases h.2 with ⟨h1, h2⟩ | ⟨g, cap, cur, hv, hB, hg, hnc, hcm, hcs, hx⟩
  · subst h2
    exact ⟨_, _, h1, by omega, fun hn => by omega⟩
  · refine ⟨_, _, hv, hnc, fun _ => ⟨g, 0, rfl, fun k u hu => ?_⟩⟩
    rw [← hx] at hu
    simp only [World.cell?, hg, Option.isSome_none, Bool.false_eq_true, if_false, Nat.zero_add]
    rw [List.getElem?_take] at hu
    split at hu
    · simpa using hu
    · cases hu

theorem bcat : ∀ x y : List UInt8, (⟨x.toArray⟩ : ByteArray) ++ ⟨y.toArray⟩ = ⟨(x ++ y).toArray⟩ := fun x y => ByteArray.mk_append_mk x y

set_option maxHeartbeats 400000 in
theorem int_any (n : Int) (w : World) (hn : Wire.I64 n) (hE : Env w) :
    Calls Tryz.prog 75 #[.int .i64 n] w fun e w' => e = .returned (.string ⟨(Wire.intE n).toArray⟩) ∧ Kept [] w w' := by
  have hl := Wire.itoa_len n hn
  have hcat := bcat
  go_enter Tryz.func75, Tryz.ntmps75
  go_wp2_with (go_at_call 152; refine (itoa_any n _ hn hE).mono ?_; rintro e w1 ⟨rfl, hk⟩)
  go_ret
  exact ⟨rfl, hk⟩

theorem textE_eq (s : List UInt8) : Lib.itoa s.length ++ 58 :: (s ++ [44]) = Wire.textE s := by simp [Wire.textE]
set_option maxHeartbeats 400000 in
theorem text_any (s : List UInt8) (w : World) (hn : s.length ≤ 100000000) (hE : Env w) :
    Calls Tryz.prog 72 #[.string ⟨s.toArray⟩] w fun e w' => e = .returned (.string ⟨(Wire.textE s).toArray⟩) ∧ Kept [] w w' := by
  have hl := Wire.itoa_len s.length ⟨by omega, by omega⟩
  have hcat := bcat
  go_enter Tryz.func72, Tryz.ntmps72
  go_wp2_with (go_at_call 152; refine (itoa_any s.length _ ⟨by omega, by omega⟩ hE).mono ?_; rintro e w1 ⟨rfl, hk⟩)
  go_ret
  exact ⟨by rw [← textE_eq]; simp, hk⟩

theorem intE_len (n : Int) (hn : Wire.I64 n) : (Wire.intE n).length ≤ 21 := by
  have := Wire.itoa_len n hn
  simp only [Wire.intE, List.length_append, List.length_singleton]; omega
theorem flat_len (l : List Int) (h : ∀ x ∈ l, Wire.I64 x) : (l.flatMap Wire.intE).length ≤ 21 * l.length := by
  induction l with
  | nil => simp
  | cons a l ih =>
    have h1 := intE_len a (h a (by simp))
    have h2 := ih fun x hx => h x (by simp [hx])
    simp only [List.flatMap_cons, List.length_append, List.length_cons]; omega

theorem builder_kept {T e : TypeId} {B b : Nat} {p : Value} {l : List Value} {w w' : World} (h : Lib.BuilderAt T e B b p l w) (k : Kept [] w w') : Lib.BuilderAt T e B b p l w' := by
  obtain ⟨h1, v, h2, h3, h4⟩ := h
  exact ⟨h1, v, (k.block b (Array.getElem?_eq_some_iff.1 h2).1 (by simp)).trans h2, own_kept h3 k (by simp), h4⟩

theorem textE_len (s : List UInt8) (h : s.length ≤ 100000000) : (Wire.textE s).length ≤ 100000022 := by
  have := Wire.itoa_len s.length ⟨by omega, by omega⟩
  simp only [Wire.textE, List.length_append, List.length_singleton]; omega
theorem numsE_len (l : List Int) (h : ∀ x ∈ l, Wire.I64 x) (hl : l.length ≤ 100000001) : (Wire.numsE l).length ≤ 2100000043 := by
  have h1 := flat_len l h
  have := Wire.itoa_len l.length ⟨by omega, by omega⟩
  simp only [Wire.numsE, Wire.listE, List.length_append, List.length_singleton]; omega

/-- the loop's relation -/
def EncRel (w0 : World) (b : Nat) (l : List Int) (i : Value) (wr : World) : Prop :=
  ∃ k : Nat, k ≤ l.length ∧ i = .int .i64 k ∧ Lib.IsBuilder TB 5 w0.heap.size b (Lib.byteCells (Lib.itoa l.length ++ [91] ++ (l.take k).flatMap Wire.intE)) wr ∧ Kept [] w0 wr

set_option maxRecDepth 100000 in
set_option maxHeartbeats 1000000 in
theorem encoded_int (v : Value) (l : List Int) (w : World) (hv : Row w 1 v l.length (ints l)) (hE : Env w) (hl : l.length ≤ 100000001) (hi : ∀ x ∈ l, Wire.I64 x) :
    Calls Tryz.prog 151 #[v, .func (.func 75) #[] #[]] w fun e w' => e = .returned (.string ⟨(Wire.numsE l).toArray⟩) ∧ Kept [] w w' := by
  have hv0 := hv
  obtain ⟨_, hlen, a, c, rfl, _, _⟩ := hv0
  have hil := Wire.itoa_len l.length ⟨by omega, by omega⟩
  have hcat := bcat
  go_enter Tryz.func151, Tryz.ntmps151
  go_wp2_with (first
    | (go_at_call 152; refine (itoa_any l.length _ ⟨by omega, by omega⟩ (by exact hE.alloc _)).mono ?_; rintro e w1 ⟨rfl, hk⟩))
  have hk0 : Kept [] w w1 := ((Kept.refl [] w).alloc _).trans hk
  have hsz := hk.size
  rw [World.size_alloc] at hsz
  have hb0 : Lib.IsBuilder TB 5 w.heap.size w.heap.size [] w1 :=
    Or.inl ⟨Nat.le_refl _, .slice none 0 0, (hk.block _ (by simp) (by simp)).trans (heap_alloc_new w _), World.ownsRow_nil _ _ _ _, by simp [Value.ownBlock]⟩
  have hws := writeString_any w.heap.size w.heap.size [] ⟨(Lib.itoa l.length ++ [91]).toArray⟩ w1 hb0 (by simp [ByteArray.size]; omega) (by omega)
  have HW := Lib.hid hws
  clear hws
  go_wp2_with (go_at_call 194; refine HW.out.mono ?_)
  rintro e w2 ⟨rfl, hb2, hbl2⟩
  have hk2 : Kept [] w w2 := hk0.then_below hbl2
  go_wp2_with fail
  go_loopw [7, 15] (fun _ i wr => EncRel w w.heap.size l i wr) (fun _ i _ => l.length - (intOf i).toNat)
  case atStart => exact ⟨0, Nat.zero_le _, rfl, Or.inr (by simpa [Lib.strCells_toArray] using hb2), hk2⟩
  case round =>
    obtain ⟨k, hkl, rfl, hb, hkr⟩ := hrel
    have hE' := hE.kept0 hkr
    have hrow := hv.kept hkr
    by_cases hlt : k < l.length
    · obtain ⟨bb, off, rfl, hc⟩ := hrow.at_ (by omega)
      have hx := hc k (.int .i64 l[k]) (by simp [ints, hlt])
      have hI := hi l[k] (List.getElem_mem hlt)
      have hIl := intE_len l[k] hI
      have hfl := flat_len (l.take k) (fun x hx => hi x (List.mem_of_mem_take hx))
      have htk : (l.take k).length ≤ 100000001 := by rw [List.length_take]; omega
      have HF : Hid (l.take (k + 1) = l.take k ++ [l[k]]) := List.take_succ_eq_append_getElem hlt
      have hks := hkr.size
      clear hc
      go_wp2_with (first
        | (go_at_call 75; refine (int_any l[k] _ hI hE').mono ?_))
      rintro e w3 ⟨rfl, hk3⟩
      have hb3 : Lib.IsBuilder TB 5 w.heap.size w.heap.size (Lib.byteCells (Lib.itoa l.length ++ [91] ++ (l.take k).flatMap Wire.intE)) w3 := by
        rcases hb with hb | hb
        · exact Or.inl (builder_kept hb hk3)
        · exact Or.inr (builder_kept hb hk3)
      have hws := writeString_any w.heap.size w.heap.size _ ⟨(Wire.intE l[k]).toArray⟩ w3 hb3
        (by rw [Lib.byteCells_length]; simp only [ByteArray.size, List.size_toArray, List.length_append, List.length_singleton]; omega) (by have := hk3.size; omega)
      have HW2 := Lib.hid hws
      clear hws
      go_wp2_with (go_at_call 194; refine HW2.out.mono ?_)
      rintro e w4 ⟨rfl, hb4, hbl4⟩
      have hk4 : Kept [] w w4 := (hkr.trans hk3).then_below hbl4
      go_wp2
      go_roundw
      case rel =>
        refine ⟨k + 1, by omega, by go_num, ?_, hk4⟩
        refine Or.inr ?_
        have e1 : Lib.itoa l.length ++ [91] ++ (l.take (k + 1)).flatMap Wire.intE = (Lib.itoa l.length ++ [91] ++ (l.take k).flatMap Wire.intE) ++ Wire.intE l[k] := by
          rw [HF.out, List.flatMap_append]; simp only [List.flatMap_cons, List.flatMap_nil, List.append_nil, List.append_assoc]
        rw [e1, Lib.byteCells_append, ← Lib.strCells_toArray (Wire.intE l[k])]
        exact hb4
      case measure => simp [intOf]; omega
    · obtain rfl : k = l.length := by omega
      rw [List.take_length] at hb
      have hfl := flat_len l hi
      have hks := hkr.size
      obtain ⟨F, hF⟩ : ∃ F, l.flatMap Wire.intE = F := ⟨_, rfl⟩
      rw [hF] at hb hfl
      have HF := Lib.hid hF
      clear hF
      have hss := Tryz.Builder_String_any w.heap.size w.heap.size _ wr hb hks
      have HS := Lib.hid hss
      clear hss
      go_wp2_with (go_at_call 195; refine HS.out.mono ?_)
      rintro e w3 ⟨rfl, hbl3⟩
      go_wp2
      go_ret
      refine ⟨?_, hkr.then_below hbl3⟩
      have e1 : Wire.numsE l = Lib.itoa l.length ++ 91 :: (F ++ [93]) := by
        unfold Wire.numsE Wire.listE
        rw [HF.out]
        simp
      rw [e1]
      simp

set_option maxHeartbeats 400000 in
theorem nums_any (v : Value) (l : List Int) (w : World) (hv : Row w 1 v l.length (ints l)) (hE : Env w) (hl : l.length ≤ 100000001) (hi : ∀ x ∈ l, Wire.I64 x) :
    Calls Tryz.prog 71 #[v] w fun e w' => e = .returned (.string ⟨(Wire.numsE l).toArray⟩) ∧ Kept [] w w' := by
  have H := Lib.hid (encoded_int v l w hv hE hl hi)
  go_enter Tryz.func71, Tryz.ntmps71
  go_wp2_with (go_at_call 151; refine H.out.mono ?_)
  rintro e w1 ⟨rfl, hk⟩
  go_wp2
  go_ret
  exact ⟨rfl, hk⟩

set_option maxHeartbeats 400000 in
theorem rd_nums (b : Nat) (r : Wire.Rd) (w : World) (h : RdAt w b r) (hE : Env w) (hs : Fits r) :
    Calls Tryz.prog 60 #[.pointer (some ⟨b, 0, none⟩)] w fun en w' =>
      ∃ v, en = .returned v ∧ w'.ownsRow w.heap.size 3 1 v (Wire.nums r).1.length (ints (Wire.nums r).1) ∧ RdAt w' b (Wire.nums r).2 ∧ Kept [b] w w' := by
  have H := Lib.hid (items_int b r w h hE hs)
  obtain ⟨q, hq⟩ : ∃ q, Wire.nums r = q := ⟨_, rfl⟩
  rw [hq] at H ⊢
  clear hq
  go_enter Tryz.func60, Tryz.ntmps60
  go_wp2_with (go_at_call 141; refine H.out.mono ?_)
  rintro e w1 ⟨v, rfl, ho, hr, hk⟩
  obtain ⟨a, c, rfl⟩ := own_form ho
  go_wp2
  go_ret
  exact ⟨_, rfl, ho, hr, hk⟩

theorem fits_loop (one : Wire.Rd → Int × Wire.Rd) (h1 : ∀ r, (one r).2.rest.length ≤ r.rest.length) : ∀ (n : Nat) (r : Wire.Rd) (acc : List Int), (Wire.loop one n r acc).2.rest.length ≤ r.rest.length
  | 0, r, acc => by simp [Wire.loop]
  | n + 1, r, acc => by
    simp only [Wire.loop]
    split
    · simp
    · exact Nat.le_trans (fits_loop one h1 n _ _) (h1 r)
theorem fits_nums {r : Wire.Rd} (hs : Fits r) : Fits (Wire.nums r).2 := by
  have h1 := Wire.number_rest_le 91 0 r
  have h2 := fits_loop rdInt (fun r => Wire.number_rest_le 59 _ r) (Wire.number 91 0 r).1.toNat (Wire.number 91 0 r).2 []
  have h3 := Wire.close_rest_le [93] (Wire.loop rdInt (Wire.number 91 0 r).1.toNat (Wire.number 91 0 r).2 []).2
  rw [nums_eq]
  unfold Wire.items Fits at *
  split <;> (simp only; omega)
theorem loop_ok_all (one : Wire.Rd → Int × Wire.Rd) (h1 : ∀ r, Wire.I64 (one r).1) : ∀ (n : Nat) (r : Wire.Rd) (acc : List Int), (∀ x ∈ acc, Wire.I64 x) → ∀ x ∈ (Wire.loop one n r acc).1, Wire.I64 x
  | 0, r, acc, h => by simpa [Wire.loop] using h
  | n + 1, r, acc, h => by
    simp only [Wire.loop]
    split
    · exact h
    · refine loop_ok_all one h1 n _ _ ?_
      intro x hx
      rw [List.mem_append, List.mem_singleton] at hx
      rcases hx with hx | rfl
      · exact h x hx
      · exact h1 r
theorem loop_pays (L : Nat) : ∀ (n : Nat) (r : Wire.Rd) (acc : List Int), Pays L r acc.length → (Wire.loop rdInt n r acc).1.length ≤ L + 1
  | 0, r, acc, h => by simpa [Wire.loop] using h.2
  | n + 1, r, acc, h => by
    simp only [Wire.loop]
    split
    · exact h.2
    · next hb =>
      have hb' : r.bad = false := by simpa using hb
      refine loop_pays L n _ _ ?_
      have := h.step hb' (number_pays 59 (-9223372036854775808) r)
      rw [List.length_append, List.length_singleton]
      exact this
theorem nums_len (r : Wire.Rd) (hs : Fits r) : (Wire.nums r).1.length ≤ 100000001 := by
  have h1 := Wire.number_rest_le 91 0 r
  have h2 := loop_pays 100000000 (Wire.number 91 0 r).1.toNat (Wire.number 91 0 r).2 [] ⟨fun _ => by unfold Fits at hs; simp only [List.length_nil]; omega, by simp⟩
  rw [nums_eq]
  unfold Wire.items
  split
  · simp
  · exact h2
theorem nums_i64 (r : Wire.Rd) : ∀ x ∈ (Wire.nums r).1, Wire.I64 x := by
  have h2 := loop_ok_all rdInt (fun r => Wire.number_bounds 59 _ r) (Wire.number 91 0 r).1.toNat (Wire.number 91 0 r).2 [] (by simp)
  rw [nums_eq]
  unfold Wire.items
  split
  · simp
  · exact h2

/-! the reader's methods, told by what they give -/
theorem rd_nums' {l : List Int} {r' : Wire.Rd} (b : Nat) (r : Wire.Rd) (hq : Wire.nums r = (l, r')) (w : World) (h : RdAt w b r) (hE : Env w) (hs : Fits r) :
    Calls Tryz.prog 60 #[.pointer (some ⟨b, 0, none⟩)] w fun en w' =>
      ∃ v, en = .returned v ∧ w'.ownsRow w.heap.size 3 1 v l.length (ints l) ∧ RdAt w' b r' ∧ Kept [b] w w' := by
  have := rd_nums b r w h hE hs
  rw [hq] at this
  exact this
theorem rd_text' {l : List UInt8} {r' : Wire.Rd} (b : Nat) (r : Wire.Rd) (hq : Wire.text r = (l, r')) (w : World) (h : RdAt w b r) (hE : Env w) (hs : Fits r) :
    Calls Tryz.prog 61 #[.pointer (some ⟨b, 0, none⟩)] w fun en w' =>
      en = .returned (.string ⟨l.toArray⟩) ∧ RdAt w' b r' ∧ Kept [b] w w' := by
  have := rd_text b r w h hE hs
  rw [hq] at this
  exact this
theorem rd_int' {n : Int} {r' : Wire.Rd} (b : Nat) (r : Wire.Rd) (hq : Wire.number 59 (-9223372036854775808) r = (n, r')) (w : World) (h : RdAt w b r) (hE : Env w) (hs : Fits r) :
    Calls Tryz.prog 62 #[.pointer (some ⟨b, 0, none⟩)] w fun en w' =>
      en = .returned (.int .i64 n) ∧ RdAt w' b r' ∧ Kept [b] w w' := by
  have := rd_int b r w h hE hs
  rw [hq] at this
  exact this
theorem fits_nums' {l : List Int} {r r' : Wire.Rd} (hq : Wire.nums r = (l, r')) (hs : Fits r) : Fits r' := by
  have := fits_nums hs; rw [hq] at this; exact this
theorem fits_text' {l : List UInt8} {r r' : Wire.Rd} (hq : Wire.text r = (l, r')) (hs : Fits r) : Fits r' := by
  have := (fits_text hs).1; rw [hq] at this; exact this
end Go.Proofs.YtpcdfepndmconaaGreatDoor
