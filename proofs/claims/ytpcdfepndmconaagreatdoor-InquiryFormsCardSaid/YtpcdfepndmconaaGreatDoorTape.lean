/- The plain codec of lists of ints: how a proof and a record lie in one list of numbers. -/
import Derived.Test.YtpcdfepndmconaaGreatDoorStat
import Derived.Test.YtpcdfepndmconaaGreatDoorEnv
/- JOINED: EncS RdS Tape -/
/- Lists of strings: Texts. -/
namespace Go.Proofs.YtpcdfepndmconaaGreatDoor
open Go.RowKit

theorem flat_lenS (l : List (List UInt8)) (h : ∀ x ∈ l, x.length ≤ 1000) : (l.flatMap Wire.textE).length ≤ 1022 * l.length := by
  induction l with
  | nil => simp
  | cons a l ih =>
    have h1 := h a (by simp)
    have h3 := Wire.itoa_len a.length ⟨by omega, by omega⟩
    have h2 := ih fun x hx => h x (by simp [hx])
    simp only [List.flatMap_cons, List.length_append, List.length_cons, Wire.textE, List.length_nil]; omega

/-- the loop's relation -/
def EncRelS (w0 : World) (b : Nat) (l : List (List UInt8)) (i : Value) (wr : World) : Prop :=
  ∃ k : Nat, k ≤ l.length ∧ i = .int .i64 k ∧ Lib.IsBuilder TB 5 w0.heap.size b (Lib.byteCells (Lib.itoa l.length ++ [91] ++ (l.take k).flatMap Wire.textE)) wr ∧ Kept [] w0 wr

set_option maxRecDepth 100000 in
set_option maxHeartbeats 1000000 in
theorem encoded_string (v : Value) (l : List (List UInt8)) (w : World) (hv : Row w 1 v l.length (strs l)) (hE : Env w) (hl : l.length ≤ 100000) (hi : ∀ x ∈ l, x.length ≤ 1000) :
    Calls Tryz.prog 176 #[v, .func (.func 72) #[] #[]] w fun e w' => e = .returned (.string ⟨(Wire.textsE l).toArray⟩) ∧ Kept [] w w' := by
  have hv0 := hv
  obtain ⟨_, hlen, a, c, rfl, _, _⟩ := hv0
  have hil := Wire.itoa_len l.length ⟨by omega, by omega⟩
  have hcat := bcat
  go_enter Tryz.func176, Tryz.ntmps176
  go_wp2_with (first
    | (go_at_call 152; refine (itoa_any l.length _ ⟨by omega, by omega⟩ (by exact hE.alloc _)).mono ?_; rintro e w1 ⟨rfl, hk⟩))
  have hk0 : Kept [] w w1 := ((Kept.refl [] w).alloc _).trans hk
  have hsz := hk.size
  rw [World.size_alloc] at hsz
  have hb0 : Lib.IsBuilder TB 5 w.heap.size w.heap.size [] w1 :=
    Or.inl ⟨Nat.le_refl _, .slice none 0 0, (hk.block _ (by simp) (by simp)).trans (heap_alloc_new w _), World.ownsRow_nil _ _ _ _, by simp [Value.ownBlock]⟩
  have hws := writeString_any w.heap.size w.heap.size [] ⟨(Lib.itoa l.length ++ [91]).toArray⟩ w1 hb0 (by simp [ByteArray.size]; omega) (by omega)
  have HW := Lib.hid hws
  clear hws
  go_wp2_with (go_at_call 194; refine HW.out.mono ?_)
  rintro e w2 ⟨rfl, hb2, hbl2⟩
  have hk2 : Kept [] w w2 := hk0.then_below hbl2
  go_wp2_with fail
  go_loopw [7, 15] (fun _ i wr => EncRelS w w.heap.size l i wr) (fun _ i _ => l.length - (intOf i).toNat)
  case atStart => exact ⟨0, Nat.zero_le _, rfl, Or.inr (by simpa [Lib.strCells_toArray] using hb2), hk2⟩
  case round =>
    obtain ⟨k, hkl, rfl, hb, hkr⟩ := hrel
    have hE' := hE.kept0 hkr
    have hrow := hv.kept hkr
    by_cases hlt : k < l.length
    · obtain ⟨bb, off, rfl, hc⟩ := hrow.at_ (by omega)
      have hx := hc k _ (strs_get hlt)
      have hI := hi l[k] (List.getElem_mem hlt)
      have hIl : (Wire.textE l[k]).length ≤ 1022 := by
        have h3 := Wire.itoa_len (l[k].length : Int) ⟨by omega, by omega⟩
        simp only [Wire.textE, List.length_append, List.length_cons, List.length_nil]; omega
      have hfl := flat_lenS (l.take k) (fun x hx => hi x (List.mem_of_mem_take hx))
      have htk : (l.take k).length ≤ 100000 := by rw [List.length_take]; omega
      have HF : Hid (l.take (k + 1) = l.take k ++ [l[k]]) := List.take_succ_eq_append_getElem hlt
      have hks := hkr.size
      have HT := Lib.hid (text_any l[k] wr (by omega) hE')
      clear hc
      go_wp2_with (first
        | (go_at_call 72; refine HT.out.mono ?_))
      rintro e w3 ⟨rfl, hk3⟩
      have hb3 : Lib.IsBuilder TB 5 w.heap.size w.heap.size (Lib.byteCells (Lib.itoa l.length ++ [91] ++ (l.take k).flatMap Wire.textE)) w3 := by
        rcases hb with hb | hb
        · exact Or.inl (builder_kept hb hk3)
        · exact Or.inr (builder_kept hb hk3)
      have hws := writeString_any w.heap.size w.heap.size _ ⟨(Wire.textE l[k]).toArray⟩ w3 hb3
        (by rw [Lib.byteCells_length]; simp only [ByteArray.size, List.size_toArray, List.length_append, List.length_singleton]; omega) (by have := hk3.size; omega)
      have HW2 := Lib.hid hws
      clear hws
      go_wp2_with (go_at_call 194; refine HW2.out.mono ?_)
      rintro e w4 ⟨rfl, hb4, hbl4⟩
      have hk4 : Kept [] w w4 := (hkr.trans hk3).then_below hbl4
      go_wp2
      go_roundw
      case rel =>
        refine ⟨k + 1, by omega, by go_num, ?_, hk4⟩
        refine Or.inr ?_
        have e1 : Lib.itoa l.length ++ [91] ++ (l.take (k + 1)).flatMap Wire.textE = (Lib.itoa l.length ++ [91] ++ (l.take k).flatMap Wire.textE) ++ Wire.textE l[k] := by
          rw [HF.out, List.flatMap_append]; simp only [List.flatMap_cons, List.flatMap_nil, List.append_nil, List.append_assoc]
        rw [e1, Lib.byteCells_append, ← Lib.strCells_toArray (Wire.textE l[k])]
        exact hb4
      case measure => simp [intOf]; omega
    · obtain rfl : k = l.length := by omega
      rw [List.take_length] at hb
      have hfl := flat_lenS l hi
      have hks := hkr.size
      obtain ⟨F, hF⟩ : ∃ F, l.flatMap Wire.textE = F := ⟨_, rfl⟩
      rw [hF] at hb hfl
      have HF := Lib.hid hF
      clear hF
      have hss := Tryz.Builder_String_any w.heap.size w.heap.size _ wr hb hks
      have HS := Lib.hid hss
      clear hss
      go_wp2_with (go_at_call 195; refine HS.out.mono ?_)
      rintro e w3 ⟨rfl, hbl3⟩
      go_wp2
      go_ret
      refine ⟨?_, hkr.then_below hbl3⟩
      have e1 : Wire.textsE l = Lib.itoa l.length ++ 91 :: (F ++ [93]) := by
        unfold Wire.textsE Wire.listE
        rw [HF.out]
        simp
      rw [e1]
      simp

set_option maxHeartbeats 400000 in
theorem texts_any (v : Value) (l : List (List UInt8)) (w : World) (hv : Row w 1 v l.length (strs l)) (hE : Env w) (hl : l.length ≤ 100000) (hi : ∀ x ∈ l, x.length ≤ 1000) :
    Calls Tryz.prog 110 #[v] w fun e w' => e = .returned (.string ⟨(Wire.textsE l).toArray⟩) ∧ Kept [] w w' := by
  have H := Lib.hid (encoded_string v l w hv hE hl hi)
  go_enter Tryz.func110, Tryz.ntmps110
  go_wp2_with (go_at_call 176; refine H.out.mono ?_)
  rintro e w1 ⟨rfl, hk⟩
  go_wp2
  go_ret
  exact ⟨rfl, hk⟩
end Go.Proofs.YtpcdfepndmconaaGreatDoor
/- Lists of strings read: items[string], Texts. -/
namespace Go.Proofs.YtpcdfepndmconaaGreatDoor
open Go.RowKit

theorem infoStr : (Tryz.prog.info? 9).map (fun i => (i.zero, i.size, i.bytes)) = some (some (.string ⟨#[]⟩), 1, 16) := by kernel_rfl
theorem text_pays (r : Wire.Rd) : (Wire.text r).2.bad = true ∨ ((Wire.text r).2.bad = false ∧ (Wire.text r).2.rest.length + 1 ≤ r.rest.length) := by
  cases h : (Wire.text r).2.bad
  · right
    obtain ⟨_, h2, _⟩ := Wire.text_inv r h
    refine ⟨rfl, ?_⟩
    conv => rhs; rw [h2]
    simp only [Wire.textE, List.length_append, List.length_cons, List.length_nil]
    omega
  · exact Or.inl rfl

/-- the loop's relation -/
def ItemsRelS (w0 : World) (b : Nat) (fin : List (List UInt8) × Wire.Rd) (L : Nat) (v i : Value) (wr : World) : Prop :=
  ∃ (n : Nat) (r : Wire.Rd) (acc : List (List UInt8)), n ≤ 9223372036854775807 ∧ i = .int .i64 n ∧ Wire.loop Wire.text n r acc = fin ∧ wr.ownsRow w0.heap.size 9 1 v acc.length (strs acc) ∧
    RdAt wr b r ∧ Kept [b] w0 wr ∧ Fits r ∧ Pays L r acc.length

set_option maxHeartbeats 1000000 in
theorem items_string (b : Nat) (r : Wire.Rd) (w : World) (h : RdAt w b r) (hE : Env w) (hs : Fits r) :
    Calls Tryz.prog 177 #[.pointer (some ⟨b, 0, none⟩), .func (.func 61) #[.pointer (some ⟨b, 0, none⟩)] #[]] w fun en w' =>
      ∃ v, en = .returned v ∧ w'.ownsRow w.heap.size 9 1 v (Wire.texts r).1.length (strs (Wire.texts r).1) ∧ RdAt w' b (Wire.texts r).2 ∧ Kept [b] w w' := by
  obtain ⟨n, r1, hq⟩ : ∃ n r1, Wire.number 91 0 r = (n, r1) := ⟨_, _, rfl⟩
  have hn0 : 0 ≤ n := by have := Wire.number_least 91 0 (by omega) r; rw [hq] at this; exact this
  have hn1 : n ≤ 9223372036854775807 := by have := Wire.number_bounds 91 0 r; rw [hq] at this; exact this.2
  obtain ⟨m, rfl⟩ := Int.eq_ofNat_of_zero_le hn0
  have hs1 := fits_number hq hs
  obtain ⟨fin, hfin⟩ : ∃ fin, Wire.loop Wire.text m r1 [] = fin := ⟨_, rfl⟩
  have H := Lib.hid hq
  have HF := Lib.hid hfin
  have hbl := h.2.lt
  obtain ⟨i0, hi, hz0, hz1, hz2⟩ := info_parts infoStr
  clear hq hfin
  go_enter Tryz.func177, Tryz.ntmps177
  go_wp2_with (go_at_call 142; refine (rd_number' b r 91 0 H.out _ h hE hs).mono ?_)
  rintro e w1 ⟨rfl, h1, hk1⟩
  go_wp2_with fail
  go_loopw [5, 6] (fun v i wr => ItemsRelS w b fin 100000000 v i wr) (fun _ i _ => (intOf i).toNat)
  case atStart =>
    exact ⟨m, r1, [], by omega, rfl, HF.out, by simpa [strs] using World.ownsRow_nil _ _ _ _, h1, hk1, hs1, fun _ => by unfold Fits at hs1; simpa using hs1, by simp⟩
  case round =>
    obtain ⟨n, r', acc, hn, rfl, hl, hown, hr, hk, hf, hp⟩ := hrel
    have hE' := hE.kept hk (by intro x hx; rw [List.mem_singleton] at hx; subst hx; exact h.1)
    have hsz := hk.size
    have c1 := hr.c1
    have HL := Lib.hid hl
    clear hl
    by_cases hgo : 0 < n ∧ r'.bad = false
    · obtain ⟨hn0, hbad⟩ := hgo
      obtain ⟨n, rfl⟩ : ∃ k, n = k + 1 := ⟨n - 1, by omega⟩
      obtain ⟨y, r2, hy⟩ : ∃ y r2, Wire.text r' = (y, r2) := ⟨_, _, rfl⟩
      have hr2 := rd_text b r' wr hr hE' hf
      have hpay := hp.step hbad (text_pays r')
      have hf2 : Fits r2 := by have := (fits_text hf).1; rw [hy] at this; exact this
      have hl2 : Wire.loop Wire.text n r2 (acc ++ [y]) = fin := by
        have := HL.out
        simp only [Wire.loop, hbad, Bool.false_eq_true, if_false, hy] at this
        exact this
      rw [hy] at hr2 hpay
      simp only at hr2 hpay
      have HR := Lib.hid hr2
      have HL2 := Lib.hid hl2
      rw [hbad] at c1
      clear hy hr2 hl2 hbad
      go_wp2_with (first
        | (go_at_call 61; refine HR.out.mono ?_; rintro e w2 ⟨rfl, h2, hk2⟩; have hown2 := own_kept hown hk2 (by simpa using hbl))
        | (at_builtin; refine wpList_append_own _ rfl _ _ 44 rfl w.heap.size 9 i0 (.string ⟨#[]⟩) 1 16 Tryz.underlying44 hi hz0 hz1 hz2 rfl (by decide) _ _ _ rfl (hown2.alloc _) ⟨w2.heap.size, 0, none⟩ 1 1 [.string ⟨y.toArray⟩] rfl rfl ?c1 ?c2 ?c3 ?c4 ?c5 ?_))
      case c1 => exact cell_one_new _ _ _
      case c2 => intro u hu; rw [List.mem_singleton] at hu; subst hu; rfl
      case c3 => have := hpay.2; unfold maxLen; omega
      case c4 => have := hpay.2; omega
      case c5 => have := hk2.size; simp; omega
      intro v' w3 hown3 hg3 _
      have hk3 : Kept [b] w w3 := ((hk.trans hk2).alloc _).grown hg3 (fun k hk => Or.inr (hown2.lt k hk).1)
      have hr3 : RdAt w3 b r2 := ⟨h2.1, (hg3.block b (Nat.lt_of_lt_of_le h2.2.lt (by simp)) (fun e => by have := (hown2.lt b e.symm).1; omega)).trans (h2.2.alloc _)⟩
      have e3 : strs acc ++ [.string ⟨y.toArray⟩] = strs (acc ++ [y]) := by simp [strs]
      rw [e3] at hown3
      clear e3 hg3 hown2 hown h2 hk2 hk hr c1
      go_wp2
      go_roundw
      case rel => exact ⟨n, r2, acc ++ [y], by omega, by go_num, HL2.out, by simpa using hown3, hr3, hk3, hf2, by simpa using hpay⟩
      case measure => simp [intOf]
    · have hfin : fin = (acc, r') := by
        rw [← HL.out]
        cases n with
        | zero => rfl
        | succ n =>
          have hb : r'.bad = true := by
            cases hb : r'.bad
            · exact absurd ⟨by omega, hb⟩ hgo
            · rfl
          simp [Wire.loop, hb]
      have hout : Wire.texts r = (if (Wire.close [93] r').bad then [] else acc, Wire.close [93] r') := by
        unfold Wire.texts Wire.items
        rw [H.out]
        simp only [Int.toNat_natCast]
        rw [HF.out, hfin]
        simp only
        split <;> rfl
      obtain ⟨rc, hrc⟩ : ∃ rc, Wire.close [93] r' = rc := ⟨_, rfl⟩
      have hcl := rd_close b r' [93] wr hr
      rw [hrc] at hcl hout
      have HC := Lib.hid hcl
      have HO := Lib.hid hout
      obtain ⟨va, vc, rfl⟩ := own_form hown
      have hexit : (n = 0) ∨ (0 < n ∧ r'.bad = true) := by
        rcases Nat.eq_zero_or_pos n with h0 | h0
        · exact Or.inl h0
        · right
          refine ⟨h0, ?_⟩
          cases hb : r'.bad
          · exact absurd ⟨h0, hb⟩ hgo
          · rfl
      clear hcl hrc hfin hout HL hgo
      rcases hexit with rfl | ⟨hn0, hb⟩
      · cases hbc : rc.bad
        all_goals
          go_wp2_with (go_at_call 144; refine HC.out.mono ?_; rintro e w2 ⟨rfl, h2, hk2⟩; have d1 := h2.c1; rw [hbc] at d1)
          go_ret
          rw [HO.out]
          simp only [hbc, if_true, Bool.false_eq_true, if_false]
          refine ⟨_, rfl, ?_, h2, hk.trans hk2⟩
        · exact own_kept hown hk2 (by simpa using hbl)
        · exact by simpa [strs] using World.ownsRow_nil _ _ _ _
      · rw [hb] at c1
        cases hbc : rc.bad
        all_goals
          go_wp2_with (go_at_call 144; refine HC.out.mono ?_; rintro e w2 ⟨rfl, h2, hk2⟩; have d1 := h2.c1; rw [hbc] at d1)
          go_ret
          rw [HO.out]
          simp only [hbc, if_true, Bool.false_eq_true, if_false]
          refine ⟨_, rfl, ?_, h2, hk.trans hk2⟩
        · exact own_kept hown hk2 (by simpa using hbl)
        · exact by simpa [strs] using World.ownsRow_nil _ _ _ _

set_option maxHeartbeats 400000 in
theorem rd_texts (b : Nat) (r : Wire.Rd) (w : World) (h : RdAt w b r) (hE : Env w) (hs : Fits r) :
    Calls Tryz.prog 115 #[.pointer (some ⟨b, 0, none⟩)] w fun en w' =>
      ∃ v, en = .returned v ∧ w'.ownsRow w.heap.size 9 1 v (Wire.texts r).1.length (strs (Wire.texts r).1) ∧ RdAt w' b (Wire.texts r).2 ∧ Kept [b] w w' := by
  have H := Lib.hid (items_string b r w h hE hs)
  obtain ⟨q, hq⟩ : ∃ q, Wire.texts r = q := ⟨_, rfl⟩
  rw [hq] at H ⊢
  clear hq
  go_enter Tryz.func115, Tryz.ntmps115
  go_wp2_with (go_at_call 177; refine H.out.mono ?_)
  rintro e w1 ⟨v, rfl, ho, hr, hk⟩
  obtain ⟨a, c, rfl⟩ := own_form ho
  go_wp2
  go_ret
  exact ⟨_, rfl, ho, hr, hk⟩

theorem fits_loopS : ∀ (n : Nat) (r : Wire.Rd) (acc : List (List UInt8)), (Wire.loop Wire.text n r acc).2.rest.length ≤ r.rest.length
  | 0, r, acc => by simp [Wire.loop]
  | n + 1, r, acc => by
    simp only [Wire.loop]
    split
    · simp
    · refine Nat.le_trans (fits_loopS n _ _) ?_
      rcases text_pays r with h | ⟨_, h⟩
      · unfold Wire.text
        have h1 := Wire.number_rest_le 58 0 r
        split
        · simp [Wire.failed]
        · have h2 := Wire.close_rest_le [44] ⟨(Wire.number 58 0 r).2.rest.drop (Wire.number 58 0 r).1.toNat, (Wire.number 58 0 r).2.bad⟩
          simp only [List.length_drop] at h2
          split <;> (simp only; omega)
      · omega
theorem fits_texts {r : Wire.Rd} (hs : Fits r) : Fits (Wire.texts r).2 := by
  have h1 := Wire.number_rest_le 91 0 r
  have h2 := fits_loopS (Wire.number 91 0 r).1.toNat (Wire.number 91 0 r).2 []
  have h3 := Wire.close_rest_le [93] (Wire.loop Wire.text (Wire.number 91 0 r).1.toNat (Wire.number 91 0 r).2 []).2
  unfold Wire.texts Wire.items Fits at *
  split <;> (simp only; omega)
theorem rd_texts' {l : List (List UInt8)} {r' : Wire.Rd} (b : Nat) (r : Wire.Rd) (hq : Wire.texts r = (l, r')) (w : World) (h : RdAt w b r) (hE : Env w) (hs : Fits r) :
    Calls Tryz.prog 115 #[.pointer (some ⟨b, 0, none⟩)] w fun en w' =>
      ∃ v, en = .returned v ∧ w'.ownsRow w.heap.size 9 1 v l.length (strs l) ∧ RdAt w' b r' ∧ Kept [b] w w' := by
  have := rd_texts b r w h hE hs
  rw [hq] at this
  exact this
theorem fits_texts' {l : List (List UInt8)} {r r' : Wire.Rd} (hq : Wire.texts r = (l, r')) (hs : Fits r) : Fits r' := by
  have := fits_texts hs; rw [hq] at this; exact this
end Go.Proofs.YtpcdfepndmconaaGreatDoor
namespace Go.Proofs.YtpcdfepndmconaaGreatDoor.Tape

structure Tp where
  left : List Int
  bad : Bool

def next (r : Tp) : Int × Tp :=
  match r.left with
  | [] => (0, ⟨[], true⟩)
  | n :: t => (n, ⟨t, r.bad⟩)

def count (r : Tp) : Nat × Tp :=
  if (next r).1 < 0 ∨ ((next r).2.left.length : Int) < (next r).1 then (0, ⟨(next r).2.left, true⟩) else ((next r).1.toNat, (next r).2)

def list (r : Tp) : List Int × Tp :=
  ((count r).2.left.take (count r).1, ⟨(count r).2.left.drop (count r).1, (count r).2.bad⟩)

theorem next_ok (n : Int) (t : List Int) (b : Bool) : next ⟨n :: t, b⟩ = (n, ⟨t, b⟩) := rfl
theorem next_inv (r : Tp) (h : (next r).2.bad = false) : r.bad = false ∧ r.left = (next r).1 :: (next r).2.left := by
  obtain ⟨l, b⟩ := r
  rcases l with _ | ⟨n, t⟩
  · cases h
  · exact ⟨h, rfl⟩
theorem next_le (r : Tp) : (next r).2.left.length ≤ r.left.length := by
  obtain ⟨l, b⟩ := r
  rcases l with _ | ⟨n, t⟩
  · exact Nat.le_refl _
  · exact Nat.le_succ _

theorem count_le (r : Tp) : (count r).1 ≤ (count r).2.left.length ∧ (count r).2.left.length ≤ r.left.length := by
  unfold count
  have := next_le r
  split
  · exact ⟨Nat.zero_le _, this⟩
  · next h => exact ⟨by simp only; omega, this⟩
theorem count_ok (n : Nat) (t : List Int) (b : Bool) (h : n ≤ t.length) : count ⟨(n : Int) :: t, b⟩ = (n, ⟨t, b⟩) := by
  unfold count
  rw [next_ok]
  simp only
  rw [if_neg (by omega)]
  simp
theorem count_inv (r : Tp) (h : (count r).2.bad = false) : r.bad = false ∧ r.left = ((count r).1 : Int) :: (count r).2.left ∧ (count r).1 ≤ (count r).2.left.length := by
  have hc := (count_le r).1
  unfold count at h hc ⊢
  split at h
  · cases h
  · next hn =>
    rw [if_neg hn] at hc ⊢
    simp only at h hc ⊢
    rw [show (((next r).1.toNat : Nat) : Int) = (next r).1 by omega]
    exact ⟨(next_inv r h).1, (next_inv r h).2, hc⟩

def listE (l : List Int) : List Int := (l.length : Int) :: l

structure Codec {α : Type} (enc : α → List Int) (one : Tp → α × Tp) : Prop where
  fwd : ∀ x t b, one ⟨enc x ++ t, b⟩ = (x, ⟨t, b⟩)
  inv : ∀ r, (one r).2.bad = false → r.bad = false ∧ r.left = enc (one r).1 ++ (one r).2.left
  le : ∀ r, (one r).2.left.length ≤ r.left.length
  pos : ∀ x, 1 ≤ (enc x).length

theorem list_codec : Codec listE list where
  fwd x t b := by
    unfold list listE
    rw [List.cons_append, count_ok _ _ _ (by simp)]
    simp
  inv r h := by
    unfold list at h ⊢
    simp only at h ⊢
    obtain ⟨h1, h2, h3⟩ := count_inv r h
    refine ⟨h1, ?_⟩
    conv => lhs; rw [h2]
    unfold listE
    rw [List.length_take, Nat.min_eq_left h3, List.cons_append, List.take_append_drop]
  le r := by
    unfold list
    have := count_le r
    simp only [List.length_drop]
    omega
  pos x := by simp [listE]

theorem next_codec : Codec (fun n : Int => [n]) next where
  fwd x t b := rfl
  inv r h := next_inv r h
  le r := next_le r
  pos x := by simp

/-- one behind the other -/
def both {α β : Type} (f : Tp → α × Tp) (g : Tp → β × Tp) (r : Tp) : (α × β) × Tp := (((f r).1, (g (f r).2).1), (g (f r).2).2)
theorem both_codec {α β : Type} {ea : α → List Int} {eb : β → List Int} {f : Tp → α × Tp} {g : Tp → β × Tp} (a : Codec ea f) (b : Codec eb g) :
    Codec (fun x : α × β => ea x.1 ++ eb x.2) (both f g) where
  fwd x t bd := by
    unfold both
    rw [List.append_assoc, a.fwd]
    simp only
    rw [b.fwd]
  inv r h := by
    unfold both at h ⊢
    simp only at h ⊢
    obtain ⟨h1, h2⟩ := b.inv _ h
    obtain ⟨h3, h4⟩ := a.inv _ h1
    exact ⟨h3, by rw [List.append_assoc, ← h2, ← h4]⟩
  le r := Nat.le_trans (b.le _) (a.le _)
  pos x := by rw [List.length_append]; have := a.pos x.1; omega

def times {α : Type} (one : Tp → α × Tp) : Nat → Tp → List α → List α × Tp
  | 0, r, acc => (acc, r)
  | n + 1, r, acc => times one n (one r).2 (acc ++ [(one r).1])

def many {α : Type} (one : Tp → α × Tp) (r : Tp) : List α × Tp := times one (count r).1 (count r).2 []
def manyE {α : Type} (enc : α → List Int) (l : List α) : List Int := (l.length : Int) :: l.flatMap enc

theorem times_ok {α : Type} {enc : α → List Int} {one : Tp → α × Tp} (c : Codec enc one) :
    ∀ (l acc : List α) (t : List Int) (b : Bool), times one l.length ⟨l.flatMap enc ++ t, b⟩ acc = (acc ++ l, ⟨t, b⟩)
  | [], acc, t, b => by simp [times]
  | x :: l, acc, t, b => by
    simp only [List.length_cons, times]
    rw [List.flatMap_cons, List.append_assoc, c.fwd]
    simp only
    rw [times_ok c l (acc ++ [x]) t b]
    simp

theorem times_inv {α : Type} {enc : α → List Int} {one : Tp → α × Tp} (c : Codec enc one) :
    ∀ (n : Nat) (r : Tp) (acc : List α), (times one n r acc).2.bad = false →
      ∃ l, (times one n r acc).1 = acc ++ l ∧ l.length = n ∧ r.bad = false ∧ r.left = l.flatMap enc ++ (times one n r acc).2.left
  | 0, r, acc, h => ⟨[], by simp [times], rfl, by simpa [times] using h, by simp [times]⟩
  | n + 1, r, acc, h => by
    simp only [times] at h ⊢
    obtain ⟨l, h1, h2, h3, h4⟩ := times_inv c n _ _ h
    obtain ⟨g1, g2⟩ := c.inv r h3
    exact ⟨(one r).1 :: l, by rw [h1]; simp, by simp [h2], g1, by rw [List.flatMap_cons, List.append_assoc, ← h4, ← g2]⟩

theorem times_le {α : Type} {enc : α → List Int} {one : Tp → α × Tp} (c : Codec enc one) :
    ∀ (n : Nat) (r : Tp) (acc : List α), (times one n r acc).2.left.length ≤ r.left.length
  | 0, _, _ => Nat.le_refl _
  | n + 1, r, _ => Nat.le_trans (times_le c n _ _) (c.le r)

theorem times_len {α : Type} (one : Tp → α × Tp) : ∀ (n : Nat) (r : Tp) (acc : List α), (times one n r acc).1.length = acc.length + n
  | 0, _, _ => rfl
  | n + 1, r, acc => by rw [times, times_len one n]; simp; omega

theorem flat_len {α : Type} {enc : α → List Int} (h : ∀ x, 1 ≤ (enc x).length) : ∀ l : List α, l.length ≤ (l.flatMap enc).length
  | [] => Nat.le_refl _
  | x :: l => by have := flat_len h l; have := h x; rw [List.flatMap_cons, List.length_append, List.length_cons]; omega

theorem many_codec {α : Type} {enc : α → List Int} {one : Tp → α × Tp} (c : Codec enc one) : Codec (manyE enc) (many one) where
  fwd x t b := by
    unfold many manyE
    rw [List.cons_append, count_ok _ _ _ (by rw [List.length_append]; have := flat_len c.pos x; omega)]
    simp only
    rw [times_ok c x [] t b]
    simp
  inv r h := by
    unfold many at h ⊢
    obtain ⟨l, h1, h2, h3, h4⟩ := times_inv c _ _ _ h
    obtain ⟨g1, g2, _⟩ := count_inv r h3
    refine ⟨g1, ?_⟩
    rw [h1]
    unfold manyE
    simp only [List.nil_append]
    rw [h2, List.cons_append, ← h4, ← g2]
  le r := Nat.le_trans (times_le c _ _ _) (count_le r).2
  pos x := by simp [manyE]

/-- what is encoded tells itself apart -/
theorem Codec.inj {α : Type} {enc : α → List Int} {one : Tp → α × Tp} (c : Codec enc one) {x y : α} {t u : List Int} (h : enc x ++ t = enc y ++ u) : x = y ∧ t = u := by
  have h1 := c.fwd x t false
  rw [h, c.fwd y u false] at h1
  obtain ⟨e1, e2⟩ := Prod.mk.inj h1
  exact ⟨e1.symm, (Tp.mk.inj e2).1.symm⟩
end Go.Proofs.YtpcdfepndmconaaGreatDoor.Tape
