/- The reference's ballots and minutes. -/
import Derived.Test.YtpcdfepndmconaaGreatDoorRr4
import Derived.Test.YtpcdfepndmconaaGreatDoorEnc
import Derived.Test.YtpcdfepndmconaaGreatDoorKnu
import Derived.Test.YtpcdfepndmconaaGreatDoorBallot
import Derived.Test.YtpcdfepndmconaaGreatDoorSg2
/- JOINED: Rr5 Bld Rj5 -/
/- The reference's reader: Text, Nums. -/
namespace Go.Proofs.YtpcdfepndmconaaGreatDoor
open Go.RowKit

theorem close_flag (e : UInt8) (r : Wire.Rd) (h : r.bad = false) : (r.rest.head? == some e) = !(Wire.close [e] r).bad := by
  rw [Wire.close_one]
  by_cases hc : r.rest.head? = some e
  · rw [if_pos hc, hc]; simp [h]
  · rw [if_neg hc]; simpa [Wire.failed] using hc

set_option maxHeartbeats 800000 in
theorem rr_text (b : Nat) (r : Wire.Rd) (w : World) (h : RrAt w b r) (ho : Wire.Ok r) (hs : Fits r) :
    Calls Tryz.prog 66 #[.pointer (some ⟨b, 0, none⟩)] w fun en w' =>
      en = .returned (.string ⟨(Wire.text r).1.toArray⟩) ∧ RrAt w' b (Wire.text r).2 ∧ Kept [b] w w' := by
  obtain ⟨n, r1, hq⟩ : ∃ n r1, Wire.number 58 0 r = (n, r1) := ⟨_, _, rfl⟩
  have hn0 : 0 ≤ n := by have := Wire.number_least 58 0 (by omega) r; rw [hq] at this; exact this
  obtain ⟨m, rfl⟩ := Int.eq_ofNat_of_zero_le hn0
  have ho1 : Wire.Ok r1 := by have := Wire.ok_number 58 0 r ho; rw [hq] at this; exact this
  have C : Hid (Calls Tryz.prog 145 #[.pointer (some ⟨b, 0, none⟩), .int .u8 58] w fun en w' => en = .returned (.int .i64 (m : Int)) ∧ RrAt w' b r1 ∧ Kept [b] w w') := rr_number b r 58 hq w h Wire.not58 ho hs
  have hf1 := fits_number hq hs
  unfold Fits at hf1
  obtain ⟨x, r2, hx⟩ : ∃ x r2, Wire.text r = (x, r2) := ⟨_, _, rfl⟩
  rw [hx]
  cases hb : r1.bad
  · by_cases hlt : m < r1.rest.length
    · obtain ⟨rc, hrc⟩ : ∃ rc, Wire.close [44] ⟨r1.rest.drop m, r1.bad⟩ = rc := ⟨_, rfl⟩
      have hl := Wire.text_live hq hlt hrc
      rw [hx] at hl
      have hfl := close_flag 44 ⟨r1.rest.drop m, r1.bad⟩ hb
      rw [hrc] at hfl
      have CL : Hid (∀ w, RrAt w b ⟨r1.rest.drop m, r1.bad⟩ → Calls Tryz.prog 146 #[.pointer (some ⟨b, 0, none⟩), .int .u8 44] w fun en w' => en = .returned (.bool (!rc.bad)) ∧ RrAt w' b rc ∧ Kept [b] w w') := fun w hw => by
        have := rr_close b ⟨r1.rest.drop m, r1.bad⟩ 44 w hw (by simp only [List.length_drop]; omega)
        rw [hrc, hfl] at this
        exact this
      have p1 := pre_eq r1.rest m
      have p2 := post_eq r1.rest m
      have HL := Lib.hid hl
      have b1 : (m : Int) ≤ (r1.rest.length : Int) := by omega
      have HB := Lib.hid hb
      clear hq hrc hfl hl hx
      go_enter Tryz.func66, Tryz.ntmps66
      go_wp2_with (go_at_call 145; refine C.out.mono ?_)
      rintro e w1 ⟨rfl, h1, k1⟩
      have c0 := h1.c0
      have c1 := h1.c1
      have f0 := h1.2.frozen 0
      rw [HB.out] at c1
      clear hb
      go_wp2_with (go_at_call 146; refine (CL.out _ (h1.set1 _)).mono ?_)
      rintro e w2 ⟨rfl, h2, k2⟩
      cases hrb : rc.bad
      · have HF : Hid (x = r1.rest.take m ∧ r2 = rc) := by
          have := HL.out
          rw [hrb] at this
          injection this with e1 e2
          exact ⟨e1, e2⟩
        clear hrb
        go_wp2_with fail
        go_ret
        exact ⟨by rw [HF.out.1]; rfl, by rw [HF.out.2]; exact h2, (k1.setCell (by simp) _).trans k2⟩
      · have HF : Hid (x = [] ∧ r2 = rc) := by
          have := HL.out
          rw [hrb] at this
          injection this with e1 e2
          exact ⟨e1, e2⟩
        clear hrb
        go_wp2_with fail
        go_ret
        exact ⟨by rw [HF.out.1]; rfl, by rw [HF.out.2]; exact h2, (k1.setCell (by simp) _).trans k2⟩
    · have HF : Hid (x = [] ∧ r2 = Wire.failed) := by
        have := Wire.text_dead hq ho1 (Or.inr (by omega))
        rw [hx] at this
        injection this with e1 e2
        exact ⟨e1, e2⟩
      have HB := Lib.hid hb
      have b1 : decide ((r1.rest.length : Int) ≤ (m : Int)) = true := by simp; omega
      have b2 : (r1.rest.length : Int) ≤ (m : Int) := by omega
      clear hq hx hlt hb
      go_enter Tryz.func66, Tryz.ntmps66
      go_wp2_with (go_at_call 145; refine C.out.mono ?_)
      rintro e w1 ⟨rfl, h1, k1⟩
      have c0 := h1.c0
      have c1 := h1.c1
      rw [HB.out] at c1
      go_wp2_with (go_at_call 147; refine (rr_fail b _ _ h1).mono ?_; rintro e w2 ⟨rfl, hr, hk⟩)
      go_ret
      exact ⟨by rw [HF.out.1]; rfl, by rw [HF.out.2]; exact hr, k1.trans hk⟩
  · have HF : Hid (x = [] ∧ r2 = Wire.failed) := by
      have := Wire.text_dead hq ho1 (Or.inl hb)
      rw [hx] at this
      injection this with e1 e2
      exact ⟨e1, e2⟩
    have HB := Lib.hid hb
    clear hq hx hb
    go_enter Tryz.func66, Tryz.ntmps66
    go_wp2_with (go_at_call 145; refine C.out.mono ?_)
    rintro e w1 ⟨rfl, h1, k1⟩
    have c1 := h1.c1
    rw [HB.out] at c1
    go_wp2_with (go_at_call 147; refine (rr_fail b _ _ h1).mono ?_; rintro e w2 ⟨rfl, hr, hk⟩)
    go_ret
    exact ⟨by rw [HF.out.1]; rfl, by rw [HF.out.2]; exact hr, k1.trans hk⟩

/-- the loop's relation -/
def RrRel (w0 : World) (b : Nat) (fin : List Int × Wire.Rd) (L n : Nat) (v i : Value) (wr : World) : Prop :=
  ∃ (m : Nat) (r : Wire.Rd) (acc : List Int), m ≤ n ∧ i = .int .i64 ((n - m : Nat) : Int) ∧ Wire.loop rdInt m r acc = fin ∧ wr.ownsRow w0.heap.size 3 1 v acc.length (ints acc) ∧
    RrAt wr b r ∧ Kept [b] w0 wr ∧ Fits r ∧ Pays L r acc.length ∧ Wire.Ok r

set_option maxRecDepth 100000 in
set_option maxHeartbeats 1600000 in
theorem rr_nums (b : Nat) (r : Wire.Rd) (w : World) (h : RrAt w b r) (ho : Wire.Ok r) (hs : Fits r) :
    Calls Tryz.prog 65 #[.pointer (some ⟨b, 0, none⟩)] w fun en w' =>
      ∃ v, en = .returned v ∧ w'.ownsRow w.heap.size 3 1 v (Wire.nums r).1.length (ints (Wire.nums r).1) ∧ RrAt w' b (Wire.nums r).2 ∧ Kept [b] w w' := by
  obtain ⟨n, r1, hq⟩ : ∃ n r1, Wire.number 91 0 r = (n, r1) := ⟨_, _, rfl⟩
  have hn0 : 0 ≤ n := by have := Wire.number_least 91 0 (by omega) r; rw [hq] at this; exact this
  have hn1 : n ≤ 9223372036854775807 := by have := Wire.number_bounds 91 0 r; rw [hq] at this; exact this.2
  obtain ⟨m, rfl⟩ := Int.eq_ofNat_of_zero_le hn0
  have hs1 := fits_number hq hs
  have ho1 : Wire.Ok r1 := by have := Wire.ok_number 91 0 r ho; rw [hq] at this; exact this
  have C : Hid (Calls Tryz.prog 145 #[.pointer (some ⟨b, 0, none⟩), .int .u8 91] w fun en w' => en = .returned (.int .i64 (m : Int)) ∧ RrAt w' b r1 ∧ Kept [b] w w') := rr_number b r 91 hq w h Wire.not91 ho hs
  obtain ⟨fin, hfin⟩ : ∃ fin, Wire.loop rdInt m r1 [] = fin := ⟨_, rfl⟩
  have H := Lib.hid hq
  have HF := Lib.hid hfin
  have hbl := h.2.lt
  have HO1 := Lib.hid ho1
  obtain ⟨i0, hi, hz0, hz1, hz2⟩ := info_parts infoInt
  clear hq hfin ho1 ho
  go_enter Tryz.func65, Tryz.ntmps65
  go_wp2_with (go_at_call 145; refine C.out.mono ?_)
  rintro e w1 ⟨rfl, h1, hk1⟩
  go_wp2_with fail
  go_loopw [4, 5] (fun v i wr => RrRel w b fin 100000000 m v i wr) (fun _ i _ => m - (intOf i).toNat)
  case atStart =>
    exact ⟨m, r1, [], Nat.le_refl _, by rw [Nat.sub_self]; rfl, HF.out, by simpa [ints] using World.ownsRow_nil _ _ _ _, h1, hk1, hs1, ⟨fun _ => by unfold Fits at hs1; simpa using hs1, by simp⟩, HO1.out⟩
  case round =>
    obtain ⟨n, r', acc, hn, rfl, hl, hown, hr, hk, hf, hp, hok⟩ := hrel
    have hsz := hk.size
    have c1 := hr.c1
    have HL := Lib.hid hl
    have HOK := Lib.hid hok
    clear hl hok
    obtain ⟨j, hj⟩ : ∃ j, m - n = j := ⟨_, rfl⟩
    rw [hj]
    have hjm : j ≤ m := by omega
    have HJ := Lib.hid hj
    clear hj
    by_cases hgo : 0 < n ∧ r'.bad = false
    · obtain ⟨hn0, hbad⟩ := hgo
      obtain ⟨n, rfl⟩ : ∃ k, n = k + 1 := ⟨n - 1, by omega⟩
      obtain ⟨y, r2, hy⟩ : ∃ y r2, rdInt r' = (y, r2) := ⟨_, _, rfl⟩
      have hr2 := rr_int b r' hy wr hr HOK.out hf
      have hpay := hp.step hbad (number_pays 59 (-9223372036854775808) r')
      have hy' : Wire.number 59 (-9223372036854775808) r' = (y, r2) := hy
      have hf2 := fits_number hy hf
      have HO2 : Hid (Wire.Ok r2) := by have := Wire.ok_number 59 (-9223372036854775808) r' HOK.out; rw [hy'] at this; exact this
      have hl2 : Wire.loop rdInt n r2 (acc ++ [y]) = fin := by
        have := HL.out
        simp only [Wire.loop, hbad, Bool.false_eq_true, if_false, hy] at this
        exact this
      rw [hy'] at hpay
      simp only at hpay
      have HR := Lib.hid hr2
      have HL2 := Lib.hid hl2
      rw [hbad] at c1
      have hjlt : (j : Int) < (m : Int) := by have := HJ.out; omega
      clear hy hy' hr2 hl2 hbad
      go_wp2_with (first
        | (go_at_call 67; refine HR.out.mono ?_; rintro e w2 ⟨rfl, h2, hk2⟩; have hown2 := own_kept hown hk2 (by simpa using hbl))
        | (at_builtin; refine wpList_append_own _ rfl _ _ 24 rfl w.heap.size 3 i0 (.int .i64 0) 1 8 Tryz.underlying24 hi hz0 hz1 hz2 rfl (by decide) _ _ _ rfl (hown2.alloc _) ⟨w2.heap.size, 0, none⟩ 1 1 [.int .i64 y] rfl rfl ?c1 ?c2 ?c3 ?c4 ?c5 ?_))
      case c1 => exact cell_one_new _ _ _
      case c2 => intro u hu; rw [List.mem_singleton] at hu; subst hu; rfl
      case c3 => have := hpay.2; unfold maxLen; omega
      case c4 => have := hpay.2; omega
      case c5 => have := hk2.size; simp; omega
      intro v' w3 hown3 hg3 _
      have hk3 : Kept [b] w w3 := ((hk.trans hk2).alloc _).grown hg3 (fun k hk => Or.inr (hown2.lt k hk).1)
      have hr3 : RrAt w3 b r2 := ⟨h2.1, (hg3.block b (Nat.lt_of_lt_of_le h2.2.lt (by simp)) (fun e => by have := (hown2.lt b e.symm).1; omega)).trans (h2.2.alloc _)⟩
      have e3 : ints acc ++ [.int .i64 y] = ints (acc ++ [y]) := by simp [ints]
      rw [e3] at hown3
      clear e3 hg3 hown2 hown h2 hk2 hk hr c1
      go_wp2
      go_roundw
      case rel => exact ⟨n, r2, acc ++ [y], by omega, by have := HJ.out; rw [show m - n = j + 1 by omega]; go_num, HL2.out, by simpa using hown3, hr3, hk3, hf2, by simpa using hpay, HO2.out⟩
      case measure => simp [intOf]; omega
    · have hfin : fin = (acc, r') := by
        rw [← HL.out]
        cases n with
        | zero => rfl
        | succ n =>
          have hb : r'.bad = true := by
            cases hb : r'.bad
            · exact absurd ⟨by omega, hb⟩ hgo
            · rfl
          simp [Wire.loop, hb]
      have hout : Wire.nums r = (if (Wire.close [93] r').bad then [] else acc, Wire.close [93] r') := by
        rw [nums_eq]
        unfold Wire.items
        rw [H.out]
        simp only [Int.toNat_natCast]
        rw [HF.out, hfin]
        simp only
        split <;> rfl
      have HO := Lib.hid hout
      obtain ⟨va, vc, rfl⟩ := own_form hown
      have hexit : (decide ((j : Int) < (m : Int)) = false) ∨ (decide ((j : Int) < (m : Int)) = true ∧ r'.bad = true) := by
        rcases Nat.eq_zero_or_pos n with h0 | h0
        · left
          have := HJ.out
          simp; omega
        · right
          refine ⟨by have := HJ.out; simp; omega, ?_⟩
          cases hb : r'.bad
          · exact absurd ⟨h0, hb⟩ hgo
          · rfl
      have HX := Lib.hid hexit
      clear hfin hout HL hgo hexit
      cases hb : r'.bad
      · have hfl := close_flag 93 r' hb
        have hcl := rr_close b r' 93 wr hr hf
        obtain ⟨rc, hrc⟩ : ∃ rc, Wire.close [93] r' = rc := ⟨_, rfl⟩
        rw [hrc] at hcl hfl HO
        rw [hfl] at hcl
        have HC : Hid (Calls Tryz.prog 146 #[.pointer (some ⟨b, 0, none⟩), .int .u8 93] wr fun en w' => en = .returned (.bool (!rc.bad)) ∧ RrAt w' b rc ∧ Kept [b] wr w') := hcl
        have d : m ≤ j := by
          rcases HX.out with h | ⟨_, h⟩
          · simpa using h
          · rw [hb] at h; cases h
        rw [hb] at c1
        clear hfl hcl hrc hb
        cases hbc : rc.bad
        all_goals
          go_wp2_with (go_at_call 146; refine HC.out.mono ?_; rintro e w2 ⟨rfl, h2, hk2⟩)
          go_wp2_with fail
          go_ret
          rw [HO.out]
          simp only [hbc, if_true, Bool.false_eq_true, if_false]
          refine ⟨_, rfl, ?_, h2, hk.trans hk2⟩
        · exact own_kept hown hk2 (by simpa using hbl)
        · exact by simpa [ints] using World.ownsRow_nil _ _ _ _
      · have hrf : r' = Wire.failed := by
          obtain ⟨s, bd⟩ := r'
          have h1 := HOK.out hb
          simp only at h1 hb
          subst h1 hb
          rfl
        have hcf : Wire.close [93] r' = Wire.failed := by rw [hrf]; rfl
        rw [hcf] at HO
        have HRF := Lib.hid hrf
        rw [hb] at c1
        clear hrf hcf hb HX
        by_cases hd : j < m
        all_goals
          go_wp2_with fail
          go_ret
          rw [HO.out]
          refine ⟨_, rfl, by simpa [ints, Wire.failed] using World.ownsRow_nil _ _ _ _, by rw [← HRF.out]; exact hr, hk⟩
end Go.Proofs.YtpcdfepndmconaaGreatDoor
/- Several slices built and appended in one statement, in whatever order it draws. -/
namespace Go.Proofs.YtpcdfepndmconaaGreatDoor
open Go.RowKit

theorem row_away {S : List Nat} {w w' : World} {size n c b off : Nat} {l : List Value} (h : Row w size (.slice (some ⟨b, off, none⟩) n c) n l) (k : Kept S w w') (hb : b ∉ S) : Row w' size (.slice (some ⟨b, off, none⟩) n c) n l := by
  obtain ⟨h1, h2, a, c', he, hc, hx⟩ := h
  refine ⟨h1, h2, a, c', he, hc, fun hn => ?_⟩
  obtain ⟨b', off', ha, hcell⟩ := hx hn
  refine ⟨b', off', ha, fun j u hj => ?_⟩
  have h3 := hcell j u hj
  have hbb : b' = b := by
    injection he with e1
    rw [ha] at e1
    injection e1 with e1
    injection e1 with e1
    exact e1.symm
  exact (k.cell (p := ⟨b', off' + j, none⟩) (World.block_lt_of_cell? w _ h3) (by rw [hbb]; exact hb)).trans h3

/-- where a chain of appends stands: what has been appended, and what has been built for it -/
structure Bld (B : Nat) (w0 w : World) (v0 v : Value) (n : Nat) (xs : List Int) (bs : List (Nat × List Int)) : Prop where
  own : w.ownsRow B 3 1 v n (ints xs)
  kept : Kept (obl v0) w0 w
  ge : ∀ k ∈ obl v, k ∈ obl v0 ∨ w0.heap.size ≤ k
  built : ∀ p ∈ bs, w0.heap.size ≤ p.1 ∧ p.1 < w.heap.size ∧ p.1 ∉ obl v ∧ Row w 1 (.slice (some ⟨p.1, 0, none⟩) p.2.length p.2.length) p.2.length (ints p.2)
  base : B ≤ w.heap.size

section
variable {B : Nat} {w0 w : World} {v0 v : Value} {n : Nat} {xs : List Int} {bs : List (Nat × List Int)}
theorem Bld.start (h : w.ownsRow B 3 1 v n (ints xs)) (hB : B ≤ w.heap.size) : Bld B w w v v n xs [] :=
  ⟨h, Kept.refl _ _, fun k hk => Or.inl hk, by simp, hB⟩
theorem Bld.drew (h : Bld B w0 w v0 v n xs bs) : Bld B w0 w.drew v0 v n xs bs :=
  ⟨own_keep h.own (Kept.refl [] w).drew (by simp), h.kept.drew, h.ge, fun p hp => by
    obtain ⟨a, b, c, d⟩ := h.built p hp
    exact ⟨a, b, c, d.drew⟩, h.base⟩
theorem Bld.build (h : Bld B w0 w v0 v n xs bs) (l : List Int) (hl : l.length ≤ 1000) (cs : Array Value) (hc : cs = (ints l).toArray) (T : TypeId) : Bld B w0 (w.alloc (.cells cs T)) v0 v n xs ((w.heap.size, l) :: bs) := by
  subst hc
  refine ⟨own_keep h.own ((Kept.refl [] w).alloc _) (by simp), h.kept.alloc _, h.ge, fun p hp => ?_, by rw [World.size_alloc]; have := h.base; omega⟩
  rw [List.mem_cons] at hp
  rcases hp with rfl | hp
  · refine ⟨h.kept.size, by rw [World.size_alloc]; omega, fun hk => ?_, row_of_blk (Blk.new w T (ints l).toArray) (by simp [ints]) (Nat.le_trans hl (by decide))⟩
    have := (own_ge h.own _ hk).2
    omega
  · obtain ⟨a, b, c, d⟩ := h.built p hp
    exact ⟨a, by rw [World.size_alloc]; omega, c, d.kept ((Kept.refl [] w).alloc _)⟩
theorem Bld.build1 (h : Bld B w0 w v0 v n xs bs) (x : Int) (T : TypeId) : Bld B w0 (w.alloc (.cells #[.int .i64 x] T)) v0 v n xs ((w.heap.size, [x]) :: bs) :=
  h.build [x] (by simp) _ rfl T

theorem step_append_bld {ops : Array Oper} {o : Oper} {a : Act} {K : Act → World → Prop} {Q : Exit → Act → World → Prop} {E : Prop} (h : Bld B w0 w v0 v n xs bs) (hgd : o.guard = none) (s x : Operand)
    (ho : o.op = .call { callee := .builtin .append, args := #[s, x], argTypes := #[24, 24] })
    (hs : a.eval s = v) (b : Nat) (l : List Int) (m : Nat) (hx : a.eval x = .slice (some ⟨b, 0, none⟩) m m) (hm : m = l.length) (hb : (b, l) ∈ bs) (hsm : n + m ≤ 1000000000)
    (hK : ∀ a' c' w', Bld B w0 w' v0 (.slice a' (n + m) c') (n + m) (xs ++ l) bs → K (a.put o.dst (.slice a' (n + m) c')) w') :
    if Region.wanted o (yielded ops a.tmps) = true then Oper.wp Tryz.prog o a w K Q else E := by
  subst hm
  obtain ⟨q1, q2, q3, q4⟩ := h.built _ hb
  refine step_append_ints hgd s x ho B v n xs hs h.own _ l.length l hx q4 hsm h.base fun a' c' w' hown hk hat => hK a' c' w' ⟨hown, h.kept.then_ hk (fun k hk hm => (h.ge k hm).elim id (fun h => absurd h (by omega))), fun k hk' => ?_, fun p hp => ?_, ?_⟩
  · rcases hat k hk' with h1 | h1
    · exact h.ge k h1
    · right; have := h.kept.size; omega
  · obtain ⟨p1, p2, p3, p4⟩ := h.built p hp
    refine ⟨p1, by have := hk.size; omega, fun hk' => ?_, row_away p4 hk p3⟩
    rcases hat _ hk' with h1 | h1
    · exact p3 h1
    · omega
  · have := hk.size; have := h.base; omega
end
end Go.Proofs.YtpcdfepndmconaaGreatDoor
namespace Go.Proofs.YtpcdfepndmconaaGreatDoor
open Go.RowKit

set_option maxHeartbeats 1000000 in
theorem rminutes_any (v : Value) (o : Opening) (w : World) (h : OpenV w v o) :
    Calls Tryz.prog 25 #[v] w fun e w' => e = .returned (.string ⟨(minutesE o).toArray⟩) ∧ Kept [] w w' := by
  obtain ⟨js, rfl, hrow⟩ := h.form
  obtain ⟨W, hW⟩ : ∃ W, w.alloc (.cells (cellsO o js) 37) = W := ⟨_, rfl⟩
  have hb : Blk W w.heap.size 37 (cellsO o js) := hW ▸ Blk.new _ _ _
  have hkW : Kept [] w W := hW ▸ (Kept.refl _ _).alloc _
  have k0 : ∀ w', Kept [] W w' → w'.cell? ⟨w.heap.size, 0, none⟩ = some (.int .i64 o.version) := Kept.cellOf (hb.cell 0)
  have k1 : ∀ w', Kept [] W w' → w'.cell? ⟨w.heap.size, 1, none⟩ = some (.int .i64 o.gate) := Kept.cellOf (hb.cell 1)
  have k2 : ∀ w', Kept [] W w' → w'.cell? ⟨w.heap.size, 2, none⟩ = some (.int .i64 o.no) := Kept.cellOf (hb.cell 2)
  have k3 : ∀ w', Kept [] W w' → w'.cell? ⟨w.heap.size, 3, none⟩ = some (.string ⟨o.reason.toArray⟩) := Kept.cellOf (hb.cell 3)
  have k4 : ∀ w', Kept [] W w' → w'.cell? ⟨w.heap.size, 4, none⟩ = some (js) := Kept.cellOf (hb.cell 4)
  have k5 : ∀ w', Kept [] W w' → w'.cell? ⟨w.heap.size, 5, none⟩ = some (.int .i64 o.holder) := Kept.cellOf (hb.cell 5)
  have hrowW := hrow.kept hkW
  have h3 : ∀ x ∈ [o.version, o.gate, o.no], Wire.I64 x := by
    intro x hx
    simp only [List.mem_cons, List.not_mem_nil, or_false] at hx
    rcases hx with rfl | rfl | rfl
    · exact h.h0
    · exact h.h1
    · exact h.h2
  have l0 := numsE_len [o.version, o.gate, o.no] h3 (by simp)
  have l1 := textE_len o.reason h.l3
  have l2 := numsE_len o.jurors h.h4 h.l4
  have l3 := intE_len o.holder h.h5
  have s1 : ¬ 9223372036854775807 < (Wire.numsE [o.version, o.gate, o.no]).length + (Wire.textE o.reason).length := by omega
  have s2 : ¬ 9223372036854775807 < (Wire.numsE [o.version, o.gate, o.no]).length + (Wire.textE o.reason).length + (Wire.numsE o.jurors).length := by omega
  have s3 : ¬ 9223372036854775807 < (Wire.numsE [o.version, o.gate, o.no]).length + ((Wire.textE o.reason).length + (Wire.numsE o.jurors).length) + (Wire.intE o.holder).length := by omega
  clear l0 l1 l2 l3
  have hcat := bcat
  have HW := Lib.hid hW
  go_enter Tryz.func25, Tryz.ntmps25
  go_wp2_with fail
  have hW' : w.alloc (.cells #[.int .i64 o.version, .int .i64 o.gate, .int .i64 o.no, .string ⟨o.reason.toArray⟩, js, .int .i64 o.holder] 37) = W := HW.out
  rw [hW']
  clear hW hW'
  go_region_held3 (fun w' => Kept [] W w') (first | assumption | exact (Kept.refl _ _).drew | exact Kept.alloc (by assumption) _)
    (first
      | (go_at_call_of 73 js; refine (kept_from (W := W) (by assumption) (rnums_any js o.jurors _ (by exact hrowW.kept (by assumption)) h.l4 h.h4)).mono ?_; rintro e w2 ⟨rfl, hk2⟩)
      | (go_at_call 73; refine (kept_from (W := W) (by assumption) (rnums_any _ [o.version, o.gate, o.no] _ (by exact (row3 _ _ _ _ _).drew) (by simp) (by exact h3))).mono ?_; rintro e w2 ⟨rfl, hk2⟩)
      | (go_at_call 74; refine (kept_from (W := W) (by assumption) (rtext_any o.reason _ h.l3)).mono ?_; rintro e w2 ⟨rfl, hk2⟩)
      | (go_at_call 76; refine (kept_from (W := W) (by assumption) (rint_any o.holder _ h.h5)).mono ?_; rintro e w3 ⟨rfl, hk3⟩))
  go_wp2
  go_ret
  exact ⟨by simp [minutesE], hkW.trans hk3⟩
end Go.Proofs.YtpcdfepndmconaaGreatDoor
