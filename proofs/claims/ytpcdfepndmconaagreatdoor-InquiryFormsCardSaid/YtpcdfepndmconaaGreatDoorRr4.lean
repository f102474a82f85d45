/- The reference's reader: ahead, number, Int, Done, OpenReader. -/
import Derived.Test.YtpcdfepndmconaaGreatDoorRr2
import Derived.Test.YtpcdfepndmconaaGreatDoorRd3
/- JOINED: Rr3 Rr4 -/
/- The reference's reader: BackInt. -/
namespace Go.Proofs.YtpcdfepndmconaaGreatDoor
open Go.RowKit

def BackP (s : List UInt8) (w : World) (e : Ending) (w' : World) : Prop := ∃ (x : Int) (b : Bool), e = .returned (.tuple #[.int .i64 x, .bool b]) ∧ Wire.BackR s x b ∧ Kept [] w w'
theorem i64_w64 (x : Int) : Wire.I64 (wrap64 x) := by unfold wrap64; constructor <;> omega
theorem i64_wrap (x : Int) : Wire.I64 (IntKind.i64.wrap x) := by rw [IntKind.wrap_i64]; constructor <;> omega
def BackRel (s : List UInt8) (vn vi : Value) : Prop := ∃ (k : Nat) (v : Int), k ≤ s.length ∧ Wire.off s ≤ k ∧ vi = .int .i64 k ∧ vn = .int .i64 v ∧ Wire.Bk ((s.drop (Wire.off s)).take (k - Wire.off s)) v

theorem back_take {s : List UInt8} {o k : Nat} (h : k < s.length) (ho : o ≤ k) : (s.drop o).take (k + 1 - o) = (s.drop o).take (k - o) ++ [s.getD k 0] := by
  have hl : k - o < (s.drop o).length := by rw [List.length_drop]; omega
  rw [show k + 1 - o = k - o + 1 by omega, List.take_succ_eq_append_getElem hl, List.getElem_drop]
  congr 1
  simp [List.getD, show o + (k - o) = k by omega, h]

set_option maxRecDepth 100000 in
set_option maxHeartbeats 1600000 in
theorem rback_any (s : List UInt8) (w : World) (hs : s.length ≤ 100000000) :
    Calls Tryz.prog 192 #[.string ⟨s.toArray⟩] w (BackP s w) := by
  have IK : Hid (∀ k, k < s.length → ∀ w, (Instr.index 9 (.string ⟨s.toArray⟩) (.int .i64 k)).run Tryz.prog w = .ok (.int .u8 ((s.getD k 0).toNat : Int)) w) := fun k hk w => index_str s k hk w
  have HS : Hid ((Wire.off s = 1 ∧ 0 < s.length ∧ (s.getD 0 0).toNat = 45) ∨ (Wire.off s = 0 ∧ (s.length = 0 ∨ (0 < s.length ∧ (s.getD 0 0).toNat ≠ 45)))) := by
    show _ ∨ _
    by_cases h : s.head? = some 45
    · left
      refine ⟨Wire.off_one h, ?_⟩
      rcases s with _ | ⟨c, t⟩
      · cases h
      · simp at h; subst h; simp
    · right
      refine ⟨Wire.off_zero h, ?_⟩
      rcases s with _ | ⟨c, t⟩
      · left; rfl
      · right
        refine ⟨by simp, fun h1 => h ?_⟩
        simp at h1 ⊢
        exact UInt8.toNat_inj.1 h1
  obtain ⟨n, hn⟩ : ∃ n, s.length = n := ⟨_, rfl⟩
  have hsz : (⟨s.toArray⟩ : ByteArray).size = n := hn
  have HN := Lib.hid hn
  rw [hn] at hs IK HS
  have hcat := bcat
  obtain ⟨o, ho⟩ : ∃ o, Wire.off s = o := ⟨_, rfl⟩
  have HO := Lib.hid ho
  rw [ho] at HS
  clear hn ho
  obtain ⟨c0, hc0⟩ : ∃ c, (s.getD 0 0).toNat = c := ⟨_, rfl⟩
  have I0 : 0 < n → ∀ w, (Instr.index 9 (.string ⟨s.toArray⟩) (.int .i64 0)).run Tryz.prog w = .ok (.int .u8 (c0 : Int)) w := fun h w => by
    have := IK.out 0 h w
    rw [hc0] at this
    exact this
  have H0 := Lib.hid I0
  rw [hc0] at HS
  clear hc0 I0
  have hcase : (o = 1 ∧ 0 < n ∧ ((c0 : Int) == 45) = true) ∨ (o = 0 ∧ n ≤ 0 ∧ True) ∨ (o = 0 ∧ 0 < n ∧ ((c0 : Int) == 45) = false) := by
    rcases HS.out with ⟨h1, h2, h3⟩ | ⟨h1, h2 | ⟨h2, h3⟩⟩
    · exact Or.inl ⟨h1, h2, by simp; omega⟩
    · exact Or.inr (Or.inl ⟨h1, by omega, trivial⟩)
    · exact Or.inr (Or.inr ⟨h1, h2, by simp; omega⟩)
  clear HS
  have IB : Hid (Wire.I64 0) := ⟨by omega, by omega⟩
  rcases hcase with ⟨ho, h0, hc⟩ | ⟨ho, h0, hc⟩ | ⟨ho, h0, hc⟩
  · have HOO := Lib.hid ho
    have hon : o ≤ n := by omega
    have i0 := H0.out h0
    clear ho
    go_enter Tryz.func192, Tryz.ntmps192
    go_wp2_with fail
    clear hc h0 i0
    go_loop [5, 6] (fun vn vi => ∃ (k : Nat) (v : Int), k ≤ n ∧ o ≤ k ∧ vi = .int .i64 k ∧ vn = .int .i64 v ∧ Wire.Bk ((s.drop o).take (k - o)) v) (fun _ vi => n - (intOf vi).toNat)
    case atStart => exact ⟨o, 0, hon, Nat.le_refl _, by rw [HOO.out]; rfl, rfl, by rw [Nat.sub_self, List.take_zero]; exact Wire.bk_nil⟩
    case round =>
      obtain ⟨k, v, hk, hok, rfl, rfl, hbk⟩ := hrel
      have HBK := Lib.hid hbk
      clear hbk
      by_cases hlt : k < n
      · have xk := IK.out k hlt
        have HM : Hid (s.getD k 0 ∈ s.drop (Wire.off s)) := by
          show _ ∈ _
          rw [HO.out, List.mem_iff_getElem?]
          refine ⟨k - o, ?_⟩
          rw [List.getElem?_drop, show o + (k - o) = k by omega]
          simp [List.getD, show k < s.length by rw [HN.out]; exact hlt]
        have HT := Lib.hid (back_take (s := s) (o := o) (k := k) (by rw [HN.out]; exact hlt) hok)
        have hc8 := (s.getD k 0).toNat_lt
        obtain ⟨c, hcc⟩ : ∃ c, s.getD k 0 = c := ⟨_, rfl⟩
        rw [hcc] at xk HM HT hc8
        clear hcc
        obtain ⟨cb, hcb⟩ : ∃ x, c.toNat = x := ⟨_, rfl⟩
        rw [hcb] at xk hc8
        have HCB := Lib.hid hcb
        clear hcb
        by_cases c1 : cb < 48
        · have HR : Hid (Wire.BackR s 0 false) := Wire.back_odd HM.out (by rw [HCB.out]; omega)
          go_wp2_with fail
          go_ret2
          exact ⟨_, _, rfl, HR.out, Kept.refl _ _⟩
        by_cases c2 : 57 < cb
        · have HR : Hid (Wire.BackR s 0 false) := Wire.back_odd HM.out (by rw [HCB.out]; omega)
          go_wp2_with fail
          go_ret2
          exact ⟨_, _, rfl, HR.out, Kept.refl _ _⟩
        by_cases c3 : 20 < k
        · have HR : Hid (Wire.BackR s 0 false) := Wire.back_long (by rw [HN.out]; omega)
          go_wp2_with fail
          go_ret2
          exact ⟨_, _, rfl, HR.out, Kept.refl _ _⟩
        · have g1 : 48 ≤ cb := by omega
          have g2 : cb ≤ 57 := by omega
          have g3 : k ≤ 20 := by omega
          clear c1 c2 c3
          have HNX : Hid (Wire.Bk ((s.drop o).take (k + 1 - o)) (wrap64 (wrap64 (10 * v) - ((cb : Int) - 48)))) := by
            show Wire.Bk _ _
            rw [HT.out]
            refine Wire.bk_snoc HBK.out (by rw [HCB.out]; omega) (i64_w64 _) (fun hv hle => ?_)
            rw [HCB.out] at hle ⊢
            unfold wrap64
            omega
          go_wp2_with fail
          go_round
          case rel => exact ⟨k + 1, _, by omega, by omega, by go_num, rfl, HNX.out⟩
          case measure => simp [intOf]; omega
      · obtain rfl : k = n := by omega
        have hbk := HBK.out
        rw [show (s.drop o).take (k - o) = s.drop o from List.take_of_length_le (by rw [List.length_drop, HN.out]; omega)] at hbk
        rw [← HO.out] at hbk
        obtain ⟨t, ht⟩ : ∃ t, (Lib.itoa v == s) = t := ⟨_, rfl⟩
        have HR : Hid (Wire.BackR s v t) := Wire.back_end1 hbk (by rw [HO.out]; exact HOO.out) ht.symm
        have q : (Wire.intE v == s ++ [59]) = t := by rw [← ht, Bool.eq_iff_iff]; simp [Wire.intE]
        have hi : Wire.I64 v := hbk.1
        have HI := Lib.hid (fun w => rint_any v w hi)
        have s1 : ¬ 9223372036854775807 < k + 1 := by omega
        have HBB := Lib.hid hbk
        clear hbk ht hi
        go_wp2_with (go_at_call 76; refine (HI.out _).mono ?_; rintro e w1 ⟨rfl, k1⟩)
        go_ret2
        exact ⟨_, _, rfl, HR.out, k1⟩
  · have HOO := Lib.hid ho
    have hon : o ≤ n := by omega
    have d0 : decide ((0 : Int) < (n : Int)) = false := by simp; omega
    clear ho
    go_enter Tryz.func192, Tryz.ntmps192
    go_wp2_with fail
    clear hc d0
    go_loop [5, 6] (fun vn vi => ∃ (k : Nat) (v : Int), k ≤ n ∧ o ≤ k ∧ vi = .int .i64 k ∧ vn = .int .i64 v ∧ Wire.Bk ((s.drop o).take (k - o)) v) (fun _ vi => n - (intOf vi).toNat)
    case atStart => exact ⟨o, 0, hon, Nat.le_refl _, by rw [HOO.out]; rfl, rfl, by rw [Nat.sub_self, List.take_zero]; exact Wire.bk_nil⟩
    case round =>
      obtain ⟨k, v, hk, hok, rfl, rfl, hbk⟩ := hrel
      have HBK := Lib.hid hbk
      clear hbk
      obtain rfl : k = n := by omega
      have hbk := HBK.out
      rw [show (s.drop o).take (k - o) = s.drop o from List.take_of_length_le (by rw [List.length_drop, HN.out]; omega)] at hbk
      rw [← HO.out] at hbk
      obtain ⟨u, hu⟩ : ∃ u, wrap64 (-v) = u := ⟨_, rfl⟩
      obtain ⟨t, ht⟩ : ∃ t, (Lib.itoa u == s) = t := ⟨_, rfl⟩
      have hi : Wire.I64 u := by rw [← hu]; exact i64_w64 _
      have HR : Hid (Wire.BackR s u t) := Wire.back_end0 hbk (by rw [HO.out]; exact HOO.out) hi (fun hv => by rw [← hu]; unfold wrap64; have := hbk.1.1; have := hbk.1.2; omega) ht.symm
      have q : (Wire.intE u == s ++ [59]) = t := by rw [← ht, Bool.eq_iff_iff]; simp [Wire.intE]
      have HI := Lib.hid (fun w => rint_any u w hi)
      have s1 : ¬ 9223372036854775807 < k + 1 := by omega
      have HBB := Lib.hid hbk
      clear hbk ht hi
      go_wp2_with (go_at_call 76; refine (HI.out _).mono ?_; rintro e w1 ⟨rfl, k1⟩)
      go_ret2
      exact ⟨_, _, rfl, HR.out, k1⟩
  · have HOO := Lib.hid ho
    have hon : o ≤ n := by omega
    have i0 := H0.out h0
    clear ho
    go_enter Tryz.func192, Tryz.ntmps192
    go_wp2_with fail
    clear hc h0 i0
    go_loop [5, 6] (fun vn vi => ∃ (k : Nat) (v : Int), k ≤ n ∧ o ≤ k ∧ vi = .int .i64 k ∧ vn = .int .i64 v ∧ Wire.Bk ((s.drop o).take (k - o)) v) (fun _ vi => n - (intOf vi).toNat)
    case atStart => exact ⟨o, 0, hon, Nat.le_refl _, by rw [HOO.out]; rfl, rfl, by rw [Nat.sub_self, List.take_zero]; exact Wire.bk_nil⟩
    case round =>
      obtain ⟨k, v, hk, hok, rfl, rfl, hbk⟩ := hrel
      have HBK := Lib.hid hbk
      clear hbk
      by_cases hlt : k < n
      · have xk := IK.out k hlt
        have HM : Hid (s.getD k 0 ∈ s.drop (Wire.off s)) := by
          show _ ∈ _
          rw [HO.out, List.mem_iff_getElem?]
          refine ⟨k - o, ?_⟩
          rw [List.getElem?_drop, show o + (k - o) = k by omega]
          simp [List.getD, show k < s.length by rw [HN.out]; exact hlt]
        have HT := Lib.hid (back_take (s := s) (o := o) (k := k) (by rw [HN.out]; exact hlt) hok)
        have hc8 := (s.getD k 0).toNat_lt
        obtain ⟨c, hcc⟩ : ∃ c, s.getD k 0 = c := ⟨_, rfl⟩
        rw [hcc] at xk HM HT hc8
        clear hcc
        obtain ⟨cb, hcb⟩ : ∃ x, c.toNat = x := ⟨_, rfl⟩
        rw [hcb] at xk hc8
        have HCB := Lib.hid hcb
        clear hcb
        by_cases c1 : cb < 48
        · have HR : Hid (Wire.BackR s 0 false) := Wire.back_odd HM.out (by rw [HCB.out]; omega)
          go_wp2_with fail
          go_ret2
          exact ⟨_, _, rfl, HR.out, Kept.refl _ _⟩
        by_cases c2 : 57 < cb
        · have HR : Hid (Wire.BackR s 0 false) := Wire.back_odd HM.out (by rw [HCB.out]; omega)
          go_wp2_with fail
          go_ret2
          exact ⟨_, _, rfl, HR.out, Kept.refl _ _⟩
        by_cases c3 : 20 < k
        · have HR : Hid (Wire.BackR s 0 false) := Wire.back_long (by rw [HN.out]; omega)
          go_wp2_with fail
          go_ret2
          exact ⟨_, _, rfl, HR.out, Kept.refl _ _⟩
        · have g1 : 48 ≤ cb := by omega
          have g2 : cb ≤ 57 := by omega
          have g3 : k ≤ 20 := by omega
          clear c1 c2 c3
          have HNX : Hid (Wire.Bk ((s.drop o).take (k + 1 - o)) (wrap64 (wrap64 (10 * v) - ((cb : Int) - 48)))) := by
            show Wire.Bk _ _
            rw [HT.out]
            refine Wire.bk_snoc HBK.out (by rw [HCB.out]; omega) (i64_w64 _) (fun hv hle => ?_)
            rw [HCB.out] at hle ⊢
            unfold wrap64
            omega
          go_wp2_with fail
          go_round
          case rel => exact ⟨k + 1, _, by omega, by omega, by go_num, rfl, HNX.out⟩
          case measure => simp [intOf]; omega
      · obtain rfl : k = n := by omega
        have hbk := HBK.out
        rw [show (s.drop o).take (k - o) = s.drop o from List.take_of_length_le (by rw [List.length_drop, HN.out]; omega)] at hbk
        rw [← HO.out] at hbk
        obtain ⟨u, hu⟩ : ∃ u, wrap64 (-v) = u := ⟨_, rfl⟩
        obtain ⟨t, ht⟩ : ∃ t, (Lib.itoa u == s) = t := ⟨_, rfl⟩
        have hi : Wire.I64 u := by rw [← hu]; exact i64_w64 _
        have HR : Hid (Wire.BackR s u t) := Wire.back_end0 hbk (by rw [HO.out]; exact HOO.out) hi (fun hv => by rw [← hu]; unfold wrap64; have := hbk.1.1; have := hbk.1.2; omega) ht.symm
        have q : (Wire.intE u == s ++ [59]) = t := by rw [← ht, Bool.eq_iff_iff]; simp [Wire.intE]
        have HI := Lib.hid (fun w => rint_any u w hi)
        have s1 : ¬ 9223372036854775807 < k + 1 := by omega
        have HBB := Lib.hid hbk
        clear hbk ht hi
        go_wp2_with (go_at_call 76; refine (HI.out _).mono ?_; rintro e w1 ⟨rfl, k1⟩)
        go_ret2
        exact ⟨_, _, rfl, HR.out, k1⟩
end Go.Proofs.YtpcdfepndmconaaGreatDoor
namespace Go.Proofs.YtpcdfepndmconaaGreatDoor
open Go.RowKit

theorem RrAt.kept {S : List Nat} {w w' : World} {b : Nat} {r : Wire.Rd} (h : RrAt w b r) (k : Kept S w w') (hb : b ∉ S) : RrAt w' b r := ⟨h.1, h.2.kept k hb⟩
/-- the place where the loop of 'ahead' stands -/
def AheadRel (l : List UInt8) (e : UInt8) (n : Nat) (v : Value) : Prop := ∃ k : Nat, k ≤ n ∧ k ≤ 21 ∧ v = .int .i64 k ∧ ∀ c ∈ l.take k, c ≠ e
theorem ahead_more {l : List UInt8} {e : UInt8} {k : Nat} (h : ∀ c ∈ l.take k, c ≠ e) (hk : k < l.length) (hc : l.getD k 0 ≠ e) : ∀ c ∈ l.take (k + 1), c ≠ e := by
  intro c hm
  rw [List.take_succ_eq_append_getElem hk, List.mem_append] at hm
  rcases hm with hm | hm
  · exact h c hm
  · rw [List.mem_singleton] at hm
    subst hm
    simpa [List.getD, hk] using hc

set_option maxRecDepth 100000 in
set_option maxHeartbeats 1600000 in
theorem rr_ahead (b : Nat) (r : Wire.Rd) (e : UInt8) (w : World) (h : RrAt w b r) (hne : ¬ Wire.NumByte e) (ho : Wire.Ok r) (hf : r.rest.length ≤ 100000000) :
    Calls Tryz.prog 148 #[.pointer (some ⟨b, 0, none⟩), .int .u8 (e.toNat : Int)] w fun en w' =>
      en = .returned (.int .i64 (Wire.number e (-9223372036854775808) r).1) ∧ RrAt w' b (Wire.number e (-9223372036854775808) r).2 ∧ Kept [b] w w' := by
  obtain ⟨x, r', hq⟩ : ∃ x r', Wire.number e (-9223372036854775808) r = (x, r') := ⟨_, _, rfl⟩
  rw [hq]
  have HQ := Lib.hid hq
  have HO := Lib.hid ho
  have HNE := Lib.hid hne
  have IK : Hid (∀ k, k < r.rest.length → ∀ w, (Instr.index 9 (.string ⟨r.rest.toArray⟩) (.int .i64 k)).run Tryz.prog w = .ok (.int .u8 ((r.rest.getD k 0).toNat : Int)) w) := fun k hk w => index_str r.rest k hk w
  obtain ⟨n, hn⟩ : ∃ n, r.rest.length = n := ⟨_, rfl⟩
  have hsz : (⟨r.rest.toArray⟩ : ByteArray).size = n := hn
  have HN := Lib.hid hn
  rw [hn] at IK hf
  have c0 := h.c0
  have f0 := h.2.frozen 0
  clear hn hq ho hne
  obtain ⟨eb, heb⟩ : ∃ x, e.toNat = x := ⟨_, rfl⟩
  have HEB := Lib.hid heb
  have heb8 : eb < 256 := by rw [← heb]; exact e.toNat_lt
  rw [heb]
  clear heb
  go_enter Tryz.func148, Tryz.ntmps148
  go_wp2_with fail
  go_loop [5] (fun v => AheadRel r.rest e n v) (fun v => n - (intOf v).toNat)
  case atStart => exact ⟨0, Nat.zero_le _, by omega, rfl, by simp⟩
  case round =>
    obtain ⟨k, hk, hk21, rfl, hm⟩ := hrel
    have HM := Lib.hid hm
    clear hm
    by_cases h1 : k < n
    · have xk := IK.out k h1
      have HG : Hid (r.rest[k]? = some (r.rest.getD k 0)) := by
        show _ = _
        simp [List.getD, show k < r.rest.length by rw [HN.out]; exact h1]
      have HMORE : Hid (r.rest.getD k 0 ≠ e → ∀ c ∈ r.rest.take (k + 1), c ≠ e) := fun hc => ahead_more HM.out (by rw [HN.out]; exact h1) hc
      obtain ⟨c, hcc⟩ : ∃ c, r.rest.getD k 0 = c := ⟨_, rfl⟩
      rw [hcc] at xk HG HMORE
      clear hcc
      by_cases hce : c = e
      · have hcb : c.toNat = eb := by rw [hce]; exact HEB.out
        rw [hcb] at xk
        rw [hce] at HG
        clear hce hcb HMORE
        have q : ((eb : Int) != (eb : Int)) = false := by simp
        have hl21 : (r.rest.take k).length ≤ 100000000 := by rw [List.length_take]; omega
        have BK := Lib.hid (rback_any (r.rest.take k) w hl21)
        have hx : (⟨r.rest.toArray⟩ : ByteArray).extract 0 k = ⟨(r.rest.take k).toArray⟩ := pre_eq r.rest k
        have hy : (⟨r.rest.toArray⟩ : ByteArray).extract (k + 1) n = ⟨(r.rest.drop (k + 1)).toArray⟩ := by
          have := post_eq r.rest (k + 1)
          rwa [HN.out] at this
        have b1 : (k : Int) + 1 ≤ (n : Int) := by omega
        clear hl21
        have BP : Hid (∀ y, Wire.BackR (r.rest.take k) y false → x = 0 ∧ r' = Wire.failed) := fun y hb => by
          have := HQ.out
          rw [Wire.ahead_no HO.out HNE.out HM.out HG.out hb] at this
          injection this with e1 e2
          exact ⟨e1.symm, e2.symm⟩
        have BT : Hid (∀ y, Wire.BackR (r.rest.take k) y true → x = y ∧ r' = ⟨r.rest.drop (k + 1), r.bad⟩) := fun y hb => by
          have := HQ.out
          rw [Wire.ahead_yes HNE.out HG.out hb] at this
          injection this with e1 e2
          exact ⟨e1.symm, e2.symm⟩
        go_wp2_with (go_at_call 192; refine BK.out.mono ?_)
        all_goals (
          rintro en w1 ⟨y, t, rfl, hb, k1⟩
          have hr1 := h.kept k1 (by simp)
          have d0 := hr1.c0
          have g0 := hr1.2.frozen 0
          cases t
          · have HF := Lib.hid (BP.out y hb)
            clear hb
            go_wp2_with (go_at_call 147; refine (rr_fail b r _ hr1).mono ?_; rintro e w2 ⟨rfl, hr, hk⟩)
            go_ret
            refine ⟨by rw [HF.out.1]; rfl, by rw [HF.out.2]; exact hr, (k1.mono (by simp)).trans hk⟩
          · have HF := Lib.hid (BT.out y hb)
            clear hb
            go_wp2_with fail
            go_ret
            exact ⟨by rw [HF.out.1]; rfl, by rw [HF.out.2]; exact hr1.set1 _, (k1.mono (by simp)).setCell (by simp) _⟩)
      · have HMO := Lib.hid (HMORE.out hce)
        have q : ((c.toNat : Int) != (eb : Int)) = true := by
          rw [bne_iff_ne]
          intro h
          exact hce (UInt8.toNat_inj.1 (by rw [HEB.out]; omega))
        have q3 : (c.toNat == eb) = false := by
          rw [beq_eq_false_iff_ne]
          intro h
          exact hce (UInt8.toNat_inj.1 (by rw [HEB.out]; exact h))
        have q4 : ((c.toNat : Int) == (eb : Int)) = false := by
          rw [beq_eq_false_iff_ne]
          intro h
          exact hce (UInt8.toNat_inj.1 (by rw [HEB.out]; omega))
        clear hce
        by_cases h21 : k < 21
        · go_wp2_with fail
          go_round
          case rel => exact ⟨k + 1, by omega, by omega, by go_num, HMO.out⟩
          case measure => simp [intOf]; omega
        · have HF : Hid (x = 0 ∧ r' = Wire.failed) := by
            have := HQ.out
            rw [Wire.ahead_none HO.out HM.out (Or.inr (by omega))] at this
            injection this with e1 e2
            exact ⟨e1.symm, e2.symm⟩
          go_wp2_with (go_at_call 147; refine (rr_fail b r _ h).mono ?_; rintro e w2 ⟨rfl, hr, hk⟩)
          go_ret
          exact ⟨by rw [HF.out.1]; rfl, by rw [HF.out.2]; exact hr, hk⟩
    · obtain rfl : k = n := by omega
      have HF : Hid (x = 0 ∧ r' = Wire.failed) := by
        have := HQ.out
        rw [Wire.ahead_none HO.out HM.out (Or.inl (by rw [HN.out]; omega))] at this
        injection this with e1 e2
        exact ⟨e1.symm, e2.symm⟩
      go_wp2_with (go_at_call 147; refine (rr_fail b r _ h).mono ?_; rintro e w2 ⟨rfl, hr, hk⟩)
      go_ret
      exact ⟨by rw [HF.out.1]; rfl, by rw [HF.out.2]; exact hr, hk⟩

theorem rr_ahead' {n : Int} {r1 : Wire.Rd} (b : Nat) (r : Wire.Rd) (e : UInt8) (hq : Wire.number e (-9223372036854775808) r = (n, r1)) (w : World) (h : RrAt w b r) (hne : ¬ Wire.NumByte e) (ho : Wire.Ok r) (hs : Fits r) :
    Calls Tryz.prog 148 #[.pointer (some ⟨b, 0, none⟩), .int .u8 (e.toNat : Int)] w fun en w' =>
      en = .returned (.int .i64 n) ∧ RrAt w' b r1 ∧ Kept [b] w w' := by
  have := rr_ahead b r e w h hne ho hs
  rw [hq] at this
  exact this

set_option maxHeartbeats 400000 in
theorem rr_number {n : Int} {r1 : Wire.Rd} (b : Nat) (r : Wire.Rd) (e : UInt8) (hq : Wire.number e 0 r = (n, r1)) (w : World) (h : RrAt w b r) (hne : ¬ Wire.NumByte e) (ho : Wire.Ok r) (hs : Fits r) :
    Calls Tryz.prog 145 #[.pointer (some ⟨b, 0, none⟩), .int .u8 (e.toNat : Int)] w fun en w' =>
      en = .returned (.int .i64 n) ∧ RrAt w' b r1 ∧ Kept [b] w w' := by
  obtain ⟨x, r', hx⟩ : ∃ x r', Wire.number e (-9223372036854775808) r = (x, r') := ⟨_, _, rfl⟩
  have hz := Wire.number_zero e r hx
  rw [hq] at hz
  have C := Lib.hid (rr_ahead' b r e hx w h hne ho hs)
  obtain ⟨eb, heb⟩ : ∃ x, e.toNat = x := ⟨_, rfl⟩
  rw [heb] at C ⊢
  clear hx hq heb hne
  by_cases hn : x < 0
  · rw [if_pos hn] at hz
    injection hz with e1 e2
    have H1 := Lib.hid e1
    have H2 := Lib.hid e2
    clear e1 e2
    go_enter Tryz.func145, Tryz.ntmps145
    go_wp2_with (go_at_call 148; refine C.out.mono ?_)
    rintro en w1 ⟨rfl, h1, k1⟩
    go_wp2_with (go_at_call 147; refine (rr_fail b _ _ h1).mono ?_; rintro e w2 ⟨rfl, hr, hk⟩)
    go_ret
    exact ⟨by rw [H1.out]; rfl, by rw [H2.out]; exact hr, k1.trans hk⟩
  · rw [if_neg hn] at hz
    injection hz with e1 e2
    have H1 := Lib.hid e1
    have H2 := Lib.hid e2
    have hn0 : decide (x < 0) = false := by simpa using hn
    clear e1 e2 hn
    go_enter Tryz.func145, Tryz.ntmps145
    go_wp2_with (go_at_call 148; refine C.out.mono ?_)
    rintro en w1 ⟨rfl, h1, k1⟩
    go_wp2_with fail
    go_ret
    exact ⟨by rw [H1.out]; rfl, by rw [H2.out]; exact h1, k1⟩

set_option maxHeartbeats 400000 in
theorem rr_int {n : Int} {r1 : Wire.Rd} (b : Nat) (r : Wire.Rd) (hq : Wire.number 59 (-9223372036854775808) r = (n, r1)) (w : World) (h : RrAt w b r) (ho : Wire.Ok r) (hs : Fits r) :
    Calls Tryz.prog 67 #[.pointer (some ⟨b, 0, none⟩)] w fun en w' => en = .returned (.int .i64 n) ∧ RrAt w' b r1 ∧ Kept [b] w w' := by
  have C : Hid (Calls Tryz.prog 148 #[.pointer (some ⟨b, 0, none⟩), .int .u8 59] w fun en w' => en = .returned (.int .i64 n) ∧ RrAt w' b r1 ∧ Kept [b] w w') := rr_ahead' b r 59 hq w h Wire.not59 ho hs
  clear hq
  go_enter Tryz.func67, Tryz.ntmps67
  go_wp2_with (go_at_call 148; refine C.out.mono ?_)
  rintro e w1 ⟨rfl, h1, hk1⟩
  go_wp2
  go_ret
  exact ⟨rfl, h1, hk1⟩

set_option maxHeartbeats 400000 in
theorem rr_done (b : Nat) (r : Wire.Rd) (w : World) (h : RrAt w b r) :
    Calls Tryz.prog 68 #[.pointer (some ⟨b, 0, none⟩)] w fun en w' =>
      en = .returned (.bool (!r.bad && r.rest.isEmpty)) ∧ Kept [] w w' := by
  have c0 := h.c0
  have c1 := h.c1
  cases hb : r.bad
  · rw [hb] at c1
    go_enter Tryz.func68, Tryz.ntmps68
    go_wp2
    go_ret
    exact ⟨by simp, Kept.refl _ _⟩
  · rw [hb] at c1
    go_enter Tryz.func68, Tryz.ntmps68
    go_wp2
    go_ret
    exact ⟨by simp, Kept.refl _ _⟩

set_option maxHeartbeats 400000 in
theorem rr_open (s : List UInt8) (w : World) (hE : Env w) :
    Calls Tryz.prog 64 #[.string ⟨s.toArray⟩] w fun en w' =>
      en = .returned (.pointer (some ⟨w.heap.size, 0, none⟩)) ∧ RrAt w' w.heap.size ⟨s, false⟩ ∧ Kept [] w w' := by
  go_enter Tryz.func64, Tryz.ntmps64
  go_wp2
  go_ret
  exact ⟨rfl, ⟨hE.size, Blk.new _ _ _⟩, (Kept.refl _ _).alloc _⟩
end Go.Proofs.YtpcdfepndmconaaGreatDoor
