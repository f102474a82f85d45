/- The documents' bounds on tasks: FewTask. -/
import Derived.Test.YtcidfldeiklcjaaGreatDoorFmp
import Derived.StillTailTactics
import Derived.Test.YtcidfldeiklcjaaGreatDoorApp
import Derived.Test.YtcidfldeiklcjaaGreatDoorRdS
/- JOINED: Fmw PfE EncC EncM FewS SameR SameS SameT FewT -/
/- Numbers of entries: within, listed, learnt, marked. -/
namespace Go.Proofs.YtcidfldeiklcjaaGreatDoor
open Go.RowKit Tm

set_option maxHeartbeats 400000 in
theorem within_any (n lo hi : Int) (w : World) : Calls Tryz.prog 37 #[.int .i64 n, .int .i64 lo, .int .i64 hi] w fun e w' => e = .returned (.bool (inB n lo hi)) ∧ w = w' := by
  unfold inB
  by_cases h1 : lo ≤ n
  · have d1 : decide (lo ≤ n) = true := decide_eq_true h1
    rw [d1, Bool.true_and]
    go_enter Tryz.func37, Tryz.ntmps37
    go_wp2_with fail
    go_ret
    exact ⟨rfl, rfl⟩
  · have d1 : decide (lo ≤ n) = false := decide_eq_false h1
    rw [d1, Bool.false_and]
    go_enter Tryz.func37, Tryz.ntmps37
    go_wp2_with fail
    go_ret
    exact ⟨rfl, rfl⟩

theorem contains_row (b off n c : Nat) (l : List Int) (k : Nat) (x : Int) (w : World) (hk : k ≤ l.length) (hl : l.length ≤ 1000000000) (hc : ∀ j u, (ints l)[j]? = some u → w.cell? ⟨b, off + j, none⟩ = some u) (hn : n = k) :
    Calls Tryz.prog 38 #[.slice (some ⟨b, off, none⟩) n c, .int .i64 x] w fun e w' => e = .returned (.bool (decide (x ∈ l.take k))) ∧ w = w' := by
  subst hn
  refine (Tryz.slices_Contains_int b off n c l x w hk (by omega) (fun j hj => ?_)).mono fun e w' ⟨h1, h2⟩ => ⟨by rw [h1]; simp, h2.symm⟩
  rw [hc j _ (ints_get hj)]
  rw [List.getD_eq_getElem?_getD, List.getElem?_eq_getElem hj]
  rfl

set_option maxRecDepth 100000 in
set_option maxHeartbeats 1600000 in
theorem listed_learnt (v : Value) (l : List Int) (most : Int) (p : Int → Bool) (b0 : Nat) (w : World) (hv : Row w 1 v l.length (ints l)) (hl : l.length ≤ 100000000)
    (hp : ∀ w' x, Kept [] w w' → x ∈ l → Calls Tryz.prog 168 #[.int .i64 x, .pointer (some ⟨b0, 0, none⟩)] w' fun e w2 => e = .returned (.bool (p x)) ∧ Kept [] w' w2) :
    Calls Tryz.prog 167 #[v, .int .i64 most, .func (.func 168) #[] #[.pointer (some ⟨b0, 0, none⟩)]] w fun e w' => e = .returned (.bool (listedB l most p)) ∧ Kept [] w w' := by
  obtain ⟨aa, cc, rfl, _, hcc⟩ := hv.form
  have HV := Lib.hid hv
  have HP := Lib.hid hp
  obtain ⟨R, hR⟩ : ∃ R, listedB l most p = R := ⟨_, rfl⟩
  rw [hR]
  have HRR := Lib.hid hR
  clear hv hp hR
  go_enter Tryz.func167, Tryz.ntmps167
  go_wp2_with fail
  go_loopw [7, 8, 11] (fun _ _ i wr => ∃ k : Nat, k ≤ l.length ∧ i = .int .i64 k ∧ (∀ j (hj : j < l.length), j < k → p l[j] = true) ∧ (l.take k).Nodup ∧ Kept [] w wr) (fun _ _ i _ => l.length - (intOf i).toNat)
  case atStart => exact ⟨0, Nat.zero_le _, rfl, fun j _ hj => by omega, by simp, Kept.refl _ _⟩
  case round =>
    obtain ⟨k, hk, rfl, hm, hnd, hkr⟩ := hrel
    have HM := Lib.hid hm
    have HN := Lib.hid hnd
    have HK := Lib.hid hkr
    clear hm hnd hkr
    by_cases hlt : k < l.length
    · obtain ⟨ba, oa, rfl, hca⟩ := (HV.out.kept HK.out).at_ (by omega)
      have xa := hca k _ (ints_get hlt)
      have HC := Lib.hid (HP.out wr l[k] HK.out (List.getElem_mem hlt))
      obtain ⟨t, ht⟩ : ∃ t, p l[k] = t := ⟨_, rfl⟩
      rw [ht] at HC
      have HT := Lib.hid ht
      have HCA := Lib.hid hca
      clear hca ht
      cases t
      · have hF := HRR.out
        rw [listedB_no_p hlt HT.out] at hF
        subst hF
        go_wp2_with (go_at_call 168; refine HC.out.mono ?_)
        rintro e w2 ⟨rfl, hk2⟩
        go_wp2_with fail
        go_ret
        exact ⟨rfl, HK.out.trans hk2⟩
      · have hk0 : (0 : Int) ≤ (k : Int) := by omega
        have hkl : (k : Int) ≤ (cc : Int) := by omega
        have CT : Hid (∀ w2 c2, Kept [] wr w2 → Calls Tryz.prog 38 #[.slice (some ⟨ba, oa, none⟩) k c2, .int .i64 l[k]] w2 fun e w3 => e = .returned (.bool (decide (l[k] ∈ l.take k))) ∧ w2 = w3) := fun w2 c2 k2 =>
          contains_row ba oa k c2 l k l[k] w2 (by omega) (by omega) (fun j u hu => Kept.cellOf (HCA.out j u hu) _ k2) rfl
        go_wp2_with (go_at_call 168; refine HC.out.mono ?_)
        rintro e w2 ⟨rfl, hk2⟩
        by_cases hd : l[k] ∈ l.take k
        · have hF := HRR.out
          rw [listedB_no_d hlt hd] at hF
          subst hF
          rw [decide_eq_true hd] at CT
          clear hd
          go_wp2_with (go_at_call 38; refine (CT.out w2 _ hk2).mono ?_)
          rintro e w3 ⟨rfl, rfl⟩
          go_wp2_with fail
          go_ret
          exact ⟨rfl, HK.out.trans hk2⟩
        · have HD := Lib.hid hd
          rw [decide_eq_false hd] at CT
          clear hd
          go_wp2_with (go_at_call 38; refine (CT.out w2 _ hk2).mono ?_)
          rintro e w3 ⟨rfl, rfl⟩
          have HK2 := Lib.hid (HK.out.trans hk2)
          clear hk2
          go_wp2_with fail
          go_roundw
          case rel => exact ⟨k + 1, by omega, by go_num, fun j hj hjk => by
            rcases Nat.lt_or_ge j k with h | h
            · exact HM.out j hj h
            · obtain rfl : j = k := by omega
              exact HT.out, nodup_grow hlt HN.out HD.out, HK2.out⟩
          case measure => simp [intOf]; omega
    · have hk' : Hid (k = l.length) := Lib.hid (by omega)
      have hn := HN.out
      rw [hk'.out, List.take_length] at hn
      have hF := HRR.out
      rw [listedB_end (fun j hj => HM.out j hj (by have := hk'.out; omega)) hn] at hF
      have WI := Lib.hid (within_any (l.length : Int) 1 most wr)
      rw [hF] at WI
      clear hn hF
      go_wp2_with (go_at_call 37; refine WI.out.mono ?_)
      rintro e w2 ⟨rfl, rfl⟩
      go_wp2_with fail
      go_ret
      exact ⟨rfl, HK.out⟩

set_option maxRecDepth 100000 in
set_option maxHeartbeats 1600000 in
theorem listed_marked (v : Value) (l : List Int) (most : Int) (p : Int → Bool) (b0 : Nat) (w : World) (hv : Row w 1 v l.length (ints l)) (hl : l.length ≤ 100000000)
    (hp : ∀ w' x, Kept [] w w' → x ∈ l → Calls Tryz.prog 169 #[.int .i64 x, .pointer (some ⟨b0, 0, none⟩)] w' fun e w2 => e = .returned (.bool (p x)) ∧ Kept [] w' w2) :
    Calls Tryz.prog 167 #[v, .int .i64 most, .func (.func 169) #[] #[.pointer (some ⟨b0, 0, none⟩)]] w fun e w' => e = .returned (.bool (listedB l most p)) ∧ Kept [] w w' := by
  obtain ⟨aa, cc, rfl, _, hcc⟩ := hv.form
  have HV := Lib.hid hv
  have HP := Lib.hid hp
  obtain ⟨R, hR⟩ : ∃ R, listedB l most p = R := ⟨_, rfl⟩
  rw [hR]
  have HRR := Lib.hid hR
  clear hv hp hR
  go_enter Tryz.func167, Tryz.ntmps167
  go_wp2_with fail
  go_loopw [7, 8, 11] (fun _ _ i wr => ∃ k : Nat, k ≤ l.length ∧ i = .int .i64 k ∧ (∀ j (hj : j < l.length), j < k → p l[j] = true) ∧ (l.take k).Nodup ∧ Kept [] w wr) (fun _ _ i _ => l.length - (intOf i).toNat)
  case atStart => exact ⟨0, Nat.zero_le _, rfl, fun j _ hj => by omega, by simp, Kept.refl _ _⟩
  case round =>
    obtain ⟨k, hk, rfl, hm, hnd, hkr⟩ := hrel
    have HM := Lib.hid hm
    have HN := Lib.hid hnd
    have HK := Lib.hid hkr
    clear hm hnd hkr
    by_cases hlt : k < l.length
    · obtain ⟨ba, oa, rfl, hca⟩ := (HV.out.kept HK.out).at_ (by omega)
      have xa := hca k _ (ints_get hlt)
      have HC := Lib.hid (HP.out wr l[k] HK.out (List.getElem_mem hlt))
      obtain ⟨t, ht⟩ : ∃ t, p l[k] = t := ⟨_, rfl⟩
      rw [ht] at HC
      have HT := Lib.hid ht
      have HCA := Lib.hid hca
      clear hca ht
      cases t
      · have hF := HRR.out
        rw [listedB_no_p hlt HT.out] at hF
        subst hF
        go_wp2_with (go_at_call 169; refine HC.out.mono ?_)
        rintro e w2 ⟨rfl, hk2⟩
        go_wp2_with fail
        go_ret
        exact ⟨rfl, HK.out.trans hk2⟩
      · have hk0 : (0 : Int) ≤ (k : Int) := by omega
        have hkl : (k : Int) ≤ (cc : Int) := by omega
        have CT : Hid (∀ w2 c2, Kept [] wr w2 → Calls Tryz.prog 38 #[.slice (some ⟨ba, oa, none⟩) k c2, .int .i64 l[k]] w2 fun e w3 => e = .returned (.bool (decide (l[k] ∈ l.take k))) ∧ w2 = w3) := fun w2 c2 k2 =>
          contains_row ba oa k c2 l k l[k] w2 (by omega) (by omega) (fun j u hu => Kept.cellOf (HCA.out j u hu) _ k2) rfl
        go_wp2_with (go_at_call 169; refine HC.out.mono ?_)
        rintro e w2 ⟨rfl, hk2⟩
        by_cases hd : l[k] ∈ l.take k
        · have hF := HRR.out
          rw [listedB_no_d hlt hd] at hF
          subst hF
          rw [decide_eq_true hd] at CT
          clear hd
          go_wp2_with (go_at_call 38; refine (CT.out w2 _ hk2).mono ?_)
          rintro e w3 ⟨rfl, rfl⟩
          go_wp2_with fail
          go_ret
          exact ⟨rfl, HK.out.trans hk2⟩
        · have HD := Lib.hid hd
          rw [decide_eq_false hd] at CT
          clear hd
          go_wp2_with (go_at_call 38; refine (CT.out w2 _ hk2).mono ?_)
          rintro e w3 ⟨rfl, rfl⟩
          have HK2 := Lib.hid (HK.out.trans hk2)
          clear hk2
          go_wp2_with fail
          go_roundw
          case rel => exact ⟨k + 1, by omega, by go_num, fun j hj hjk => by
            rcases Nat.lt_or_ge j k with h | h
            · exact HM.out j hj h
            · obtain rfl : j = k := by omega
              exact HT.out, nodup_grow hlt HN.out HD.out, HK2.out⟩
          case measure => simp [intOf]; omega
    · have hk' : Hid (k = l.length) := Lib.hid (by omega)
      have hn := HN.out
      rw [hk'.out, List.take_length] at hn
      have hF := HRR.out
      rw [listedB_end (fun j hj => HM.out j hj (by have := hk'.out; omega)) hn] at hF
      have WI := Lib.hid (within_any (l.length : Int) 1 most wr)
      rw [hF] at WI
      clear hn hF
      go_wp2_with (go_at_call 37; refine WI.out.mono ?_)
      rintro e w2 ⟨rfl, rfl⟩
      go_wp2_with fail
      go_ret
      exact ⟨rfl, HK.out⟩

set_option maxRecDepth 100000 in
set_option maxHeartbeats 800000 in
theorem clo_learnt (x : Int) (b : Nat) (v : Value) (s : Stp) (w : World) (hb : Blk w b 26 (stpA s v)) (hq : 1 ≤ s.Q) (hq2 : s.Q < 9223372036854775808) :
    Calls Tryz.prog 168 #[.int .i64 x, .pointer (some ⟨b, 0, none⟩)] w fun e w' => e = .returned (.bool (inB x 1 (s.Q - 1))) ∧ Kept [] w w' := by
  have e1 : w.cell? ⟨b, 1, none⟩ = some (.int .i64 s.Q) := hb.cell 1
  have hw : IntKind.i64.wrap (s.Q - 1) = s.Q - 1 := by rw [IntKind.wrap_i64]; omega
  have WI := Lib.hid (within_any x 1 (s.Q - 1) w)
  obtain ⟨t, ht⟩ : ∃ t, inB x 1 (s.Q - 1) = t := ⟨_, rfl⟩
  rw [ht] at WI ⊢
  clear ht hb
  go_enter Tryz.func168, Tryz.ntmps168
  go_wp2_with (go_at_call 37; refine WI.out.mono ?_)
  rintro e w2 ⟨rfl, rfl⟩
  go_wp2_with fail
  go_ret
  exact ⟨rfl, Kept.refl _ _⟩

set_option maxRecDepth 100000 in
set_option maxHeartbeats 800000 in
theorem clo_marked (x : Int) (b : Nat) (v : Value) (s : Stp) (q : Nat) (w : World) (hb : Blk w b 26 (stpA s v)) (hok : GrpOk s.P s.Q s.G q) (hg : groupN q s.G = true) (hx : Wire.I64 x) (hE : Env2 w) :
    Calls Tryz.prog 169 #[.int .i64 x, .pointer (some ⟨b, 0, none⟩)] w fun e w' => e = .returned (.bool (othB q x)) ∧ Kept [] w w' := by
  have e0 : w.cell? ⟨b, 0, none⟩ = some (.int .i64 s.P) := hb.cell 0
  have e1 : w.cell? ⟨b, 1, none⟩ = some (.int .i64 s.Q) := hb.cell 1
  have e2 : w.cell? ⟨b, 2, none⟩ = some (.int .i64 s.G) := hb.cell 2
  have HE := Lib.hid (element_any s.P s.Q s.G x q w hok hg hx hE)
  unfold othB
  clear hb hok
  by_cases h1 : x = 1
  · subst h1
    go_enter Tryz.func169, Tryz.ntmps169
    go_wp2_with fail
    go_ret
    exact ⟨rfl, Kept.refl _ _⟩
  · have hne : (x != 1) = true := by simpa using h1
    have hne' : (x == 1) = false := by simpa using h1
    rw [hne']
    obtain ⟨t, ht⟩ : ∃ t, memB q x = t := ⟨_, rfl⟩
    rw [ht] at HE ⊢
    clear ht hne'
    go_enter Tryz.func169, Tryz.ntmps169
    go_wp2_with (go_at_call 96; refine HE.out.mono ?_; rintro e w1 ⟨rfl, hk⟩)
    go_ret
    exact ⟨rfl, hk⟩

set_option maxRecDepth 100000 in
set_option maxHeartbeats 800000 in
theorem learnt_any (vs : Value) (s : Stp) (q : Nat) (v : Value) (l : List Int) (w : World) (hs : StpV w vs s) (hok : GrpOk s.P s.Q s.G q) (_hgn : groupN q s.G = true) (hv : Row w 1 v l.length (ints l)) (hl : l.length ≤ 100000000) (_hi : ∀ x ∈ l, Wire.I64 x) (_hE : Env2 w) :
    Calls Tryz.prog 122 #[vs, v] w fun e w' => e = .returned (.bool (learntB s l)) ∧ Kept [] w w' := by
  obtain ⟨⟨ad, c, rfl, hrow⟩, ip, iq, ig, ib, il⟩ := hs
  obtain ⟨va, vc, rfl, _, _⟩ := hv.form
  obtain ⟨W, hW⟩ : ∃ W, w.alloc (.cells (stpA s (.slice ad s.bases.length c)) 26) = W := ⟨_, rfl⟩
  have hb : Blk W w.heap.size 26 (stpA s (.slice ad s.bases.length c)) := hW ▸ Blk.new _ _ _
  have hkW : Kept [] w W := hW ▸ (Kept.refl _ _).alloc _
  have hmf : ∀ (fn : Fn) (first cap : Array Value) (w : World), (Instr.makeFunc fn first cap).run Tryz.prog w = .ok (.func fn first cap) w := fun _ _ _ _ => rfl
  have hq5 := hok.h5
  have hqq := hok.hq
  have hQ := hok.hQ
  have LI : Hid (Calls Tryz.prog 167 #[.slice va l.length vc, .int .i64 16, .func (.func 168) #[] #[.pointer (some ⟨w.heap.size, 0, none⟩)]] W fun e w' => e = .returned (.bool (learntB s l)) ∧ Kept [] W w') := by
    refine listed_learnt _ l 16 _ w.heap.size W (hv.kept hkW) hl fun w' x k hx => ?_
    exact clo_learnt x _ _ s w' (hb.kept k (by simp)) (by omega) (by omega)
  obtain ⟨R, hR⟩ : ∃ R, learntB s l = R := ⟨_, rfl⟩
  rw [hR] at LI ⊢
  have HW := Lib.hid hW
  clear hW hb hrow hv _hi _hE ib hR hok _hgn hQ
  show Calls _ _ #[.agg #[.int .i64 s.P, .int .i64 s.Q, .int .i64 s.G, .slice ad s.bases.length c, .int .i64 s.blind], _] _ _
  go_enter Tryz.func122, Tryz.ntmps122
  go_wp2_with fail
  have hW' : w.alloc (.cells #[.int .i64 s.P, .int .i64 s.Q, .int .i64 s.G, .slice ad s.bases.length c, .int .i64 s.blind] 26) = W := HW.out
  rw [hW']
  clear hW'
  go_wp2_with (go_at_call 167; with_reducible refine LI.out.mono ?_)
  rintro e w2 ⟨rfl, k2⟩
  go_wp2_with fail
  go_ret
  exact ⟨rfl, hkW.trans k2⟩

set_option maxRecDepth 100000 in
set_option maxHeartbeats 800000 in
theorem marked_any (vs : Value) (s : Stp) (q : Nat) (v : Value) (l : List Int) (w : World) (hs : StpV w vs s) (hok : GrpOk s.P s.Q s.G q) (hgn : groupN q s.G = true) (hv : Row w 1 v l.length (ints l)) (hl : l.length ≤ 100000000) (hi : ∀ x ∈ l, Wire.I64 x) (hE : Env2 w) :
    Calls Tryz.prog 123 #[vs, v] w fun e w' => e = .returned (.bool (markedB s l)) ∧ Kept [] w w' := by
  obtain ⟨⟨ad, c, rfl, hrow⟩, ip, iq, ig, ib, il⟩ := hs
  obtain ⟨va, vc, rfl, _, _⟩ := hv.form
  obtain ⟨W, hW⟩ : ∃ W, w.alloc (.cells (stpA s (.slice ad s.bases.length c)) 26) = W := ⟨_, rfl⟩
  have hb : Blk W w.heap.size 26 (stpA s (.slice ad s.bases.length c)) := hW ▸ Blk.new _ _ _
  have hkW : Kept [] w W := hW ▸ (Kept.refl _ _).alloc _
  have hmf : ∀ (fn : Fn) (first cap : Array Value) (w : World), (Instr.makeFunc fn first cap).run Tryz.prog w = .ok (.func fn first cap) w := fun _ _ _ _ => rfl
  have hq5 := hok.h5
  have hqq := hok.hq
  have hQ := hok.hQ
  have LI : Hid (Calls Tryz.prog 167 #[.slice va l.length vc, .int .i64 32, .func (.func 169) #[] #[.pointer (some ⟨w.heap.size, 0, none⟩)]] W fun e w' => e = .returned (.bool (markedB s l)) ∧ Kept [] W w') := by
    refine listed_marked _ l 32 _ w.heap.size W (hv.kept hkW) hl fun w' x k hx => ?_
    have hqt : s.Q.toNat = q := by omega
    rw [hqt]
    exact clo_marked x _ _ s q w' (hb.kept k (by simp)) hok hgn (hi x hx) (hE.kept0 (hkW.trans k))
  obtain ⟨R, hR⟩ : ∃ R, markedB s l = R := ⟨_, rfl⟩
  rw [hR] at LI ⊢
  have HW := Lib.hid hW
  clear hW hb hrow hv hi hE ib hR hok hgn hQ
  show Calls _ _ #[.agg #[.int .i64 s.P, .int .i64 s.Q, .int .i64 s.G, .slice ad s.bases.length c, .int .i64 s.blind], _] _ _
  go_enter Tryz.func123, Tryz.ntmps123
  go_wp2_with fail
  have hW' : w.alloc (.cells #[.int .i64 s.P, .int .i64 s.Q, .int .i64 s.G, .slice ad s.bases.length c, .int .i64 s.blind] 26) = W := HW.out
  rw [hW']
  clear hW'
  go_wp2_with (go_at_call 167; with_reducible refine LI.out.mono ?_)
  rintro e w2 ⟨rfl, k2⟩
  go_wp2_with fail
  go_ret
  exact ⟨rfl, hkW.trans k2⟩
end Go.Proofs.YtcidfldeiklcjaaGreatDoor
/- A proof is encoded: proof.Encode. -/
namespace Go.Proofs.YtcidfldeiklcjaaGreatDoor
open Go.RowKit Tape

theorem Row.one1 (w : World) (x : Int) : Row (w.alloc (.cells #[.int .i64 x] 3)) 1 (.slice (some ⟨w.heap.size, 0, none⟩) 1 1) 1 (ints [x]) := Row.lit w [x] (by simp)

end Go.Proofs.YtcidfldeiklcjaaGreatDoor
/- What show.Encode writes with: its three closures. -/
namespace Go.Proofs.YtcidfldeiklcjaaGreatDoor
open Go.RowKit Tape

end Go.Proofs.YtcidfldeiklcjaaGreatDoor
/- The state of show.Encode between its steps. -/
namespace Go.Proofs.YtcidfldeiklcjaaGreatDoor
open Go.RowKit Tape

section
variable {w w3 wr w' : World} {o B : Nat} {a a' at_ at' : Option Addr} {c c' ct ct' n : Nat} {P P' : List Int} {T T' : List (List UInt8)}
end

/-! ### the numbers of a record, part by part -/
end Go.Proofs.YtcidfldeiklcjaaGreatDoor
/- The documents' bounds: fewLists, fewNums, fewLinks. -/
namespace Go.Proofs.YtcidfldeiklcjaaGreatDoor
open Go.RowKit Tape

end Go.Proofs.YtcidfldeiklcjaaGreatDoor
/- Equal things compare as equal: SameInts, SameLists, SameNums, SameProof, tickets and spends. -/
namespace Go.Proofs.YtcidfldeiklcjaaGreatDoor
open Go.RowKit Tape

end Go.Proofs.YtcidfldeiklcjaaGreatDoor
/- Equal records compare as equal: SameNums, SameProof, tickets, spends, SameRecord. -/
namespace Go.Proofs.YtcidfldeiklcjaaGreatDoor
open Go.RowKit Tape

end Go.Proofs.YtcidfldeiklcjaaGreatDoor
/- Records that are equal compare as equal: SameRecord. -/
namespace Go.Proofs.YtcidfldeiklcjaaGreatDoor
open Go.RowKit Tape

end Go.Proofs.YtcidfldeiklcjaaGreatDoor
namespace Go.Proofs.YtcidfldeiklcjaaGreatDoor
open Go.RowKit Tape

structure TskS (w : World) (pa va : Value) (t : Tsk) : Prop where
  ps : RowOf PssR 4 w pa t.passes
  rv : Row w 1 va t.revoked.length (ints t.revoked)
end Go.Proofs.YtcidfldeiklcjaaGreatDoor
