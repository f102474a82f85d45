/- Whether true times satisfy all bounds: the law's possible. -/
import Derived.Test.YtcidfldeiklcjaaGreatDoorKnu
import Derived.Test.YtcidfldeiklcjaaGreatDoorImp
import Derived.Deep.DeepCutAuto
import Derived.Deep.CutBlock
namespace Go.Proofs.YtcidfldeiklcjaaGreatDoor
open Go.RowKit Tm Bf

def PosP (l : List Ent) (dr : Int) (ats : List Int) : Prop := ats.length = l.length ∧ PossAll l dr fun i => ats.getD i 0
def NearOk (l : List Ent) (dr : Int) (at_ : Nat → Int) (i : Nat) : Prop :=
  ∀ x y, 0 < i → l[i - 1]? = some x → l[i]? = some y → near x y = true → 1000 * (at_ i - at_ (i - 1)) ≤ (y.time - x.time) * (1000 + dr) + 999 ∧ (y.time - x.time) * (1000 - dr) - 1000 < 1000 * (at_ i - at_ (i - 1))
def SyncOk (l : List Ent) (at_ : Nat → Int) (i : Nat) : Prop := ∀ y, l[i]? = some y → y.kind = 1 → y.nums.length = 2 → y.nums.getD 0 0 ≤ at_ i ∧ at_ i ≤ y.nums.getD 1 0
def HearOk (l : List Ent) (at_ : Nat → Int) (i : Nat) : Prop := ∀ y, l[i]? = some y → y.kind = 2 → y.nums.length = 2 → ∀ k x, l[k]? = some x → hears y x = true → at_ k ≤ at_ i
theorem possAt_parts {l : List Ent} {dr : Int} {at_ : Nat → Int} {i : Nat} : PossAt l dr at_ i ↔ (0 ≤ at_ i ∧ at_ i ≤ Tm.mt) ∧ NearOk l dr at_ i ∧ SyncOk l at_ i ∧ HearOk l at_ i := Iff.rfl

set_option maxRecDepth 100000 in
set_option maxHeartbeats 4000000 in
theorem possible_any (v va : Value) (l : List Ent) (dr : Int) (ats : List Int) (w : World) (h : EntsV w v l) (hw : ∀ x ∈ l, WF x) (h0 : 0 ≤ dr) (h1 : dr ≤ 1000) (hl : l.length ≤ 15) (ha : Row w 1 va ats.length (ints ats)) :
    Calls Tryz.prog 18 #[v, .int .i64 dr, va] w (AnsB (PosP l dr ats) w) := by
  obtain ⟨xa, xc, rfl, _, hvc⟩ := RowOf.form h
  obtain ⟨ta, tc, rfl, htl, htc⟩ := ha.form
  have HV := Lib.hid h
  have HA := Lib.hid ha
  have HW := Lib.hid hw
  obtain ⟨P, hP⟩ : ∃ P, PosP l dr ats = P := ⟨_, rfl⟩
  rw [hP]
  have HP := Lib.hid hP
  obtain ⟨L, hL⟩ : ∃ L, l.length = L := ⟨_, rfl⟩
  obtain ⟨T, hT⟩ : ∃ T, ats.length = T := ⟨_, rfl⟩
  have HL := Lib.hid hL
  have HT := Lib.hid hT
  rw [hL] at hvc hl ⊢
  rw [hT] at htc htl ⊢
  clear h hw ha hP hL hT
  by_cases hTL : T = L
  rotate_left
  · have hne : ((T : Int) != (L : Int)) = true := by simp; omega
    have NO : Hid (¬ P) := by
      intro hp
      rw [← HP.out] at hp
      have := hp.1
      rw [HL.out, HT.out] at this
      exact hTL this
    go_enter Tryz.func18, Tryz.ntmps18
    go_wp2_with fail
    go_ret
    exact AnsB.no (Kept.refl _ _) NO.out
  subst hTL
  have HPI : Hid (P ↔ PossAll l dr fun i => ats.getD i 0) := by
    rw [← HP.out]
    exact ⟨fun h => h.2, fun h => ⟨HT.out.trans HL.out.symm, h⟩⟩
  clear HP
  have hne : ((T : Int) != (T : Int)) = false := by simp
  go_enter Tryz.func18, Tryz.ntmps18
  go_wp2_with fail
  go_loopw [7, 8, 9, 10] (fun vi _ _ _ wr => ∃ i : Nat, i ≤ T ∧ vi = .int .i64 i ∧ Hid (∀ j, j < i → PossAt l dr (fun i => ats.getD i 0) j) ∧ Hid (Kept [] w wr)) (fun vi _ _ _ _ => T - (intOf vi).toNat)
  case atStart => exact ⟨0, by omega, rfl, fun j hj => by omega, Kept.refl _ _⟩
  case round =>
    obtain ⟨i, hiT, rfl, HD, HK⟩ := hrel
    by_cases hin : i < T
    · have hil : i < l.length := by have := HL.out; omega
      have hia : i < ats.length := by have := HT.out; omega
      obtain ⟨tb, tof, hta, hcell⟩ := (HA.out.kept HK.out).at_ (by omega)
      have HC := Lib.hid hcell
      have hxi := hcell i _ (ints_get hia)
      subst hta
      clear hcell
      have hgd : ats.getD i 0 = ats[i] := by rw [List.getD_eq_getElem?_getD, List.getElem?_eq_getElem hia]; rfl
      obtain ⟨x, hx⟩ : ∃ x, ats[i] = x := ⟨_, rfl⟩
      rw [hx] at hxi hgd
      have HGD := Lib.hid hgd
      clear hgd hx
      have HNO : Hid (¬ PossAt l dr (fun i => ats.getD i 0) i → ¬ P) := fun hn hp => hn (HPI.out.1 hp i hil)
      have HXR := Lib.hid HGD.out
      by_cases c1 : x < 0
      · as_aux_lemma =>
        have NO : Hid (¬ P) := HNO.out fun hp => by have := hp.1.1; simp only [HGD.out] at this; omega
        go_wp2_with fail
        go_ret
        exact AnsB.no HK.out NO.out
      by_cases c2 : 2147483648 < x
      · as_aux_lemma =>
        have NO : Hid (¬ P) := HNO.out fun hp => by have := hp.1.2; simp only [HGD.out, Tm.mt] at this; omega
        go_wp2_with fail
        go_ret
        exact AnsB.no HK.out NO.out
      obtain ⟨lb, lo, lc, hvq, _, hcell2⟩ := HV.out.at_ (by omega)
      have HEC : Hid (∀ (k : Nat) (hk : k < l.length), ∃ u, Row wr 1 u l[k].nums.length (ints l[k].nums) ∧ Cells8 wr lb (lo + k * 8) l[k] u) := fun k hk => by
        obtain ⟨u, h1, h2⟩ := hcell2 k hk
        exact ⟨u, h1.kept HK.out, h2.kept HK.out⟩
      injection hvq with hv1 _ hv3
      subst hv1 hv3
      obtain ⟨u, hrow, hc⟩ := HEC.out i hil
      obtain ⟨y, hy⟩ : ∃ y, l[i] = y := ⟨_, rfl⟩
      rw [hy] at hrow hc
      obtain ⟨ua, uc, rfl, _, _⟩ := hrow.form
      have HY := Lib.hid hy
      have HR := Lib.hid hrow
      have HC8 := Lib.hid hc
      have HWY : Hid (WF y) := by rw [← hy]; exact HW.out _ (List.getElem_mem hil)
      clear hc hcell2 hy hrow
      go_upto_region 8 with (fail)
      obtain ⟨nb, hnb⟩ : ∃ nb : Bool, (if 0 < i then match l[i - 1]? with | some x => near x y | none => false else false) = nb := ⟨_, rfl⟩
      have HNB := Lib.hid hnb
      have HX := Lib.hid hxi
      clear hxi
      go_cut [80] (fun v wx => v = .bool nb ∧ Hid (Kept [] wr wx))
      case first =>
        by_cases hm0 : 0 < i
        · obtain ⟨q, rfl⟩ : ∃ q, i = q + 1 := ⟨i - 1, by omega⟩
          have hq1 : (q : Int) + 1 < (T : Int) := by omega
          have hqm : max (q : Int) 0 = (q : Int) := by omega
          have wq : IntKind.i64.wrap (q : Int) = (q : Int) := by rw [IntKind.wrap_i64]; omega
          have hql : q < l.length := by omega
          have hqT : q < T := by omega
          have b0 := HC8.out.c0
          have b1 := HC8.out.c1
          have b2 := HC8.out.c2
          obtain ⟨_, _, hcx'⟩ := HEC.out q hql
          obtain ⟨z, hz⟩ : ∃ z, l[q] = z := ⟨_, rfl⟩
          rw [hz] at hcx'
          have hnx : near z y = nb := by rw [if_pos hm0, show q + 1 - 1 = q by omega, List.getElem?_eq_getElem hql, hz] at hnb; exact hnb
          have p0 := hcx'.c0
          have p1 := hcx'.c1
          have p2 := hcx'.c2
          unfold near at hnx
          have hg0 : decide ((0 : Int) < (q : Int) + 1) = true := decide_eq_true (by omega)
          clear hcx' hz hnb
          by_cases e0 : z.gate = y.gate
          · have e0' : (z.gate == y.gate) = true := by simpa using e0
            by_cases e1 : z.no = y.no
            · as_aux_lemma =>
              have e1' : (z.no != y.no) = false := by simpa using e1
              have hn0 : nb = false := by rw [← hnx, e1]; simp
              subst hn0
              go_quiet (fail)
              go_wp2_with fail
              go_meet
              case rel => exact ⟨rfl, (Kept.refl _ _).drewN _⟩
            · as_aux_lemma =>
              have e1' : (z.no != y.no) = true := by simpa using e1
              obtain ⟨tt, htt⟩ : ∃ tt, decide (z.time ≤ y.time) = tt := ⟨_, rfl⟩
              have hn0 : nb = tt := by rw [← hnx, ← htt]; simp [e0, e1]
              subst hn0
              go_quiet (fail)
              go_wp2_with fail
              go_meet
              case rel => exact ⟨rfl, (Kept.refl _ _).drewN _⟩
          · as_aux_lemma =>
            have e0' : (z.gate == y.gate) = false := by simpa using e0
            have hn0 : nb = false := by rw [← hnx]; simp [e0]
            subst hn0
            go_quiet (fail)
            go_wp2_with fail
            go_meet
            case rel => exact ⟨rfl, (Kept.refl _ _).drewN _⟩
        · as_aux_lemma =>
          have hg0 : decide ((i : Int) > 0) = false := by simp; omega
          have hn0 : nb = false := by rw [if_neg hm0] at hnb; exact hnb.symm
          subst hn0
          clear hnb
          go_quiet (fail)
          go_wp2_with fail
          go_meet
          case rel => exact ⟨rfl, (Kept.refl _ _).drewN _⟩
      case rest =>
        obtain ⟨rfl, K1⟩ := hcut
        clear hnb
        go_upto_if 80 with (fail)
        go_cut [] (fun wx => Hid (NearOk l dr (fun i => ats.getD i 0) i) ∧ Hid (Kept [] wr wx))
        case first =>
          cases nb
          · as_aux_lemma =>
            have HNR : Hid (NearOk l dr (fun i => ats.getD i 0) i) := fun x' y' h1 h2 h3 h4 => by
              have hnb := HNB.out
              rw [if_pos h1, h2] at hnb
              rw [List.getElem?_eq_getElem hil, HY.out] at h3
              injection h3 with h3
              subst h3
              simp only at hnb
              rw [hnb] at h4; cases h4
            go_wp2_with fail
            go_meet
            case rel => exact ⟨HNR, K1⟩
          · obtain ⟨q, rfl⟩ : ∃ q, i = q + 1 := by
              refine ⟨i - 1, ?_⟩
              have hnb := HNB.out
              by_cases h : 0 < i
              · omega
              · rw [if_neg h] at hnb; cases hnb
            have hq1 : (q : Int) + 1 < (T : Int) := by omega
            have hqm : max (q : Int) 0 = (q : Int) := by omega
            have wq : IntKind.i64.wrap (q : Int) = (q : Int) := by rw [IntKind.wrap_i64]; omega
            have hql : q < l.length := by omega
            have hqT : q < T := by omega
            have hqa : q < ats.length := by omega
            obtain ⟨_, _, hcx'⟩ := HEC.out q hql
            obtain ⟨z, hz⟩ : ∃ z, l[q] = z := ⟨_, rfl⟩
            rw [hz] at hcx'
            have HZ := Lib.hid hz
            have HWZ : Hid (WF z) := by rw [← hz]; exact HW.out _ (List.getElem_mem hql)
            have b2 := Kept.cellOf HC8.out.c2 _ K1.out
            have p2 := Kept.cellOf hcx'.c2 _ K1.out
            have a1 := Kept.cellOf HX.out _ K1.out
            have a0 := Kept.cellOf (HC.out q _ (ints_get hqa)) _ K1.out
            have hgq : ats.getD q 0 = ats[q] := by rw [List.getD_eq_getElem?_getD, List.getElem?_eq_getElem hqa]; rfl
            obtain ⟨x0, hx0⟩ : ∃ x, ats[q] = x := ⟨_, rfl⟩
            rw [hx0] at a0 hgq
            have hr0 := (HD.out q (by omega)).1
            simp only [hgq] at hr0
            have HGQ := Lib.hid hgq
            obtain ⟨t1, ht1⟩ : ∃ t, y.time = t := ⟨_, rfl⟩
            obtain ⟨t0, ht0⟩ : ∃ t, z.time = t := ⟨_, rfl⟩
            have hw1 := HWY.out.time
            have hw0 := HWZ.out.time
            have hnz : near z y = true := by
              have hnb := HNB.out
              rw [if_pos (by omega), show q + 1 - 1 = q by omega, List.getElem?_eq_getElem hql, hz] at hnb
              exact hnb
            have htt : z.time ≤ y.time := by
              unfold near at hnz
              simp only [Bool.and_eq_true, decide_eq_true_eq] at hnz
              exact hnz.2.2
            rw [ht1] at b2 hw1 htt
            rw [ht0] at p2 hw0 htt
            unfold Tm.mt at hw0 hw1 hr0
            have HT1 := Lib.hid ht1
            have HT0 := Lib.hid ht0
            have HNZ := Lib.hid hnz
            have wd : IntKind.i64.wrap (t1 - t0) = t1 - t0 := by rw [IntKind.wrap_i64]; omega
            have wg : IntKind.i64.wrap (x - x0) = x - x0 := by rw [IntKind.wrap_i64]; omega
            clear hz hgq hx0 ht1 ht0 hnz hcx'
            have u1 : (t1 - t0) * (1000 + dr) ≤ (t1 - t0) * 2000 := Int.mul_le_mul_of_nonneg_left (by omega) (by omega)
            have u0 : 0 ≤ (t1 - t0) * (1000 + dr) := Int.mul_nonneg (by omega) (by omega)
            have v1 : (t1 - t0) * (1000 - dr) ≤ (t1 - t0) * 1000 := Int.mul_le_mul_of_nonneg_left (by omega) (by omega)
            have v0 : 0 ≤ (t1 - t0) * (1000 - dr) := Int.mul_nonneg (by omega) (by omega)
            have w1 : IntKind.i64.wrap (1000 * (x - x0)) = 1000 * (x - x0) := by rw [IntKind.wrap_i64]; omega
            have w2 : IntKind.i64.wrap (1000 + dr) = 1000 + dr := by rw [IntKind.wrap_i64]; omega
            have w3 : IntKind.i64.wrap ((t1 - t0) * (1000 + dr)) = (t1 - t0) * (1000 + dr) := by rw [IntKind.wrap_i64]; omega
            have w4 : IntKind.i64.wrap ((t1 - t0) * (1000 + dr) + 999) = (t1 - t0) * (1000 + dr) + 999 := by rw [IntKind.wrap_i64]; omega
            have w5 : IntKind.i64.wrap (1000 - dr) = 1000 - dr := by rw [IntKind.wrap_i64]; omega
            have w6 : IntKind.i64.wrap ((t1 - t0) * (1000 - dr)) = (t1 - t0) * (1000 - dr) := by rw [IntKind.wrap_i64]; omega
            have w7 : IntKind.i64.wrap ((t1 - t0) * (1000 - dr) - 1000) = (t1 - t0) * (1000 - dr) - 1000 := by rw [IntKind.wrap_i64]; omega
            have HQA : Hid (∀ Q : Prop, (NearOk l dr (fun i => ats.getD i 0) (q + 1) ↔ (1000 * (x - x0) ≤ (t1 - t0) * (1000 + dr) + 999 ∧ (t1 - t0) * (1000 - dr) - 1000 < 1000 * (x - x0)))) := fun _ => by
              have e1 : l[q + 1 - 1]? = some z := by rw [show q + 1 - 1 = q by omega, List.getElem?_eq_getElem hql, HZ.out]
              have e2 : l[q + 1]? = some y := by rw [List.getElem?_eq_getElem hil, HY.out]
              constructor
              · intro h
                have h1 := h z y (by omega) e1 e2 HNZ.out
                simp only [show q + 1 - 1 = q by omega, HGD.out, HGQ.out, HT1.out, HT0.out] at h1
                exact h1
              · intro h x' y' _ h2 h3 _
                rw [e1] at h2
                rw [e2] at h3
                injection h2 with h2
                injection h3 with h3
                subst h2 h3
                simp only [show q + 1 - 1 = q by omega, HGD.out, HGQ.out, HT1.out, HT0.out]
                exact h
            by_cases c1 : (t1 - t0) * (1000 + dr) + 999 < 1000 * (x - x0)
            · as_aux_lemma =>
              have NO : Hid (¬ P) := HNO.out fun hp => by have := (HQA.out True).1 (possAt_parts.1 hp).2.1; omega
              go_wp2_with fail
              go_quiet (fail)
              go_wp2_with fail
              go_quiet (fail)
              go_wp2_with fail
              go_ret
              exact AnsB.no (HK.out.trans (K1.out.drewN _)) NO.out
            by_cases c2 : 1000 * (x - x0) ≤ (t1 - t0) * (1000 - dr) - 1000
            · as_aux_lemma =>
              have NO : Hid (¬ P) := HNO.out fun hp => by have := (HQA.out True).1 (possAt_parts.1 hp).2.1; omega
              go_wp2_with fail
              go_quiet (fail)
              go_wp2_with fail
              go_quiet (fail)
              go_wp2_with fail
              go_ret
              exact AnsB.no (HK.out.trans (K1.out.drewN _)) NO.out
            have HNR : Hid (NearOk l dr (fun i => ats.getD i 0) (q + 1)) := (HQA.out True).2 ⟨by omega, by omega⟩
            clear HQA
            as_aux_lemma =>
            go_wp2_with fail
            go_quiet (fail)
            go_wp2_with fail
            go_quiet (fail)
            go_wp2_with fail
            go_meet
            case rel => exact ⟨HNR, K1.out.drewN _⟩
        case rest =>
          obtain ⟨HNR, K2⟩ := hcut
          clear K1
          obtain ⟨sb, hsb⟩ : ∃ b, (decide (y.kind = 1) && decide (y.nums.length = 2)) = b := ⟨_, rfl⟩
          have HSB := Lib.hid hsb
          go_upto_region 13 with (fail)
          go_cut [137] (fun v wx => v = .bool sb ∧ Hid (Kept [] wr wx))
          case first =>
            have b3 := Kept.cellOf HC8.out.c3 _ K2.out
            have b4 := Kept.cellOf HC8.out.c4 _ K2.out
            by_cases e1 : y.kind = 1
            · by_cases e2 : y.nums.length = 2
              · as_aux_lemma =>
                have hs : sb = true := by rw [← hsb, decide_eq_true e1, decide_eq_true e2]; rfl
                subst hs
                have e1' : (y.kind == 1) = true := by simpa using e1
                have e2' : ((y.nums.length : Int) == 2) = true := by simp; omega
                clear hsb e1 e2
                go_wp2_with fail
                go_meet
                case rel => exact ⟨rfl, K2⟩
              · as_aux_lemma =>
                have hs : sb = false := by rw [← hsb, decide_eq_true e1, decide_eq_false e2]; rfl
                subst hs
                have e1' : (y.kind == 1) = true := by simpa using e1
                have e2' : ((y.nums.length : Int) == 2) = false := by simp; omega
                clear hsb e1 e2
                go_wp2_with fail
                go_meet
                case rel => exact ⟨rfl, K2⟩
            · as_aux_lemma =>
              have hs : sb = false := by rw [← hsb, decide_eq_false e1]; rfl
              subst hs
              have e1' : (y.kind == 1) = false := by simpa using e1
              clear hsb e1
              go_wp2_with fail
              go_meet
              case rel => exact ⟨rfl, K2⟩
          case rest =>
            obtain ⟨rfl, K3⟩ := hcut
            clear K2 hsb
            go_upto_if 137 with (fail)
            go_cut [] (fun wx => Hid (SyncOk l (fun i => ats.getD i 0) i) ∧ Hid (Kept [] wr wx))
            case first =>
              cases sb
              · as_aux_lemma =>
                have HSY : Hid (SyncOk l (fun i => ats.getD i 0) i) := fun y' h1 h2 h3 => by
                  rw [List.getElem?_eq_getElem hil, HY.out] at h1
                  injection h1 with h1
                  subst h1
                  have := HSB.out
                  rw [decide_eq_true h2, decide_eq_true h3] at this
                  cases this
                go_wp2_with fail
                go_meet
                case rel => exact ⟨HSY, K3⟩
              · have hkk : y.kind = 1 ∧ y.nums.length = 2 := by
                  have := HSB.out
                  simpa using this
                obtain ⟨n0, n1, hnn⟩ : ∃ a b, y.nums = [a, b] := by
                  match h : y.nums, hkk.2 with
                  | [a, b], _ => exact ⟨a, b, rfl⟩
                have hrow := HR.out
                obtain ⟨ub, uo, rfl, hnc⟩ := hrow.at_ (by omega)
                have q0 : _ = some (Value.int .i64 n0) := Kept.cellOf (hnc 0 (.int .i64 n0) (by rw [hnn]; rfl)) _ K3.out
                have q1 : _ = some (Value.int .i64 n1) := Kept.cellOf (hnc 1 (.int .i64 n1) (by rw [hnn]; rfl)) _ K3.out
                rw [Nat.add_zero] at q0
                have a1 := Kept.cellOf HX.out _ K3.out
                have b4 := Kept.cellOf HC8.out.c4 _ K3.out
                have hnl : y.nums.length = 2 := hkk.2
                rw [hnl] at b4
                have HQA : Hid (SyncOk l (fun i => ats.getD i 0) i ↔ (n0 ≤ x ∧ x ≤ n1)) := by
                  have e2 : l[i]? = some y := by rw [List.getElem?_eq_getElem hil, HY.out]
                  constructor
                  · intro h
                    have h1 := h y e2 hkk.1 hkk.2
                    simp only [HGD.out, hnn] at h1
                    exact h1
                  · intro h y' h1 _ _
                    rw [e2] at h1
                    injection h1 with h1
                    subst h1
                    simp only [HGD.out, hnn]
                    exact h
                clear hkk hnn hrow hnc hnl
                by_cases c1 : x < n0
                · as_aux_lemma =>
                  have NO : Hid (¬ P) := HNO.out fun hp => by have := HQA.out.1 (possAt_parts.1 hp).2.2.1; omega
                  have d1 : decide (x < n0) = true := by simpa using c1
                  go_wp2_with fail
                  go_quiet (fail)
                  go_wp2_with fail
                  go_ret
                  exact AnsB.no (HK.out.trans (K3.out.drewN _)) NO.out
                by_cases c2 : n1 < x
                · as_aux_lemma =>
                  have NO : Hid (¬ P) := HNO.out fun hp => by have := HQA.out.1 (possAt_parts.1 hp).2.2.1; omega
                  have d1 : decide (x < n0) = false := by simpa using c1
                  have d2 : decide (n1 < x) = true := by simpa using c2
                  go_wp2_with fail
                  go_quiet (fail)
                  go_wp2_with fail
                  go_ret
                  exact AnsB.no (HK.out.trans (K3.out.drewN _)) NO.out
                as_aux_lemma =>
                have HSY : Hid (SyncOk l (fun i => ats.getD i 0) i) := HQA.out.2 ⟨by omega, by omega⟩
                have d1 : decide (x < n0) = false := by simpa using c1
                have d2 : decide (n1 < x) = false := by simpa using c2
                go_wp2_with fail
                go_quiet (fail)
                go_wp2_with fail
                go_meet
                case rel => exact ⟨HSY, K3.out.drewN _⟩
            case rest =>
              obtain ⟨HSY, K4⟩ := hcut
              clear K3 HSB
              obtain ⟨hb, hhb⟩ : ∃ b, (decide (y.kind = 2) && decide (y.nums.length = 2)) = b := ⟨_, rfl⟩
              have HHB := Lib.hid hhb
              go_upto_region 16 with (fail)
              go_cut [178] (fun v wx => v = .bool hb ∧ Hid (Kept [] wr wx))
              case first =>
                have b3 := Kept.cellOf HC8.out.c3 _ K4.out
                have b4 := Kept.cellOf HC8.out.c4 _ K4.out
                by_cases e1 : y.kind = 2
                · by_cases e2 : y.nums.length = 2
                  · as_aux_lemma =>
                    have hs : hb = true := by rw [← hhb, decide_eq_true e1, decide_eq_true e2]; rfl
                    subst hs
                    have e1' : (y.kind == 2) = true := by simpa using e1
                    have e2' : ((y.nums.length : Int) == 2) = true := by simp; omega
                    clear hhb e1 e2
                    go_wp2_with fail
                    go_meet
                    case rel => exact ⟨rfl, K4⟩
                  · as_aux_lemma =>
                    have hs : hb = false := by rw [← hhb, decide_eq_true e1, decide_eq_false e2]; rfl
                    subst hs
                    have e1' : (y.kind == 2) = true := by simpa using e1
                    have e2' : ((y.nums.length : Int) == 2) = false := by simp; omega
                    clear hhb e1 e2
                    go_wp2_with fail
                    go_meet
                    case rel => exact ⟨rfl, K4⟩
                · as_aux_lemma =>
                  have hs : hb = false := by rw [← hhb, decide_eq_false e1]; rfl
                  subst hs
                  have e1' : (y.kind == 2) = false := by simpa using e1
                  clear hhb e1
                  go_wp2_with fail
                  go_meet
                  case rel => exact ⟨rfl, K4⟩
              case rest =>
                obtain ⟨rfl, K5⟩ := hcut
                clear K4 hhb
                have HFI : Hid (HearOk l (fun i => ats.getD i 0) i → ∀ j, j < i + 1 → PossAt l dr (fun i => ats.getD i 0) j) := fun h j hj => by
                  rcases Nat.lt_or_ge j i with h1 | h1
                  · exact HD.out j h1
                  · obtain rfl : j = i := by omega
                    refine possAt_parts.2 ⟨?_, HNR.out, HSY.out, h⟩
                    show 0 ≤ ats.getD j 0 ∧ ats.getD j 0 ≤ Tm.mt
                    rw [HGD.out]
                    unfold Tm.mt
                    omega
                cases hb
                · as_aux_lemma =>
                  have HH : Hid (HearOk l (fun i => ats.getD i 0) i) := fun y' h1 h2 h3 => by
                    rw [List.getElem?_eq_getElem hil, HY.out] at h1
                    injection h1 with h1
                    subst h1
                    have := HHB.out
                    rw [decide_eq_true h2, decide_eq_true h3] at this
                    cases this
                  have HND := Lib.hid (HFI.out HH.out)
                  have HKE := Lib.hid (HK.out.trans K5.out)
                  go_wp2_with fail
                  go_roundw
                  case rel => exact ⟨i + 1, by omega, by go_num, HND, HKE⟩
                  case measure => simp [intOf]; omega
                · have hkk : y.kind = 2 ∧ y.nums.length = 2 := by
                    have := HHB.out
                    simpa using this
                  obtain ⟨n0, n1, hnn⟩ : ∃ a b, y.nums = [a, b] := by
                    match h : y.nums, hkk.2 with
                    | [a, b], _ => exact ⟨a, b, rfl⟩
                  have hrow := HR.out
                  obtain ⟨ub, uo, rfl, hnc⟩ := hrow.at_ (by omega)
                  have hq0 : _ = some (Value.int .i64 n0) := Kept.cellOf (hnc 0 (.int .i64 n0) (by rw [hnn]; rfl)) _ K5.out
                  have hq1 : _ = some (Value.int .i64 n1) := Kept.cellOf (hnc 1 (.int .i64 n1) (by rw [hnn]; rfl)) _ K5.out
                  rw [Nat.add_zero] at hq0
                  have HQ0 := Lib.hid hq0
                  have HQ1 := Lib.hid hq1
                  have HNL := Lib.hid hkk.2
                  have HHI : Hid (HearOk l (fun i => ats.getD i 0) i ↔ ∀ k z, l[k]? = some z → z.gate = n0 → z.no = n1 → ats.getD k 0 ≤ x) := by
                    have e2 : l[i]? = some y := by rw [List.getElem?_eq_getElem hil, HY.out]
                    constructor
                    · intro h k z hz h1 h2
                      have h3 := h y e2 hkk.1 hkk.2 k z hz (by unfold hears; rw [hnn]; simp [h1, h2])
                      simp only [HGD.out] at h3
                      exact h3
                    · intro h y' h1 _ _ k z hz hh
                      rw [e2] at h1
                      injection h1 with h1
                      subst h1
                      unfold hears at hh
                      rw [hnn] at hh
                      simp at hh
                      simp only [HGD.out]
                      exact h k z hz hh.1 hh.2
                  have HKE := Lib.hid (HK.out.trans K5.out)
                  clear hkk hnn hrow hnc hq0 hq1
                  as_aux_lemma =>
                  go_wp2_with fail
                  go_loopw [10] (fun vk wr2 => ∃ k : Nat, k ≤ T ∧ vk = .int .i64 k ∧ Hid (∀ j z, j < k → l[j]? = some z → z.gate = n0 → z.no = n1 → ats.getD j 0 ≤ x) ∧ Hid (Kept [] wc wr2)) (fun vk _ => T - (intOf vk).toNat)
                  case atStart => exact ⟨0, by omega, rfl, fun j z hj => by omega, Kept.refl _ _⟩
                  case round =>
                    obtain ⟨k, hkT, rfl, HJ, HK6⟩ := hrel
                    by_cases hkn : k < T
                    · have hkl : k < l.length := by have := HL.out; omega
                      have hka : k < ats.length := by have := HT.out; omega
                      have HKX := Lib.hid (K5.out.trans HK6.out)
                      obtain ⟨_, _, hcz⟩ := HEC.out k hkl
                      obtain ⟨z, hz⟩ : ∃ z, l[k] = z := ⟨_, rfl⟩
                      rw [hz] at hcz
                      have HZ : Hid (l[k]? = some z) := by show _ = _; rw [List.getElem?_eq_getElem hkl, hz]
                      have p0 := Kept.cellOf hcz.c0 _ HKX.out
                      have p1 := Kept.cellOf hcz.c1 _ HKX.out
                      have b4 := Kept.cellOf HC8.out.c4 _ HKX.out
                      rw [HNL.out] at b4
                      have q0 := Kept.cellOf HQ0.out _ HK6.out
                      have q1 := Kept.cellOf HQ1.out _ HK6.out
                      have a1 := Kept.cellOf HX.out _ HKX.out
                      have a0 := Kept.cellOf (HC.out k _ (ints_get hka)) _ HKX.out
                      have hgk : ats.getD k 0 = ats[k] := by rw [List.getD_eq_getElem?_getD, List.getElem?_eq_getElem hka]; rfl
                      obtain ⟨xk, hxk⟩ : ∃ x, ats[k] = x := ⟨_, rfl⟩
                      rw [hxk] at a0 hgk
                      have HGK := Lib.hid hgk
                      have HJ1 : Hid ((z.gate = n0 → z.no = n1 → xk ≤ x) → ∀ j z, j < k + 1 → l[j]? = some z → z.gate = n0 → z.no = n1 → ats.getD j 0 ≤ x) := fun h j z' hj hz' h1 h2 => by
                        rcases Nat.lt_or_ge j k with h3 | h3
                        · exact HJ.out j z' h3 hz' h1 h2
                        · obtain rfl : j = k := by omega
                          rw [HZ.out] at hz'
                          injection hz' with hz'
                          subst hz'
                          rw [HGK.out]
                          exact h h1 h2
                      clear hz hcz hgk hxk
                      by_cases c0 : z.gate = n0
                      · by_cases c1' : z.no = n1
                        · by_cases c3 : x < xk
                          · as_aux_lemma =>
                            have NO : Hid (¬ P) := HNO.out fun hp => by
                              have h := HHI.out.1 (possAt_parts.1 hp).2.2.2 k z HZ.out c0 c1'
                              rw [HGK.out] at h
                              omega
                            have d0 : (z.gate == n0) = true := by simpa using c0
                            have d1 : (z.no == n1) = true := by simpa using c1'
                            have d3 : decide (x < xk) = true := by simpa using c3
                            go_wp2_with fail
                            go_quiet (fail)
                            go_wp2_with fail
                            go_ret
                            exact AnsB.no (HKE.out.trans (HK6.out.drewN _)) NO.out
                          · as_aux_lemma =>
                            have HJ2 := Lib.hid (HJ1.out fun _ _ => by omega)
                            have d0 : (z.gate == n0) = true := by simpa using c0
                            have d1 : (z.no == n1) = true := by simpa using c1'
                            have d3 : decide (x < xk) = false := by simpa using c3
                            go_wp2_with fail
                            go_quiet (fail)
                            go_wp2_with fail
                            go_roundw
                            case rel => exact ⟨k + 1, by omega, by go_num, HJ2, HK6.out.drewN _⟩
                            case measure => simp [intOf]; omega
                        · as_aux_lemma =>
                          have HJ2 := Lib.hid (HJ1.out fun _ h => absurd h c1')
                          have d0 : (z.gate == n0) = true := by simpa using c0
                          have d1 : (z.no == n1) = false := by simpa using c1'
                          go_wp2_with fail
                          go_quiet (fail)
                          go_wp2_with fail
                          go_roundw
                          case rel => exact ⟨k + 1, by omega, by go_num, HJ2, HK6.out.drewN _⟩
                          case measure => simp [intOf]; omega
                      · as_aux_lemma =>
                        have HJ2 := Lib.hid (HJ1.out fun h => absurd h c0)
                        have d0 : (z.gate == n0) = false := by simpa using c0
                        go_wp2_with fail
                        go_quiet (fail)
                        go_wp2_with fail
                        go_roundw
                        case rel => exact ⟨k + 1, by omega, by go_num, HJ2, HK6.out.drewN _⟩
                        case measure => simp [intOf]; omega
                    · as_aux_lemma =>
                      have HH : Hid (HearOk l (fun i => ats.getD i 0) i) := HHI.out.2 fun j z hz h1 h2 => HJ.out j z (by have := (List.getElem?_eq_some_iff.1 hz).1; have := HL.out; omega) hz h1 h2
                      have HND := Lib.hid (HFI.out HH.out)
                      have HKF := Lib.hid (HKE.out.trans HK6.out)
                      go_wp2_with fail
                      exact ⟨⟨i + 1, by omega, by go_num, HND, HKF⟩, by simp [intOf]; omega⟩
    · as_aux_lemma =>
      obtain rfl : i = T := by omega
      have HPY : Hid P := HPI.out.2 fun j hj => HD.out j (by have := HL.out; omega)
      go_wp2_with fail
      go_ret
      exact AnsB.yes HK.out HPY.out
end Go.Proofs.YtcidfldeiklcjaaGreatDoor
