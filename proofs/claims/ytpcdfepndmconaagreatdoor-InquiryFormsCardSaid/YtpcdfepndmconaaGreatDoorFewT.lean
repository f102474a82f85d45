/- The documents' bounds on tasks: FewTask. -/
import Derived.Test.YtpcdfepndmconaaGreatDoorSameS
import Derived.Test.YtpcdfepndmconaaGreatDoorSameT
namespace Go.Proofs.YtpcdfepndmconaaGreatDoor
open Go.RowKit Tape

def FewP (p : Pss) : Prop := p.name.length ≤ 30 ∧ p.attrs.length ≤ 7 ∧ p.guests.length ≤ 9 ∧ ∀ a ∈ p.attrs, a.length ≤ 30
structure FewT (t : Tsk) : Prop where
  q : t.question.length ≤ 400
  lp : t.passes.length ≤ 5
  ps : ∀ p ∈ t.passes, FewP p
  rv : t.revoked.length ≤ 17
structure TskS (w : World) (pa va : Value) (t : Tsk) : Prop where
  ps : RowOf PssR 4 w pa t.passes
  rv : Row w 1 va t.revoked.length (ints t.revoked)
theorem TskS.kept {w w' : World} {pa va : Value} {t : Tsk} (h : TskS w pa va t) (k : Kept [] w w') : TskS w' pa va t := ⟨RowOf.kept h.ps (fun _ _ x => PssR.kept x k) k, h.rv.kept k⟩
def tskV (pa va : Value) (t : Tsk) : Value := .agg #[.int .i64 t.version, .string ⟨t.question.toArray⟩, pa, .int .i64 t.most, va, .int .i64 t.dare, .int .i64 t.quorum, .int .i64 t.jurors]

set_option maxRecDepth 100000 in
set_option maxHeartbeats 8000000 in
theorem fewTask_any (t : Tsk) (pa va : Value) (w : World) (h : TskS w pa va t) (hq : t.question.length ≤ 9223372036854775807) (hs : ∀ p ∈ t.passes, p.name.length ≤ 9223372036854775807 ∧ ∀ a ∈ p.attrs, a.length ≤ 9223372036854775807) :
    Calls Tryz.prog 7 #[.agg #[.int .i64 t.version, .string ⟨t.question.toArray⟩, pa, .int .i64 t.most, va, .int .i64 t.dare, .int .i64 t.quorum, .int .i64 t.jurors]] w (FewRet (FewT t) w) := by
  obtain ⟨hp, hr⟩ := h
  obtain ⟨pp, pc, rfl, lp, _⟩ := hp.form
  obtain ⟨vp, vc, rfl, lr, _⟩ := hr.form
  obtain ⟨W, hW⟩ : ∃ W, w.alloc (.cells #[.int .i64 t.version, .string ⟨t.question.toArray⟩, .slice pp t.passes.length pc, .int .i64 t.most, .slice vp t.revoked.length vc, .int .i64 t.dare, .int .i64 t.quorum, .int .i64 t.jurors] 30) = W := ⟨_, rfl⟩
  have hb : Blk W w.heap.size 30 #[.int .i64 t.version, .string ⟨t.question.toArray⟩, .slice pp t.passes.length pc, .int .i64 t.most, .slice vp t.revoked.length vc, .int .i64 t.dare, .int .i64 t.quorum, .int .i64 t.jurors] := hW ▸ Blk.new _ _ _
  have hkW : Kept [] w W := hW ▸ (Kept.refl _ _).alloc _
  have c1 : W.cell? ⟨w.heap.size, 1, none⟩ = some (.string ⟨t.question.toArray⟩) := hb.cell 1
  have c2 : W.cell? ⟨w.heap.size, 2, none⟩ = some (.slice pp t.passes.length pc) := hb.cell 2
  have c3 : W.cell? ⟨w.heap.size, 3, none⟩ = some (.int .i64 t.most) := hb.cell 3
  have c4 : W.cell? ⟨w.heap.size, 4, none⟩ = some (.slice vp t.revoked.length vc) := hb.cell 4
  have HP := Lib.hid (RowOf.kept hp (fun _ _ x => PssR.kept x hkW) hkW)
  have HS := Lib.hid hs
  have HW := Lib.hid hW
  have HK := Lib.hid hkW
  clear hb hW hkW hp hr hs
  go_enter Tryz.func7, Tryz.ntmps7
  go_upto_region 1 with (fail)
  rw [HW.out]
  go_wp2_with fail
  go_loop [3, 4] (fun i _ => ∃ k : Nat, k ≤ t.passes.length ∧ k ≤ 6 ∧ i = .int .i64 k ∧ ∀ j (h : j < t.passes.length), j < k → FewP t.passes[j]) (fun i _ => t.passes.length - (intOf i).toNat)
  case atStart => exact ⟨0, Nat.zero_le _, by omega, rfl, fun j _ h => by omega⟩
  case round =>
    obtain ⟨k, hk, hkn, rfl, hall⟩ := hrel
    have HA := Lib.hid hall
    clear hall
    by_cases hlt : k < t.passes.length
    · by_cases h6 : k < 6
      · obtain ⟨b, off, cs, rfl, ⟨v, u, rfl, hv, hu⟩, hce⟩ := HP.out.atk k hlt
        have hlen := HS.out t.passes[k] (List.getElem_mem hlt)
        have HT : Hid (FewP t.passes[k] → ∀ j (h : j < t.passes.length), j < k + 1 → FewP t.passes[j]) := fun hp => all_succ (P := FewP) hlt HA.out hp
        obtain ⟨p, hp⟩ : ∃ p, t.passes[k] = p := ⟨_, rfl⟩
        rw [hp] at hv hu hce hlen HT
        obtain ⟨av, ac, rfl, lv, _⟩ := hv.form
        obtain ⟨au, cu, rfl, lu, _⟩ := hu.form
        have x0 : W.cell? ⟨b, off + k * 4, none⟩ = some (.string ⟨p.name.toArray⟩) := hce 0 _ (by omega) rfl
        have x2 : W.cell? ⟨b, off + k * 4 + 2, none⟩ = some (.slice av p.attrs.length ac) := hce 2 _ (by omega) rfl
        have x3 : W.cell? ⟨b, off + k * 4 + 3, none⟩ = some (.slice au p.guests.length cu) := hce 3 _ (by omega) rfl
        obtain ⟨hl0, hl1⟩ := hlen
        have HL1 := Lib.hid hl1
        have HV := Lib.hid hv
        clear hce hp hv hu hl1
        by_cases h1 : p.name.length ≤ 30
        · by_cases h2 : p.attrs.length ≤ 7
          · by_cases h3 : p.guests.length ≤ 9
            · go_wp2_with fail
              go_loop [4] (fun i => ∃ m : Nat, m ≤ p.attrs.length ∧ i = .int .i64 m ∧ ∀ j (h : j < p.attrs.length), j < m → p.attrs[j].length ≤ 30) (fun i => p.attrs.length - (intOf i).toNat)
              case atStart => exact ⟨0, Nat.zero_le _, rfl, fun j _ h => by omega⟩
              case round =>
                obtain ⟨m, hm, rfl, hallm⟩ := hrel
                have HM := Lib.hid hallm
                clear hallm
                by_cases hmt : m < p.attrs.length
                · obtain ⟨b2, o2, rfl, hc2⟩ := HV.out.at_ (by omega)
                  have y0 := hc2 m _ (strs_get hmt)
                  have hla := HL1.out p.attrs[m] (List.getElem_mem hmt)
                  have HT2 : Hid (p.attrs[m].length ≤ 30 → ∀ j (h : j < p.attrs.length), j < m + 1 → p.attrs[j].length ≤ 30) := fun hp => all_succ (P := fun x : List UInt8 => x.length ≤ 30) hmt HM.out hp
                  obtain ⟨s, hs⟩ : ∃ s, p.attrs[m] = s := ⟨_, rfl⟩
                  rw [hs] at y0 hla HT2
                  clear hc2 hs
                  by_cases h4 : s.length ≤ 30
                  · have HT3 := Lib.hid (HT2.out h4)
                    go_wp2_with fail
                    go_round
                    case rel => exact ⟨m + 1, by omega, by go_num, HT3.out⟩
                    case measure => simp [intOf]; omega
                  · go_wp2_with fail
                    go_ret
                    exact ⟨false, rfl, by simp, HK.out⟩
                · obtain rfl : m = p.attrs.length := by omega
                  have HT3 := Lib.hid (HT.out ⟨h1, h2, h3, all_mem (P := fun x : List UInt8 => x.length ≤ 30) HM.out⟩)
                  go_wp2_with fail
                  go_round
                  case rel => exact ⟨k + 1, by omega, by omega, by go_num, HT3.out⟩
                  case measure => simp [intOf]; omega
            · go_wp2_with fail
              go_ret
              exact ⟨false, rfl, by simp, HK.out⟩
          · go_wp2_with fail
            go_ret
            exact ⟨false, rfl, by simp, HK.out⟩
        · go_wp2_with fail
          go_ret
          exact ⟨false, rfl, by simp, HK.out⟩
      · have h5 : ¬ t.passes.length ≤ 5 := by omega
        go_wp2_with fail
        all_goals
          go_ret
          (refine ⟨_, rfl, fun h => ?_, HK.out⟩; exfalso; first | (simp at h; done) | (simp at h; omega))
    · obtain rfl : k = t.passes.length := by omega
      obtain ⟨R, hR⟩ : ∃ R, t.revoked.length = R := ⟨_, rfl⟩
      have HR := Lib.hid hR
      rw [hR] at c4 lr
      clear hR
      by_cases hq4 : t.question.length ≤ 400
      · by_cases h5 : t.passes.length ≤ 5
        · by_cases h6 : R ≤ 5 ∨ R = 17
          · have HF : Hid (FewT t) := ⟨hq4, h5, all_mem (P := FewP) HA.out, by rw [HR.out]; omega⟩
            rcases h6 with h6 | h6
            · go_wp2_with fail
              all_goals
                go_ret
                exact ⟨_, rfl, fun _ => HF.out, HK.out⟩
            · subst h6
              go_wp2_with fail
              all_goals
                go_ret
                exact ⟨_, rfl, fun _ => HF.out, HK.out⟩
          · have h7 : ¬ R ≤ 5 := fun h => h6 (Or.inl h)
            have h8 : ¬ R = 17 := fun h => h6 (Or.inr h)
            clear h6
            go_wp2_with fail
            all_goals
              go_ret
              (refine ⟨_, rfl, fun h => ?_, HK.out⟩; exfalso; first | (simp at h; done) | (simp at h; omega))
        · go_wp2_with fail
          all_goals
            go_ret
            (refine ⟨_, rfl, fun h => ?_, HK.out⟩; exfalso; first | (simp at h; done) | (simp at h; omega))
      · go_wp2_with fail
        all_goals
          go_ret
          (refine ⟨_, rfl, fun h => ?_, HK.out⟩; exfalso; first | (simp at h; done) | (simp at h; omega))
end Go.Proofs.YtpcdfepndmconaaGreatDoor
