/- The documents' bounds on records: FewRecord. -/
import Derived.Test.YtabiklpemoijcaaGreatDoorFewS
import Derived.Test.YtabiklpemoijcaaGreatDoorSameT
namespace Go.Proofs.YtabiklpemoijcaaGreatDoor
open Go.RowKit Tape

set_option maxRecDepth 100000 in
set_option maxHeartbeats 8000000 in
theorem fewRecord_any (v : Value) (r : Rec) (w : World) (h : RecV w v r) (hs : ∀ l ∈ r.links, ∀ x ∈ l, x.2.length ≤ 9223372036854775807) :
    Calls Tryz.prog 41 #[v] w (FewRet (FewB r) w) := by
  obtain ⟨_, _, _, _, _, _, _, _, _, rfl, htk, hsp, hlk, hcm, hch, hbt, hes, hda, han⟩ := h
  obtain ⟨s0, d0, rfl, l0, _⟩ := htk.form
  obtain ⟨s1, d1, rfl, l1, _⟩ := hsp.form
  obtain ⟨s2, d2, rfl, l2, _⟩ := hlk.form
  obtain ⟨s3, d3, rfl, l3, _⟩ := hcm.form
  obtain ⟨s4, d4, rfl, l4, _⟩ := hch.form
  obtain ⟨s5, d5, rfl, l5, _⟩ := hbt.form
  obtain ⟨s6, d6, rfl, l6, _⟩ := hes.form
  obtain ⟨s7, d7, rfl, l7, _⟩ := hda.form
  obtain ⟨s8, d8, rfl, l8, _⟩ := han.form
  obtain ⟨W, hW⟩ : ∃ W, w.alloc (.cells #[.slice s0 r.tickets.length d0, .slice s1 r.spends.length d1, .slice s2 r.links.length d2, .slice s3 r.commits.length d3, .slice s4 r.chain.length d4, .slice s5 r.bits.length d5, .slice s6 r.escrow.length d6, .slice s7 r.proof.dares.length d7, .slice s8 r.proof.answers.length d8] 88) = W := ⟨_, rfl⟩
  have b1 : Blk W w.heap.size 88 #[.slice s0 r.tickets.length d0, .slice s1 r.spends.length d1, .slice s2 r.links.length d2, .slice s3 r.commits.length d3, .slice s4 r.chain.length d4, .slice s5 r.bits.length d5, .slice s6 r.escrow.length d6, .slice s7 r.proof.dares.length d7, .slice s8 r.proof.answers.length d8] := hW ▸ Blk.new _ _ _
  have hkW : Kept [] w W := hW ▸ (Kept.refl _ _).alloc _
  have KA0 : Hid (∀ w', Kept [] W w' → w'.cell? ⟨w.heap.size, 0, none⟩ = some (.slice s0 r.tickets.length d0)) := Kept.cellOf (b1.cell 0)
  have KA1 : Hid (∀ w', Kept [] W w' → w'.cell? ⟨w.heap.size, 1, none⟩ = some (.slice s1 r.spends.length d1)) := Kept.cellOf (b1.cell 1)
  have KA2 : Hid (∀ w', Kept [] W w' → w'.cell? ⟨w.heap.size, 2, none⟩ = some (.slice s2 r.links.length d2)) := Kept.cellOf (b1.cell 2)
  have KA3 : Hid (∀ w', Kept [] W w' → w'.cell? ⟨w.heap.size, 3, none⟩ = some (.slice s3 r.commits.length d3)) := Kept.cellOf (b1.cell 3)
  have KA4 : Hid (∀ w', Kept [] W w' → w'.cell? ⟨w.heap.size, 4, none⟩ = some (.slice s4 r.chain.length d4)) := Kept.cellOf (b1.cell 4)
  have KA5 : Hid (∀ w', Kept [] W w' → w'.cell? ⟨w.heap.size, 5, none⟩ = some (.slice s5 r.bits.length d5)) := Kept.cellOf (b1.cell 5)
  have KA6 : Hid (∀ w', Kept [] W w' → w'.cell? ⟨w.heap.size, 6, none⟩ = some (.slice s6 r.escrow.length d6)) := Kept.cellOf (b1.cell 6)
  have KA7 : Hid (∀ w', Kept [] W w' → w'.cell? ⟨w.heap.size, 7, none⟩ = some (.slice s7 r.proof.dares.length d7)) := Kept.cellOf (b1.cell 7)
  have KA8 : Hid (∀ w', Kept [] W w' → w'.cell? ⟨w.heap.size, 8, none⟩ = some (.slice s8 r.proof.answers.length d8)) := Kept.cellOf (b1.cell 8)
  have HA1 : Hid (RowOf SpndR 2 W (.slice s1 r.spends.length d1) r.spends) := RowOf.kept hsp (fun _ _ x => SpndR.kept x hkW) hkW
  have HA2 : Hid (RowOf LnksR 1 W (.slice s2 r.links.length d2) r.links) := RowOf.kept hlk (fun _ _ x => LnksR.kept x hkW) hkW
  have HA5 : Hid (RowOf ListR 1 W (.slice s5 r.bits.length d5) r.bits) := RowOf.kept hbt (fun _ _ x => ListR.kept x hkW) hkW
  have HA7 : Hid (RowOf ListR 1 W (.slice s7 r.proof.dares.length d7) r.proof.dares) := RowOf.kept hda (fun _ _ x => ListR.kept x hkW) hkW
  have HA8 : Hid (RowOf ListsR 1 W (.slice s8 r.proof.answers.length d8) r.proof.answers) := RowOf.kept han (fun _ _ x => ListsR.kept x hkW) hkW
  have HS := Lib.hid hs
  have HW := Lib.hid hW
  have HK := Lib.hid hkW
  clear b1 hW hs hkW htk hsp hlk hcm hch hbt hes hda han
  go_enter Tryz.func41, Tryz.ntmps41
  go_upto_region 2 with (fail)
  rw [HW.out]
  go_loop [3] (fun i => ∃ k : Nat, k ≤ r.spends.length ∧ k ≤ 7 ∧ i = .int .i64 k ∧ ∀ j (h : j < r.spends.length), j < k → r.spends[j].2.length ≤ 9) (fun i => r.spends.length - (intOf i).toNat)
  case atStart => exact ⟨0, Nat.zero_le _, by omega, rfl, fun j _ h => by omega⟩
  case round =>
    obtain ⟨k, hk, hkn, rfl, hall⟩ := hrel
    have HA := Lib.hid hall
    clear hall
    have a1 := KA1.out W (Kept.refl _ _)
    by_cases hlt : k < r.spends.length
    · by_cases h18 : k < 7
      · obtain ⟨b, off, cs, rfl, ⟨u, rfl, hu⟩, hce⟩ := HA1.out.atk k hlt
        have HT : Hid (r.spends[k].2.length ≤ 9 → ∀ j (h : j < r.spends.length), j < k + 1 → r.spends[j].2.length ≤ 9) := fun hp => all_succ (P := fun x : Spnd => x.2.length ≤ 9) hlt HA.out hp
        obtain ⟨x, hx⟩ : ∃ x, r.spends[k] = x := ⟨_, rfl⟩
        rw [hx] at hu hce HT
        obtain ⟨dare, ans⟩ := x
        replace hu : Row W 1 u ans.length (ints ans) := hu
        obtain ⟨a2, c2, rfl, hl2, _⟩ := hu.form
        have x1 := hce 1 _ (by omega) rfl
        replace HT : Hid (ans.length ≤ 9 → ∀ j (h : j < r.spends.length), j < k + 1 → r.spends[j].2.length ≤ 9) := HT
        clear hce hu hx
        by_cases h2 : ans.length ≤ 9
        · have HT2 := Lib.hid (HT.out h2)
          go_wp2_with fail
          go_round
          case rel => exact ⟨k + 1, by omega, by omega, by go_num, HT2.out⟩
          case measure => simp [intOf]; omega
        · go_wp2_with fail
          go_ret
          exact ⟨false, rfl, by simp, HK.out⟩
      · have h7 : ¬ r.spends.length ≤ 6 := by omega
        have a2 := KA2.out W (Kept.refl _ _)
        go_wp2_with fail
        clear a1 a2
        go_loopw [4] (fun i wr => ∃ k : Nat, k ≤ r.links.length ∧ k ≤ 7 ∧ i = .int .i64 k ∧ (∀ j (h : j < r.links.length), j < k → FewLk r.links[j]) ∧ Kept [] W wr) (fun i _ => r.links.length - (intOf i).toNat)
        case atStart => exact ⟨0, Nat.zero_le _, by omega, rfl, fun j _ h => by omega, Kept.refl _ _⟩
        case round =>
          obtain ⟨k, hk, hkn, rfl, hall, hkr⟩ := hrel
          have HA := Lib.hid hall
          clear hall
          have a2 := KA2.out wr hkr
          by_cases hlt : k < r.links.length
          · by_cases h18 : k < 7
            · obtain ⟨b, off, u, rfl, xx, v1, e1, hv⟩ := HA2.out.one k hlt
              injection e1 with e1
              subst e1
              have x1 := Kept.cellOf xx wr hkr
              have HL := Lib.hid (fewLinks_any u r.links[k] wr (RowOf.kept hv (fun _ _ y => LnkR.kept y hkr) hkr) (HS.out _ (List.getElem_mem hlt)))
              have HT : Hid (FewLk r.links[k] → ∀ j (h : j < r.links.length), j < k + 1 → FewLk r.links[j]) := fun hp => all_succ (P := FewLk) hlt HA.out hp
              clear hv xx
              go_wp2_with (go_at_call 102; refine HL.out.mono ?_)
              rintro e w1 ⟨bb, rfl, hbb, hk1⟩
              cases bb
              · go_wp2_with fail
                go_ret
                exact ⟨false, rfl, by simp, HK.out.trans (hkr.trans hk1)⟩
              · have HT2 := Lib.hid (HT.out (hbb rfl))
                clear hbb a2 x1
                go_wp2_with fail
                go_roundw
                case rel => exact ⟨k + 1, by omega, by omega, by go_num, HT2.out, hkr.trans hk1⟩
                case measure => simp [intOf]; omega
            · clear a2
              have a0 := KA0.out wr hkr
              have a1 := KA1.out wr hkr
              have a2 := KA2.out wr hkr
              have a3 := KA3.out wr hkr
              have a4 := KA4.out wr hkr
              have a5 := KA5.out wr hkr
              have a6 := KA6.out wr hkr
              have a7 := KA7.out wr hkr
              have a8 := KA8.out wr hkr
              by_cases g0 : r.tickets.length ≤ 6
              · have g1 : ¬ r.spends.length ≤ 6 := by omega
                go_wp2_with fail
                go_ret
                exact ⟨false, rfl, by simp, HK.out.trans hkr⟩
              · go_wp2_with fail
                go_ret
                exact ⟨false, rfl, by simp, HK.out.trans hkr⟩
          · obtain rfl : k = r.links.length := by omega
            have SLK : Hid (r.links.length ≤ 6 → ∀ l ∈ r.links, FewLk l) := fun _ => all_mem (P := FewLk) HA.out
            clear HA a2
            have a0 := KA0.out wr hkr
            have a1 := KA1.out wr hkr
            have a2 := KA2.out wr hkr
            have a3 := KA3.out wr hkr
            have a4 := KA4.out wr hkr
            have a5 := KA5.out wr hkr
            have a6 := KA6.out wr hkr
            have a7 := KA7.out wr hkr
            have a8 := KA8.out wr hkr
            by_cases g0 : r.tickets.length ≤ 6
            · have g1 : ¬ r.spends.length ≤ 6 := by omega
              go_wp2_with fail
              go_ret
              exact ⟨false, rfl, by simp, HK.out.trans hkr⟩
            · go_wp2_with fail
              go_ret
              exact ⟨false, rfl, by simp, HK.out.trans hkr⟩
    · obtain rfl : k = r.spends.length := by omega
      have SPA : Hid (r.spends.length ≤ 6 → ∀ x ∈ r.spends, x.2.length ≤ 9) := fun _ => all_mem (P := fun x : Spnd => x.2.length ≤ 9) HA.out
      clear HA
      have a2 := KA2.out W (Kept.refl _ _)
      go_wp2_with fail
      clear a1 a2
      go_loopw [4] (fun i wr => ∃ k : Nat, k ≤ r.links.length ∧ k ≤ 7 ∧ i = .int .i64 k ∧ (∀ j (h : j < r.links.length), j < k → FewLk r.links[j]) ∧ Kept [] W wr) (fun i _ => r.links.length - (intOf i).toNat)
      case atStart => exact ⟨0, Nat.zero_le _, by omega, rfl, fun j _ h => by omega, Kept.refl _ _⟩
      case round =>
        obtain ⟨k, hk, hkn, rfl, hall, hkr⟩ := hrel
        have HA := Lib.hid hall
        clear hall
        have a2 := KA2.out wr hkr
        by_cases hlt : k < r.links.length
        · by_cases h18 : k < 7
          · obtain ⟨b, off, u, rfl, xx, v1, e1, hv⟩ := HA2.out.one k hlt
            injection e1 with e1
            subst e1
            have x1 := Kept.cellOf xx wr hkr
            have HL := Lib.hid (fewLinks_any u r.links[k] wr (RowOf.kept hv (fun _ _ y => LnkR.kept y hkr) hkr) (HS.out _ (List.getElem_mem hlt)))
            have HT : Hid (FewLk r.links[k] → ∀ j (h : j < r.links.length), j < k + 1 → FewLk r.links[j]) := fun hp => all_succ (P := FewLk) hlt HA.out hp
            clear hv xx
            go_wp2_with (go_at_call 102; refine HL.out.mono ?_)
            rintro e w1 ⟨bb, rfl, hbb, hk1⟩
            cases bb
            · go_wp2_with fail
              go_ret
              exact ⟨false, rfl, by simp, HK.out.trans (hkr.trans hk1)⟩
            · have HT2 := Lib.hid (HT.out (hbb rfl))
              clear hbb a2 x1
              go_wp2_with fail
              go_roundw
              case rel => exact ⟨k + 1, by omega, by omega, by go_num, HT2.out, hkr.trans hk1⟩
              case measure => simp [intOf]; omega
          · clear a2
            have a0 := KA0.out wr hkr
            have a1 := KA1.out wr hkr
            have a2 := KA2.out wr hkr
            have a3 := KA3.out wr hkr
            have a4 := KA4.out wr hkr
            have a5 := KA5.out wr hkr
            have a6 := KA6.out wr hkr
            have a7 := KA7.out wr hkr
            have a8 := KA8.out wr hkr
            by_cases g0 : r.tickets.length ≤ 6
            · by_cases g1 : r.spends.length ≤ 6
              · have g2 : ¬ r.links.length ≤ 6 := by omega
                go_wp2_with fail
                go_ret
                exact ⟨false, rfl, by simp, HK.out.trans hkr⟩
              · go_wp2_with fail
                go_ret
                exact ⟨false, rfl, by simp, HK.out.trans hkr⟩
            · go_wp2_with fail
              go_ret
              exact ⟨false, rfl, by simp, HK.out.trans hkr⟩
        · obtain rfl : k = r.links.length := by omega
          have SLK : Hid (r.links.length ≤ 6 → ∀ l ∈ r.links, FewLk l) := fun _ => all_mem (P := FewLk) HA.out
          clear HA a2
          have a0 := KA0.out wr hkr
          have a1 := KA1.out wr hkr
          have a2 := KA2.out wr hkr
          have a3 := KA3.out wr hkr
          have a4 := KA4.out wr hkr
          have a5 := KA5.out wr hkr
          have a6 := KA6.out wr hkr
          have a7 := KA7.out wr hkr
          have a8 := KA8.out wr hkr
          by_cases g0 : r.tickets.length ≤ 6
          · by_cases g1 : r.spends.length ≤ 6
            · by_cases g2 : r.links.length ≤ 6
              · by_cases g3 : r.commits.length ≤ 25
                · by_cases g4 : r.chain.length ≤ 18
                  · have HB5 : Hid (Calls Tryz.prog 103 #[.slice s5 r.bits.length d5, .int .i64 10, .int .i64 20] wr (FewRet (FewLs r.bits 10 20) wr)) := fewLists_any _ r.bits 10 20 wr (RowOf.kept HA5.out (fun _ _ x => ListR.kept x hkr) hkr) (by omega) (by omega)
                    go_wp2_with (go_at_call 103; refine HB5.out.mono ?_)
                    rintro e y1 ⟨bb5, rfl, hb5, hy1⟩
                    clear a0 a1 a2 a3 a4 a5 a6 a7 a8
                    replace hy1 := hkr.trans hy1
                    cases bb5
                    · go_wp2_with fail
                      go_ret
                      exact ⟨false, rfl, by simp, HK.out.trans hy1⟩
                    · have FB := Lib.hid (hb5 rfl)
                      clear hb5
                      have a6 := KA6.out y1 hy1
                      have a7 := KA7.out y1 hy1
                      by_cases g6 : r.escrow.length ≤ 14
                      · have HB7 : Hid (Calls Tryz.prog 103 #[.slice s7 r.proof.dares.length d7, .int .i64 160, .int .i64 10] y1 (FewRet (FewLs r.proof.dares 160 10) y1)) := fewLists_any _ r.proof.dares 160 10 y1 (RowOf.kept HA7.out (fun _ _ x => ListR.kept x hy1) hy1) (by omega) (by omega)
                        go_wp2_with (go_at_call 103; refine HB7.out.mono ?_)
                        rintro e y2 ⟨bb7, rfl, hb7, hy2⟩
                        clear a6 a7
                        replace hy2 := hy1.trans hy2
                        cases bb7
                        · go_wp2_with fail
                          go_ret
                          exact ⟨false, rfl, by simp, HK.out.trans hy2⟩
                        · have FD := Lib.hid (hb7 rfl)
                          clear hb7
                          have a8 := KA8.out y2 hy2
                          have HB8 := Lib.hid (fewNums_any (.slice s8 r.proof.answers.length d8) r.proof.answers y2 (RowOf.kept HA8.out (fun _ _ x => ListsR.kept x hy2) hy2))
                          go_wp2_with (go_at_call 104; refine HB8.out.mono ?_)
                          rintro e y3 ⟨bb8, rfl, hb8, hy3⟩
                          clear a8
                          replace hy3 := hy2.trans hy3
                          cases bb8
                          · go_wp2_with fail
                            go_ret
                            exact ⟨false, rfl, by simp, HK.out.trans hy3⟩
                          · have FN := Lib.hid (hb8 rfl)
                            clear hb8
                            go_wp2_with fail
                            go_ret
                            exact ⟨true, rfl, fun _ => ⟨g0, g1, SPA.out g1, g2, fun l hl => (SLK.out g2 l hl).1, fun l hl x hx => ((SLK.out g2 l hl).2 x hx).1, fun l hl x hx => ((SLK.out g2 l hl).2 x hx).2, g3, g4, FB.out.1, FB.out.2, g6, FD.out.1, FD.out.2, FN.out.1, fun l hl => (FN.out.2 l hl).1, fun l hl x hx => (FN.out.2 l hl).2 x hx⟩, HK.out.trans hy3⟩
                      · go_wp2_with fail
                        go_ret
                        exact ⟨false, rfl, by simp, HK.out.trans hy1⟩
                  · go_wp2_with fail
                    go_ret
                    exact ⟨false, rfl, by simp, HK.out.trans hkr⟩
                · go_wp2_with fail
                  go_ret
                  exact ⟨false, rfl, by simp, HK.out.trans hkr⟩
              · go_wp2_with fail
                go_ret
                exact ⟨false, rfl, by simp, HK.out.trans hkr⟩
            · go_wp2_with fail
              go_ret
              exact ⟨false, rfl, by simp, HK.out.trans hkr⟩
          · go_wp2_with fail
            go_ret
            exact ⟨false, rfl, by simp, HK.out.trans hkr⟩
end Go.Proofs.YtabiklpemoijcaaGreatDoor
