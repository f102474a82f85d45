/- A proof is read: proof.Decode. -/
import Derived.Test.YtcidfldeiklcjaaGreatDoorDeS
import Derived.Test.YtcidfldeiklcjaaGreatDoorFewT
import Derived.Outline
namespace Go.Proofs.YtcidfldeiklcjaaGreatDoor
open Go.RowKit Tape

/-- what proof.Decode gives -/
def PfDP (q : Pf × Bool) (w : World) (e : Ending) (w' : World) : Prop :=
  ∃ a1 c1 a2 c2, e = .returned (.tuple #[.agg #[.slice a1 q.1.dares.length c1, .slice a2 q.1.answers.length c2], .bool q.2]) ∧ Stable (List.range w.heap.size) (fun w => RowOf ListR 1 w (.slice a1 q.1.dares.length c1) q.1.dares) w' ∧ Stable (List.range w.heap.size) (fun w => RowOf ListsR 1 w (.slice a2 q.1.answers.length c2) q.1.answers) w' ∧ Kept [] w w'

theorem readPf_eq {s : List UInt8} {ns : List Int} {rd : Wire.Rd} (h : Wire.nums ⟨s, false⟩ = (ns, rd)) :
    readPf s = if done rd && ended (many clause ⟨ns, false⟩).2 then (⟨(many clause ⟨ns, false⟩).1.map (List.map Prod.fst), (many clause ⟨ns, false⟩).1.map (List.map Prod.snd)⟩, true) else (⟨[], []⟩, false) := by
  unfold readPf
  rw [h]

/-- what the reader's Nums gives -/
def NumsP (b : Nat) (l : List Int) (rd : Wire.Rd) (w : World) (e : Ending) (w' : World) : Prop := ∃ a c, e = .returned (.slice a l.length c) ∧ w'.ownsRow w.heap.size 3 1 (.slice a l.length c) l.length (ints l) ∧ RdAt w' b rd ∧ Kept [b] w w'
theorem rd_numsP {l : List Int} {r' : Wire.Rd} (b : Nat) (r : Wire.Rd) (hq : Wire.nums r = (l, r')) (w : World) (h : RdAt w b r) (hE : Env w) (hs : Fits r) :
    Calls Tryz.prog 125 #[.pointer (some ⟨b, 0, none⟩)] w (NumsP b l r' w) :=
  (rd_nums' b r hq w h hE hs).mono fun e w' ⟨v, h1, h2, h3, h4⟩ => by
    obtain ⟨a, c, rfl⟩ := own_len h2 (by decide)
    exact ⟨a, c, h1, h2, h3, h4⟩

/-- the rounds of a clause: at their head -/
def InRel (wr : World) (b g : Nat) (X : List Nat) (fin : List (Int × List Int) × Tp) (N : Nat) (vd va vi : Value) (w2 : World) : Prop :=
  ∃ (m : Nat) (r : Tp) (acc : List (Int × List Int)) (ad aa : Option Addr) (n cd n' ca : Nat), vd = .slice ad n cd ∧ va = .slice aa n' ca ∧ vi = .int .i64 acc.length ∧ acc.length + m = N ∧ times spnd m r acc = fin ∧ r.left.length ≤ 100000001 ∧ PfI wr w2 b g X ad n cd aa n' ca (acc.map Prod.fst) (acc.map Prod.snd) r

def OutRel (w : World) (b g po B : Nat) (fin : List (List (Int × List Int)) × Tp) (N : Nat) (vi : Value) (wr : World) : Prop :=
  ∃ (m : Nat) (r : Tp) (acc : List (List (Int × List Int))) (X : List Nat) (a1 a2 : Option Addr) (n1 c1 n2 c2 : Nat), vi = .int .i64 acc.length ∧ acc.length + m = N ∧ times clause m r acc = fin ∧ r.left.length ≤ 100000001 ∧ PfO w wr b g po B X a1 n1 c1 a2 n2 c2 (acc.map (List.map Prod.fst)) (acc.map (List.map Prod.snd)) r

theorem OutRel.next {w wf : World} {b g po B N m : Nat} {fin : List (List (Int × List Int)) × Tp} {acc : List (List (Int × List Int))} {x : List (Int × List Int)} {a1 a2 : Option Addr} {n1 c1 n2 c2 : Nat} {r : Tp}
    (h : ∃ X', PfO w wf b g po B X' a1 n1 c1 a2 n2 c2 (acc.map (List.map Prod.fst) ++ [x.map Prod.fst]) (acc.map (List.map Prod.snd) ++ [x.map Prod.snd]) r) (hN : acc.length + (m + 1) = N) (hf : times clause m r (acc ++ [x]) = fin) (hr : r.left.length ≤ 100000001) :
    OutRel w b g po B fin N (.int .i64 ((acc.length : Int) + 1)) wf := by
  obtain ⟨X', O⟩ := h
  exact ⟨m, r, acc ++ [x], X', a1, a2, n1, c1, n2, c2, by simp, by simp; omega, hf, hr, by rw [List.map_append, List.map_append]; exact O⟩

set_option maxRecDepth 100000 in
set_option maxHeartbeats 8000000 in
theorem pfDec_any (s : List UInt8) (w : World) (hE : Env w) (hs : s.length ≤ 100000000) :
    Calls Tryz.prog 133 #[.string ⟨s.toArray⟩] w (PfDP (readPf s) w) := by
  obtain ⟨ns, rd, hns⟩ : ∃ ns rd, Wire.nums ⟨s, false⟩ = (ns, rd) := ⟨_, _, rfl⟩
  have hnl : ns.length ≤ 100000001 := by have := nums_len ⟨s, false⟩ hs; rw [hns] at this; exact this
  have HEQ := Lib.hid (readPf_eq hns)
  obtain ⟨W, hW⟩ : ∃ W, w.alloc (.cells #[.slice none 0 0, .slice none 0 0] 133) = W := ⟨_, rfl⟩
  have hbW : Blk W w.heap.size 133 #[.slice none 0 0, .slice none 0 0] := hW ▸ Blk.new _ _ _
  have hkW : Kept [] w W := hW ▸ (Kept.refl _ _).alloc _
  have hWs : W.heap.size = w.heap.size + 1 := by rw [← hW]; simp
  have HWs := Lib.hid hWs
  have hw0 : 0 < w.heap.size := by have := hE.size; have : 0 < NG := (by decide); omega
  have hwW : w.heap.size < W.heap.size := by omega
  have HEW := Lib.hid (hE.kept0 hkW)
  have HO := Lib.hid (rd_open s W HEW.out)
  have HW := Lib.hid hW
  have HNS := Lib.hid hns
  clear hns hW hE hWs
  go_enter Tryz.func133, Tryz.ntmps133
  go_upto_region 1 with (fail)
  rw [HW.out]
  go_wp2_with (go_at_call 124; refine HO.out.mono ?_)
  first | rintro e w1 rfl h1 k1 | rintro e w1 ⟨rfl, h1, k1⟩
  have HN := Lib.hid (rd_numsP W.heap.size ⟨s, false⟩ HNS.out w1 h1 (HEW.out.kept0 k1) hs)
  have K1 := Lib.hid (hkW.trans k1)
  have hs1 := k1.size
  have h1l := h1.2.lt
  have B1 := Lib.hid (hbW.kept k1 (by simp))
  clear h1 k1 HO hbW HEW HNS
  go_upto_region 2 with (fail)
  go_wp2_with (go_at_call 125; refine HN.out.mono ?_)
  rintro e w2 ⟨av, cv, rfl, own, h2, k2⟩
  have K2 := Lib.hid (K1.out.fresh k2 (fun z hz => by rw [List.mem_singleton] at hz; omega))
  have B2 := Lib.hid (B1.out.kept k2 (by simp; omega))
  obtain ⟨g, hsrc, hg⟩ := Src.of_own own (by omega)
  have hs2 := k2.size
  have H2 := Lib.hid h2
  have HS2 := Lib.hid hsrc
  have HOWN := Lib.hid own
  have hg2 : g = 0 ∨ w1.heap.size ≤ g ∧ g < w2.heap.size := hg
  clear h2 hsrc own k2 hg HN
  go_upto_region 3 with (fail)
  obtain ⟨w3, hw3⟩ : ∃ w3, w2.alloc (.cells #[.slice av ns.length cv, .bool false] 210) = w3 := ⟨_, rfl⟩
  have k23 : Kept [] w2 w3 := hw3 ▸ (Kept.refl _ _).alloc _
  have hs3 : Hid (w3.heap.size = w2.heap.size + 1) := by show _ = _; rw [← hw3]; simp
  have T3 : Hid (TpAt 210 w3 w2.heap.size g ⟨ns, false⟩) := ⟨⟨av, cv, hw3 ▸ Blk.new _ _ _, HS2.out.keep k23 (by simp)⟩, by omega⟩
  have K3 := Lib.hid (K2.out.trans k23)
  have B3 := Lib.hid (B2.out.kept k23 (by simp))
  have HD := Lib.hid (rd_done W.heap.size rd w3 ⟨H2.out.1, H2.out.2.kept k23 (by simp)⟩)
  rw [hw3]
  obtain ⟨b, hb⟩ : ∃ b, w2.heap.size = b := ⟨_, rfl⟩
  rw [hb] at hs3 T3 hg2 hs2 ⊢
  clear hw3 B1 B2 K2 k23 H2 HS2 HOWN hb
  obtain ⟨dn, hdn⟩ : ∃ dn, (!rd.bad && rd.rest.isEmpty) = dn := ⟨_, rfl⟩
  have hdd : Hid (done rd = dn) := hdn
  rw [hdn] at HD
  clear hdn
  cases dn
  · have HR : Hid (readPf s = (⟨[], []⟩, false)) := by show _ = _; rw [HEQ.out, hdd.out]; rfl
    clear HEQ hdd
    go_upto_region 4 with (go_at_call 131; refine HD.out.mono ?_; rintro e w4 ⟨rfl, k4⟩)
    have B4 := B3.out.kept k4 (by simp)
    have z0 : w4.cell? ⟨w.heap.size, 0, none⟩ = some (.slice none 0 0) := B4.cell 0
    have z1 : w4.cell? ⟨w.heap.size, 1, none⟩ = some (.slice none 0 0) := B4.cell 1
    have y0 := B4.frozen 0
    have y1 := B4.frozen 1
    clear B4
    go_wp2_with fail
    refine bodyPost_ret (v := .tuple #[.agg #[.slice none 0 0, .slice none 0 0], .bool false]) (by simp [results, Tryz.results133, go_sem, z0, z1]) rfl ?_
    rw [HR.out]
    exact ⟨none, 0, none, 0, rfl, fun _ _ _ _ => RowOf.nil_ _ _ _, fun _ _ _ _ => RowOf.nil_ _ _ _, ((K3.out.trans k4).setCell (Or.inr (Nat.le_refl _)) _).setCell (Or.inr (Nat.le_refl _)) _⟩
  · have HR : Hid (readPf s = if ended (many clause ⟨ns, false⟩).2 then (⟨(many clause ⟨ns, false⟩).1.map (List.map Prod.fst), (many clause ⟨ns, false⟩).1.map (List.map Prod.snd)⟩, true) else (⟨[], []⟩, false)) := by show _ = _; rw [HEQ.out, hdd.out]; simp
    clear HEQ hdd
    go_upto_region 5 with (go_at_call 131; refine HD.out.mono ?_; rintro e w4 ⟨rfl, k4⟩)
    have B4 := Lib.hid (B3.out.kept k4 (by simp))
    have K4 := Lib.hid (K3.out.trans k4)
    have T4 := Lib.hid (T3.out.keep k4 (by simp) (by simp))
    have hs4 := k4.size
    have hs34 : b < w4.heap.size := by have := hs3.out; omega
    clear B3 K3 T3 k4 HD hs3 HW HWs h1l
    go_upto_region 6 with (fail)
    obtain ⟨w5, hw5⟩ : ∃ w5, w4.alloc (.cells #[.slice none 0 0, .slice none 0 0] 133) = w5 := ⟨_, rfl⟩
    have k45 : Kept [] w4 w5 := hw5 ▸ (Kept.refl _ _).alloc _
    have hs5 : Hid (w5.heap.size = w4.heap.size + 1) := by show _ = _; rw [← hw5]; simp
    have P5 : Hid (Blk w5 w4.heap.size 133 #[.slice none 0 0, .slice none 0 0]) := hw5 ▸ Blk.new _ _ _
    have B5 := Lib.hid (B4.out.kept k45 (by simp))
    have K5 := Lib.hid (K4.out.trans k45)
    have HC := Lib.hid (prow_count b g ⟨ns, false⟩ w5 (T4.out.keep k45 (by simp) (by simp)))
    have hcl := count_le ⟨ns, false⟩
    have hmany : Hid (many clause ⟨ns, false⟩ = times clause (count ⟨ns, false⟩).1 (count ⟨ns, false⟩).2 []) := rfl
    rw [hw5]
    obtain ⟨po, hpo⟩ : ∃ po, w4.heap.size = po := ⟨_, rfl⟩
    rw [hpo] at hs5 P5 hs4 hs34 ⊢
    have HT4 := T4.out.ne
    clear hw5 B4 K4 T4 k45 hpo
    obtain ⟨N, r0, hr0⟩ : ∃ N r0, count ⟨ns, false⟩ = (N, r0) := ⟨_, _, rfl⟩
    rw [hr0] at HC hcl hmany
    replace hcl : N ≤ r0.left.length ∧ r0.left.length ≤ ns.length := hcl
    clear hr0
    go_wp2_with (go_at_call 176; refine HC.out.mono ?_)
    rintro e w6 ⟨rfl, t6, k6⟩
    have hbpo : b ≠ po := by omega
    have hgpo : g ≠ po := by omega
    have P6 := Lib.hid (P5.out.kept k6 (by simp; omega))
    have B6 := Lib.hid (B5.out.kept k6 (by simp; omega))
    have K6 := Lib.hid (K5.out.fresh k6 (by simp; omega))
    have hs6 := k6.size
    have T6 := Lib.hid t6
    obtain ⟨fin, hfin⟩ : ∃ fin, times clause N r0 [] = fin := ⟨_, rfl⟩
    have hmf : Hid (many clause ⟨ns, false⟩ = fin) := hmany.out.trans hfin
    have HFN := Lib.hid hfin
    have hpo6 : po < w6.heap.size := by have := hs5.out; omega
    obtain ⟨B, hB⟩ : ∃ B, w6.heap.size = B := ⟨_, rfl⟩
    have O6 : Hid (PfO w w6 b g po B (List.range w.heap.size ++ [b, po, w.heap.size]) none 0 0 none 0 0 [] [] r0) :=
      ⟨T6.out, P6.out, rfl, rfl, Grow.nil_ _ _ _ _ _ _, Grow.nil_ _ _ _ _ _ _, by simp [obl, Value.ownBlock], by simp, by simp, fun z hz => by simp at hz; omega, by simp [obl, Value.ownBlock], by simp [obl, Value.ownBlock], by omega, by omega, by omega, by omega, hbpo, hgpo, K6.out, by omega, by omega, by simp, B6.out, fun z hz => by simp; omega⟩
    have hbw : w.heap.size < b := by omega
    clear B6 t6 k6 HC hmany hfin P5 B5 K5 P6 K6 T6 hs5 hB
    go_wp2_with fail
    go_loopw [22] (fun vi wr => OutRel w b g po B fin N vi wr) (fun vi _ => N - (intOf vi).toNat)
    case atStart => exact ⟨N, r0, [], _, _, _, _, _, _, _, rfl, by simp, HFN.out, by omega, O6.out⟩
    case round =>
      obtain ⟨m, r, acc, X, a1, a2, n1, c1, n2, c2, rfl, hN, hf, hrl, hO⟩ := hrel
      have O := Lib.hid hO
      have HF := Lib.hid hf
      have HN := Lib.hid hN
      have haN : acc.length ≤ N := by omega
      clear hO hf O6 HFN
      rcases m with _ | m
      · have e1 : Hid (acc.length = N) := by show _ = _; have := HN.out; omega
        have e2 : Hid (fin = (acc, r)) := by show _ = _; rw [← HF.out]; rfl
        obtain ⟨a, c, hb, hs⟩ := O.out.tp.st
        have hml := hs.2.1
        have c0 : wr.cell? ⟨b, 0, none⟩ = some (.slice a r.left.length c) := hb.cell 0
        have c1' : wr.cell? ⟨b, 1, none⟩ = some (.bool r.bad) := hb.cell 1
        have BW : Hid (Blk wr w.heap.size 133 #[.slice none 0 0, .slice none 0 0]) := O.out.bq
        have z0 : wr.cell? ⟨w.heap.size, 0, none⟩ = some (.slice none 0 0) := BW.out.cell 0
        have z1 : wr.cell? ⟨w.heap.size, 1, none⟩ = some (.slice none 0 0) := BW.out.cell 1
        have y0 := BW.out.frozen 0
        have y1 := BW.out.frozen 1
        rw [e1.out]
        rw [hmf.out, e2.out] at HR
        obtain ⟨L, hL⟩ : ∃ L, r.left.length = L := ⟨_, rfl⟩
        have HL := Lib.hid hL
        rw [hL] at c0 hml
        clear hb hs hL
        have hfail : Hid (ended r = false → PfDP (readPf s) w (.returned (.tuple #[.agg #[.slice none 0 0, .slice none 0 0], .bool false])) ((wr.setCell ⟨w.heap.size, 0, none⟩ (.slice none 0 0)).setCell ⟨w.heap.size, 1, none⟩ (.slice none 0 0))) := fun he => by
          rw [HR.out, if_neg (by rw [he]; simp)]
          exact ⟨none, 0, none, 0, rfl, fun _ _ _ _ => RowOf.nil_ _ _ _, fun _ _ _ _ => RowOf.nil_ _ _ _, (O.out.k0.setCell (Or.inr (Nat.le_refl _)) _).setCell (Or.inr (Nat.le_refl _)) _⟩
        cases hbd : r.bad
        · rw [hbd] at c1'
          by_cases hL0 : L = 0
          · subst hL0
            have p0 := O.out.bp.cell 0
            have p1 := O.out.bp.cell 1
            have he : Hid (ended r = true) := by show _ = _; unfold ended; rw [hbd, List.eq_nil_of_length_eq_zero HL.out]; rfl
            go_wp2_with fail
            have BB : Blk ((wr.setCell ⟨w.heap.size, 0, none⟩ (.slice a1 n1 c1)).setCell ⟨w.heap.size, 1, none⟩ (.slice a2 n2 c2)) w.heap.size 133 #[.slice a1 n1 c1, .slice a2 n2 c2] := by simpa using (BW.out.set_ 0 (.slice a1 n1 c1)).set_ 1 (.slice a2 n2 c2)
            have zz0 := BB.cell 0
            have zz1 := BB.cell 1
            have kk : Kept [w.heap.size] wr ((wr.setCell ⟨w.heap.size, 0, none⟩ (.slice a1 n1 c1)).setCell ⟨w.heap.size, 1, none⟩ (.slice a2 n2 c2)) := ((Kept.refl _ _).setCell (by simp) _).setCell (by simp) _
            have hwB : w.heap.size < B := by have := O.out.wb; have := O.out.lb; omega
            have hq1 := O.out.ge1
            have hq2 := O.out.ge2
            have G1 := O.out.g1.step (X' := X) kk (fun z hz hm => by have := hq1 z hz; rw [List.mem_singleton] at hm; omega) (fun z hz _ => by rw [List.mem_singleton] at hz; subst hz; exact O.out.qX) (fun z hz => Or.inl hz)
            have G2 := O.out.g2.step (X' := X) kk (fun z hz hm => by have := hq2 z hz; rw [List.mem_singleton] at hm; omega) (fun z hz _ => by rw [List.mem_singleton] at hz; subst hz; exact O.out.qX) (fun z hz => Or.inl hz)
            have hn1 := O.out.e1
            have hn2 := O.out.e2
            have hk0 := (O.out.k0.setCell (p := ⟨w.heap.size, 0, none⟩) (Or.inr (Nat.le_refl _)) (.slice a1 n1 c1)).setCell (p := ⟨w.heap.size, 1, none⟩) (Or.inr (Nat.le_refl _)) (.slice a2 n2 c2)
            have hal : (acc.map (List.map Prod.fst)).length ≤ 9223372036854775807 := by rw [List.length_map]; omega
            have hbl : (acc.map (List.map Prod.snd)).length ≤ 9223372036854775807 := by rw [List.length_map]; omega
            refine bodyPost_ret (v := .tuple #[.agg #[.slice a1 n1 c1, .slice a2 n2 c2], .bool true]) (by simp [results, Tryz.results133, go_sem, zz0, zz1]) rfl ?_
            rw [HR.out, if_pos he.out]
            refine ⟨a1, c1, a2, c2, ?_, ?_, ?_, hk0⟩
            · show _ = Ending.returned (.tuple #[.agg #[.slice a1 (acc.map (List.map Prod.fst)).length c1, .slice a2 (acc.map (List.map Prod.snd)).length c2], _])
              rw [← hn1, ← hn2]
            · show Stable _ (fun w => RowOf ListR 1 w (.slice a1 (acc.map (List.map Prod.fst)).length c1) (acc.map (List.map Prod.fst))) _
              rw [← hn1]
              exact G1.done (fun z hz => Or.inl (O.out.rX z (by simpa using hz))) (fun z hz hm => by have := hq1 z hz; simp at hm; omega) hal
            · show Stable _ (fun w => RowOf ListsR 1 w (.slice a2 (acc.map (List.map Prod.snd)).length c2) (acc.map (List.map Prod.snd))) _
              rw [← hn2]
              exact G2.done (fun z hz => Or.inl (O.out.rX z (by simpa using hz))) (fun z hz hm => by have := hq2 z hz; simp at hm; omega) hbl
          · have hF := Lib.hid (hfail.out (by unfold ended; rw [hbd]; cases hl : r.left with | nil => rw [hl] at HL; exact absurd HL.out.symm hL0 | cons _ _ => rfl))
            go_wp2_with fail
            refine bodyPost_ret (v := .tuple #[.agg #[.slice none 0 0, .slice none 0 0], .bool false]) (by simp [results, Tryz.results133, go_sem, z0, z1]) rfl hF.out
        · rw [hbd] at c1'
          have hF := Lib.hid (hfail.out (by unfold ended; rw [hbd]; rfl))
          go_wp2_with fail
          refine bodyPost_ret (v := .tuple #[.agg #[.slice none 0 0, .slice none 0 0], .bool false]) (by simp [results, Tryz.results133, go_sem, z0, z1]) rfl hF.out
      · have hlt : acc.length < N := by have := HN.out; omega
        have HC := Lib.hid (prow_count b g r wr O.out.tp)
        have hcl := count_le r
        have hcs : clause r = times spnd (count r).1 (count r).2 [] := rfl
        obtain ⟨N2, r7, hr7⟩ : ∃ N r0, count r = (N, r0) := ⟨_, _, rfl⟩
        rw [hr7] at HC hcl hcs
        replace hcl : N2 ≤ r7.left.length ∧ r7.left.length ≤ r.left.length := hcl
        obtain ⟨fin2, hfin2⟩ : ∃ fin, times spnd N2 r7 [] = fin := ⟨_, rfl⟩
        have hcf : Hid (clause r = fin2) := hcs.trans hfin2
        have HFN2 := Lib.hid hfin2
        clear hr7 hcs hfin2
        go_wp2_with (go_at_call 176; refine HC.out.mono ?_)
        rintro e w7 ⟨rfl, t7, k7⟩
        have O7 := Lib.hid (O.out.read k7 t7)
        have I7 : Hid (PfI w7 w7 b g X none 0 0 none 0 0 [] [] r7) :=
          ⟨t7, Kept.refl _ _, rfl, rfl, World.ownsRow_nil _ _ _ _, ⟨X, fun _ h => h, O7.out.hX, by simp [obl, Value.ownBlock], by simp [obl, Value.ownBlock], Grow.nil_ _ _ _ _ _ _⟩, by simp [obl, Value.ownBlock], O7.out.bX, by have := O7.out.lb; have := O7.out.le; omega, by have := O7.out.lg; have := O7.out.le; omega⟩
        clear t7 k7 HC O
        go_wp2_with fail
        go_loopw [7, 8, 26] (fun vd va vi w2 => InRel w7 b g X fin2 N2 vd va vi w2) (fun _ _ vi _ => N2 - (intOf vi).toNat)
        case atStart => exact ⟨N2, r7, [], _, _, _, _, _, _, rfl, rfl, rfl, by simp, HFN2.out, by omega, I7.out⟩
        case round =>
          obtain ⟨m2, r2, acc2, ad, aa, n, cd, n', ca, rfl, rfl, rfl, hN2, hf2, hr2, hI⟩ := hrel
          have I := Lib.hid hI
          have HF2 := Lib.hid hf2
          have HN2 := Lib.hid hN2
          have haN2 : acc2.length ≤ N2 := by omega
          clear hI hf2 I7 HFN2
          rcases m2 with _ | m2
          · have e1 : Hid (acc2.length = N2) := by show _ = _; have := HN2.out; omega
            have e2 : Hid (fin2 = (acc2, r2)) := by show _ = _; rw [← HF2.out]; rfl
            have O8 := Lib.hid (O7.out.read I.out.kb I.out.tp)
            have hX7 := O7.out.hX
            have hged := I.out.ged
            have hgea := I.out.gea
            have HD : Hid (Stable X (fun w => ListR w [.slice ad n cd] (acc2.map Prod.fst)) wr) := by
              have h1 := I.out.nd
              have h2 := I.out.od
              rw [h1] at h2 hged ⊢
              exact (Stable.row h2 (fun z hz hm => by have := hged z hz; have := hX7 z hm; omega) (by rw [List.length_map]; omega)).imp fun _ h => ⟨_, rfl, h⟩
            have HC : Hid (Stable X (fun w => ListsR w [.slice aa n' ca] (acc2.map Prod.snd)) wr) := by
              obtain ⟨X2, x1, x2, x3, x4, G⟩ := I.out.ga
              exact (G.done (X' := X) (fun z hz => Or.inl (x1 z hz)) (fun z hz hm => by have := hgea z hz; have := hX7 z hm; omega) (by rw [List.length_map]; omega)).imp fun _ h => ⟨_, rfl, h⟩
            have HNX : Hid (times clause m r2 (acc ++ [acc2]) = fin) := by
              show _ = _
              rw [← HF.out, times_succ, hcf.out, e2.out]
            have q0 : ∀ w', Kept (obl (.slice a1 n1 c1) ++ obl (.slice a2 n2 c2)) wr w' → w'.cell? ⟨po, 0, none⟩ = some (.slice a1 n1 c1) := fun w' k => (O8.out.bp.kept k (fun hm => by
              have := O8.out.lp
              rcases List.mem_append.1 hm with h | h
              · have := O8.out.ge1 _ h; omega
              · have := O8.out.ge2 _ h; omega)).cell 0
            have q1 : ∀ w', Kept (obl (.slice a1 n1 c1) ++ obl (.slice a2 n2 c2)) wr w' → w'.cell? ⟨po, 1, none⟩ = some (.slice a2 n2 c2) := fun w' k => (O8.out.bp.kept k (fun hm => by
              have := O8.out.lp
              rcases List.mem_append.1 hm with h | h
              · have := O8.out.ge1 _ h; omega
              · have := O8.out.ge2 _ h; omega)).cell 1
            have q2 : Hid (∀ w' (i : Nat), Kept (obl (.slice a1 n1 c1) ++ obl (.slice a2 n2 c2)) wr w' → w'.frozen? ⟨po, i, none⟩ = false) := fun w' i k => (O8.out.bp.kept k (fun hm => by
              have := O8.out.lp
              rcases List.mem_append.1 hm with h | h
              · have := O8.out.ge1 _ h; omega
              · have := O8.out.ge2 _ h; omega)).frozen i
            rw [e1.out]
            clear I hX7 hged hgea e2 HF2 HF hcf O7
            go_upto_region 17 with (fail)
            refine wp_region_T [11, 12, 13] (fun w' => Kept (obl (.slice a1 n1 c1) ++ obl (.slice a2 n2 c2)) wr w') (by kernel_rfl) (Kept.refl _ _).drew (fun hH => ?_)
            refine takeT [1, 4, 9, 10, 11, 12, 13] (i := 0) (v := ?tv1) rfl (by kernel_rfl) (by kernel_rfl) (by kernel_rfl) (by kernel_rfl) (fun _ _ _ h => h) (Or.inl ⟨by rfl, ?ty1⟩) hH ?tr1
            case ty1 => intro w' hSw; (try dsimp only at hSw); go_simp; first | done | with_reducible rfl
            simp only [Act.put, List.setIfInBounds_toArray, List.set_cons_zero, List.set_cons_succ]
            refine takeT [4, 9, 10, 11, 12, 13] (i := 1) (v := ?tv2) rfl (by kernel_rfl) (by kernel_rfl) (by kernel_rfl) (by kernel_rfl) (fun _ _ _ h => h) (Or.inl ⟨by rfl, ?ty2⟩) hH ?tr2
            case ty2 => intro w' hSw; (try dsimp only at hSw); go_simp; first | done | with_reducible rfl
            simp only [Act.put, List.setIfInBounds_toArray, List.set_cons_zero, List.set_cons_succ]
            refine takeT [3, 4, 9, 10, 11, 12, 13] (i := 2) (v := ?tv3) rfl (by kernel_rfl) (by kernel_rfl) (by kernel_rfl) (by kernel_rfl) (fun _ _ _ h => h) (Or.inl ⟨by rfl, ?ty3⟩) hH ?tr3
            case ty3 => intro w' hSw; (try dsimp only at hSw); go_simp; first | done | with_reducible rfl
            simp only [Act.put, List.setIfInBounds_toArray, List.set_cons_zero, List.set_cons_succ]
            refine takeT [6, 9, 10, 11, 12, 13] (i := 5) (v := ?tv4) rfl (by kernel_rfl) (by kernel_rfl) (by kernel_rfl) (by kernel_rfl) (fun _ _ _ h => h) (Or.inl ⟨by rfl, ?ty4⟩) hH ?tr4
            case ty4 => intro w' hSw; (try dsimp only at hSw); go_simp; first | done | with_reducible rfl
            simp only [Act.put, List.setIfInBounds_toArray, List.set_cons_zero, List.set_cons_succ]
            refine takeT [9, 10, 11, 12, 13] (i := 6) (v := ?tv5) rfl (by kernel_rfl) (by kernel_rfl) (by kernel_rfl) (by kernel_rfl) (fun _ _ _ h => h) (Or.inl ⟨by rfl, ?ty5⟩) hH ?tr5
            case ty5 => intro w' hSw; (try dsimp only at hSw); go_simp; first | done | with_reducible rfl
            simp only [Act.put, List.setIfInBounds_toArray, List.set_cons_zero, List.set_cons_succ]
            refine takeT [8, 9, 11, 12, 13] (i := 7) (v := ?tv6) rfl (by kernel_rfl) (by kernel_rfl) (by kernel_rfl) (by kernel_rfl) (fun _ _ _ h => h) (Or.inl ⟨by rfl, ?ty6⟩) hH ?tr6
            case ty6 => intro w' hSw; (try dsimp only at hSw); go_simp; first | done | with_reducible rfl
            simp only [Act.put, List.setIfInBounds_toArray, List.set_cons_zero, List.set_cons_succ]
            refine wpAnyT_ready (rs := [3, 8]) (by kernel_rfl) (by simp) ?_
            refine AllReadyT.cons rfl (fun K hK => ?_) (AllReadyT.cons rfl (fun K hK => ?_) AllReadyT.nil)
            · go_simp
              refine hK.out _ _ (hH.alloc _) (fun hH => ?_)
              clear hK K
              (try simp only [Act.put, List.setIfInBounds_toArray, List.set_cons_zero, List.set_cons_succ])
              refine wpAnyT_ready (rs := [4, 8]) (by kernel_rfl) (by simp) ?_
              refine AllReadyT.cons rfl (fun K hK => ?_) (AllReadyT.cons rfl (fun K hK => ?_) AllReadyT.nil)
              · refine step_a1 O8.out rfl _ _ rfl rfl _ rfl (.slice ad n cd) (rowN (by simp) _ _) (by (repeat (first | (with_reducible exact Kept.refl _ _) | (with_reducible refine Kept.drew ?_) | (with_reducible refine Kept.alloc ?_ _)))) HD.out rfl (by simp; omega) ?_
                intro p q y H1
                have hS1 : Kept (obl (.slice a1 n1 c1) ++ obl (.slice a2 n2 c2)) wr y := H1.ks.mono fun z _ hz => List.mem_append_left _ hz
                refine hK.out _ _ hS1 (fun hH => ?_)
                clear hK K
                (try simp only [Act.put, List.setIfInBounds_toArray])
                refine takeT [11, 12, 13] (i := 10) (v := ?tv7) rfl (by kernel_rfl) (by kernel_rfl) (by kernel_rfl) (by kernel_rfl) (fun _ _ _ h => h) (Or.inl ⟨by rfl, ?ty7⟩) hH ?tr7
                case ty7 => intro w' hSw; (try dsimp only at hSw); go_simp; first | done | with_reducible rfl
                simp only [Act.put]
                refine wpAnyT_ready (rs := [8]) (by kernel_rfl) (by simp) ?_
                refine AllReadyT.cons rfl (fun K hK => ?_) AllReadyT.nil
                go_simp
                refine hK.out _ _ (hH.alloc _) (fun hH => ?_)
                clear hK K
                (try simp only [Act.put, List.setIfInBounds_toArray, List.set_cons_zero, List.set_cons_succ])
                refine wpAnyT_ready (rs := [9]) (by kernel_rfl) (by simp) ?_
                refine AllReadyT.cons rfl (fun K hK => ?_) AllReadyT.nil
                refine step_a2 O8.out H1 rfl _ _ rfl rfl _ rfl (.slice aa n' ca) (rowN (by simp) _ _) (by (repeat (first | (with_reducible exact Kept.refl _ _) | (with_reducible refine Kept.drew ?_) | (with_reducible refine Kept.alloc ?_ _)))) HC.out rfl (by simp; omega) ?_
                intro p' q' y' hS2 HX
                have z0 := q0 _ hS2
                have z1 := q1 _ hS2
                have f0 := q2.out _ 0 hS2
                have f1 := q2.out _ 1 hS2
                refine hK.out _ _ hS2 (fun hH => ?_)
                clear hK K
                (try simp only [Act.put, List.setIfInBounds_toArray])
                refine wpAnyT_ready (rs := [11]) (by kernel_rfl) (by simp) ?_
                refine AllReadyT.last rfl (by kernel_rfl) (fun K hK => ?_)
                go_simp
                refine hK.out _ _ ?_
                clear hK K
                (try simp only [Act.put, List.setIfInBounds_toArray, List.set_cons_zero, List.set_cons_succ])
                refine wpAnyT_ready (rs := [12]) (by kernel_rfl) (by simp) ?_
                refine AllReadyT.last rfl (by kernel_rfl) (fun K hK => ?_)
                go_simp
                refine hK.out _ _ ?_
                clear hK K
                (try simp only [Act.put, List.setIfInBounds_toArray, List.set_cons_zero, List.set_cons_succ])
                refine wpAnyT_ready (rs := [13]) (by kernel_rfl) (by simp) ?_
                refine AllReadyT.last rfl (by kernel_rfl) (fun K hK => ?_)
                go_simp
                refine hK.out _ _ ?_
                clear hK K
                (try simp only [Act.put, List.setIfInBounds_toArray, List.set_cons_zero, List.set_cons_succ])
                refine wpAnyT_done (by kernel_rfl) ?_ _
                rw [List.length_map, List.length_map] at HX
                have HR := Lib.hid (OutRel.next HX (by have := HN.out; omega) HNX.out (by omega))
                clear HX hS2 H1 hS1 hH
                go_wp2_with fail
                go_roundw
                case rel => exact HR.out
                case measure => simp [intOf]; omega
              · go_simp
                refine hK.out _ _ (hH.alloc _) (fun hH => ?_)
                clear hK K
                (try simp only [Act.put, List.setIfInBounds_toArray, List.set_cons_zero, List.set_cons_succ])
                refine wpAnyT_ready (rs := [4]) (by kernel_rfl) (by simp) ?_
                refine AllReadyT.cons rfl (fun K hK => ?_) AllReadyT.nil
                refine step_a1 O8.out rfl _ _ rfl rfl _ rfl (.slice ad n cd) ((rowN (Y := wr.drew) rfl _ _).kept ((Kept.refl _ _).alloc _)) (by (repeat (first | (with_reducible exact Kept.refl _ _) | (with_reducible refine Kept.drew ?_) | (with_reducible refine Kept.alloc ?_ _)))) HD.out rfl (by simp; omega) ?_
                intro p q y H1
                have hS1 : Kept (obl (.slice a1 n1 c1) ++ obl (.slice a2 n2 c2)) wr y := H1.ks.mono fun z _ hz => List.mem_append_left _ hz
                refine hK.out _ _ hS1 (fun hH => ?_)
                clear hK K
                (try simp only [Act.put, List.setIfInBounds_toArray])
                refine takeT [11, 12, 13] (i := 10) (v := ?tv8) rfl (by kernel_rfl) (by kernel_rfl) (by kernel_rfl) (by kernel_rfl) (fun _ _ _ h => h) (Or.inl ⟨by rfl, ?ty8⟩) hH ?tr8
                case ty8 => intro w' hSw; (try dsimp only at hSw); go_simp; first | done | with_reducible rfl
                simp only [Act.put]
                refine wpAnyT_ready (rs := [9]) (by kernel_rfl) (by simp) ?_
                refine AllReadyT.cons rfl (fun K hK => ?_) AllReadyT.nil
                refine step_a2 O8.out H1 rfl _ _ rfl rfl _ rfl (.slice aa n' ca) (row_one_keep (rowN (Y := wr.drew.alloc (.cells #[.slice ad n cd] 24)) (by simp) _ _) H1.k (fun h => by have := O8.out.ge1 _ h; omega)) (by (repeat (first | (with_reducible exact Kept.refl _ _) | (with_reducible refine Kept.drew ?_) | (with_reducible refine Kept.alloc ?_ _)))) HC.out rfl (by simp; omega) ?_
                intro p' q' y' hS2 HX
                have z0 := q0 _ hS2
                have z1 := q1 _ hS2
                have f0 := q2.out _ 0 hS2
                have f1 := q2.out _ 1 hS2
                refine hK.out _ _ hS2 (fun hH => ?_)
                clear hK K
                (try simp only [Act.put])
                refine wpAnyT_ready (rs := [11]) (by kernel_rfl) (by simp) ?_
                refine AllReadyT.last rfl (by kernel_rfl) (fun K hK => ?_)
                go_simp
                refine hK.out _ _ ?_
                clear hK K
                (try simp only [Act.put, List.setIfInBounds_toArray, List.set_cons_zero, List.set_cons_succ])
                refine wpAnyT_ready (rs := [12]) (by kernel_rfl) (by simp) ?_
                refine AllReadyT.last rfl (by kernel_rfl) (fun K hK => ?_)
                go_simp
                refine hK.out _ _ ?_
                clear hK K
                (try simp only [Act.put, List.setIfInBounds_toArray, List.set_cons_zero, List.set_cons_succ])
                refine wpAnyT_ready (rs := [13]) (by kernel_rfl) (by simp) ?_
                refine AllReadyT.last rfl (by kernel_rfl) (fun K hK => ?_)
                go_simp
                refine hK.out _ _ ?_
                clear hK K
                (try simp only [Act.put, List.setIfInBounds_toArray, List.set_cons_zero, List.set_cons_succ])
                refine wpAnyT_done (by kernel_rfl) ?_ _
                rw [List.length_map, List.length_map] at HX
                have HR := Lib.hid (OutRel.next HX (by have := HN.out; omega) HNX.out (by omega))
                clear HX hS2 H1 hS1 hH
                go_wp2_with fail
                go_roundw
                case rel => exact HR.out
                case measure => simp [intOf]; omega
            · go_simp
              refine hK.out _ _ (hH.alloc _) (fun hH => ?_)
              clear hK K
              (try simp only [Act.put, List.setIfInBounds_toArray, List.set_cons_zero, List.set_cons_succ])
              refine wpAnyT_ready (rs := [3]) (by kernel_rfl) (by simp) ?_
              refine AllReadyT.cons rfl (fun K hK => ?_) AllReadyT.nil
              go_simp
              refine hK.out _ _ (hH.alloc _) (fun hH => ?_)
              clear hK K
              (try simp only [Act.put, List.setIfInBounds_toArray, List.set_cons_zero, List.set_cons_succ])
              refine wpAnyT_ready (rs := [4]) (by kernel_rfl) (by simp) ?_
              refine AllReadyT.cons rfl (fun K hK => ?_) AllReadyT.nil
              refine step_a1 O8.out rfl _ _ rfl rfl _ rfl (.slice ad n cd) (rowN (by simp) _ _) (by (repeat (first | (with_reducible exact Kept.refl _ _) | (with_reducible refine Kept.drew ?_) | (with_reducible refine Kept.alloc ?_ _)))) HD.out rfl (by simp; omega) ?_
              intro p q y H1
              have hS1 : Kept (obl (.slice a1 n1 c1) ++ obl (.slice a2 n2 c2)) wr y := H1.ks.mono fun z _ hz => List.mem_append_left _ hz
              refine hK.out _ _ hS1 (fun hH => ?_)
              clear hK K
              (try simp only [Act.put, List.setIfInBounds_toArray])
              refine takeT [11, 12, 13] (i := 10) (v := ?tv9) rfl (by kernel_rfl) (by kernel_rfl) (by kernel_rfl) (by kernel_rfl) (fun _ _ _ h => h) (Or.inl ⟨by rfl, ?ty9⟩) hH ?tr9
              case ty9 => intro w' hSw; (try dsimp only at hSw); go_simp; first | done | with_reducible rfl
              simp only [Act.put]
              refine wpAnyT_ready (rs := [9]) (by kernel_rfl) (by simp) ?_
              refine AllReadyT.cons rfl (fun K hK => ?_) AllReadyT.nil
              refine step_a2 O8.out H1 rfl _ _ rfl rfl _ rfl (.slice aa n' ca) (row_one_keep ((rowN (Y := wr.drew) rfl _ _).kept ((Kept.refl _ _).alloc _)) H1.k (fun h => by have := O8.out.ge1 _ h; omega)) (by (repeat (first | (with_reducible exact Kept.refl _ _) | (with_reducible refine Kept.drew ?_) | (with_reducible refine Kept.alloc ?_ _)))) HC.out rfl (by simp; omega) ?_
              intro p' q' y' hS2 HX
              have z0 := q0 _ hS2
              have z1 := q1 _ hS2
              have f0 := q2.out _ 0 hS2
              have f1 := q2.out _ 1 hS2
              refine hK.out _ _ hS2 (fun hH => ?_)
              clear hK K
              (try simp only [Act.put])
              refine wpAnyT_ready (rs := [11]) (by kernel_rfl) (by simp) ?_
              refine AllReadyT.last rfl (by kernel_rfl) (fun K hK => ?_)
              go_simp
              refine hK.out _ _ ?_
              clear hK K
              (try simp only [Act.put, List.setIfInBounds_toArray, List.set_cons_zero, List.set_cons_succ])
              refine wpAnyT_ready (rs := [12]) (by kernel_rfl) (by simp) ?_
              refine AllReadyT.last rfl (by kernel_rfl) (fun K hK => ?_)
              go_simp
              refine hK.out _ _ ?_
              clear hK K
              (try simp only [Act.put, List.setIfInBounds_toArray, List.set_cons_zero, List.set_cons_succ])
              refine wpAnyT_ready (rs := [13]) (by kernel_rfl) (by simp) ?_
              refine AllReadyT.last rfl (by kernel_rfl) (fun K hK => ?_)
              go_simp
              refine hK.out _ _ ?_
              clear hK K
              (try simp only [Act.put, List.setIfInBounds_toArray, List.set_cons_zero, List.set_cons_succ])
              refine wpAnyT_done (by kernel_rfl) ?_ _
              rw [List.length_map, List.length_map] at HX
              have HR := Lib.hid (OutRel.next HX (by have := HN.out; omega) HNX.out (by omega))
              clear HX hS2 H1 hS1 hH
              go_wp2_with fail
              go_roundw
              case rel => exact HR.out
              case measure => simp [intOf]; omega
          · have hlt2 : acc2.length < N2 := by have := HN2.out; omega
            obtain ⟨ds, hds⟩ : ∃ ds, acc2.map Prod.fst = ds := ⟨_, rfl⟩
            obtain ⟨as_, has⟩ : ∃ as_, acc2.map Prod.snd = as_ := ⟨_, rfl⟩
            rw [hds, has] at I
            have HDS := Lib.hid hds
            have HAS := Lib.hid has
            have hdl : ds.length = acc2.length := by rw [← hds, List.length_map]
            have hasl : as_.length = acc2.length := by rw [← has, List.length_map]
            have hnl : n ≤ 100000001 := by have := I.out.nd; omega
            have hnal : as_.length ≤ 100000001 := by omega
            have hna := Lib.hid I.out.na
            have HC3 := Lib.hid (prow_next b g r2 wr I.out.tp)
            obtain ⟨x, r3, hr3⟩ : ∃ x r3, next r2 = (x, r3) := ⟨_, _, rfl⟩
            have hle3 := next_le r2
            rw [hr3] at HC3 hle3
            replace hle3 : r3.left.length ≤ r2.left.length := hle3
            obtain ⟨q, r5, hr5⟩ : ∃ q r5, count r3 = (q, r5) := ⟨_, _, rfl⟩
            have hle5 := count_le r3
            rw [hr5] at hle5
            replace hle5 : q ≤ r5.left.length ∧ r5.left.length ≤ r3.left.length := hle5
            obtain ⟨l5, bd5⟩ := r5
            replace hle5 : q ≤ l5.length ∧ l5.length ≤ r3.left.length := hle5
            obtain ⟨hq5, hl53⟩ := hle5
            have hsp : spnd r2 = ((x, l5.take q), ⟨l5.drop q, bd5⟩) := by
              simp only [spnd, both, hr3, list, hr5]
            have HF3 : Hid (times spnd m2 ⟨l5.drop q, bd5⟩ (acc2 ++ [(x, l5.take q)]) = fin2) := by
              show _ = _
              rw [← HF2.out, times_succ, hsp]
            have HR5 := Lib.hid hr5
            clear hds has hdl hasl hr3 hr5 hsp HF2
            go_wp2_with (go_at_call 177; refine HC3.out.mono ?_)
            rintro e w3 ⟨rfl, t3, k3⟩
            have I3 := Lib.hid (I.out.read k3 t3)
            clear t3 k3 HC3 I
            go_wp2_with (at_builtin; refine wpList_append_ints rfl _ _ rfl w7.heap.size (.slice ad n cd) n ds rfl (I3.out.alloc _).od _ 1 [x] rfl (Row.one1 _ _) (by omega) (I3.out.alloc _).le ?_)
            intro a4 c4 w4 own4 k4 at4
            have I4 := Lib.hid ((I3.out.alloc _).pushd k4 rfl own4 (fun z hz => by rw [World.size_alloc]; exact at4 z hz))
            clear own4 k4 at4 I3
            have HC5 := Lib.hid (prow_count b g r3 w4 I4.out.tp)
            rw [HR5.out] at HC5
            go_wp2_with (go_at_call 176; refine HC5.out.mono ?_)
            rintro e w5 ⟨rfl, t5, k5⟩
            have I5 := Lib.hid (I4.out.read k5 t5)
            clear t5 k5 HC5 HR5 I4
            obtain ⟨⟨a, c, hb, hs⟩, hne⟩ := I5.out.tp
            have c0 : w5.cell? ⟨b, 0, none⟩ = some (.slice a l5.length c) := hb.cell 0
            have hlc : l5.length ≤ c := hs.1
            have HCl := Lib.hid (clone_ints g a c q l5 w5 hs hq5 (by omega))
            have hTq : (l5.take q).length = q := by rw [List.length_take]; omega
            obtain ⟨T, hT⟩ : ∃ T, l5.take q = T := ⟨_, rfl⟩
            rw [hT] at HCl HF3 hTq
            have HTq := Lib.hid hTq
            clear hb hs hne hT hTq
            go_wp2_with (go_at_call 54; refine HCl.out.mono ?_)
            rintro e w6 ⟨a6, c6, rfl, own6, k6⟩
            rw [HTq.out]
            have I6 := Lib.hid (I5.out.keep k6)
            obtain ⟨X2, x1, x2, x3, x4, G5⟩ := I5.out.ga
            have ka6 : Kept [] w6 (w6.alloc (.cells #[.slice a6 T.length c6] 24)) := (Kept.refl _ _).alloc _
            have HRr : Stable X2 (fun w => ListR w [.slice a6 T.length c6] T) (w6.alloc (.cells #[.slice a6 T.length c6] 24)) :=
              (Stable.row (own_keep own6 ka6 (by simp)) (fun z hz hm => by have := (own_ge own6 z hz).1; have := x2 z hm; omega) (by have := HTq.out; omega)).imp fun _ h => ⟨_, rfl, h⟩
            have G6 := G5.step (X' := X2) (k6.trans ka6) (by simp) (by simp) (fun z hz => Or.inl hz)
            have hrow1 : Row (w6.alloc (.cells #[.slice a6 T.length c6] 24)) 1 (.slice (some ⟨w6.heap.size, 0, none⟩) 1 1) 1 [.slice a6 T.length c6] := row_of_blk (Blk.new w6 24 #[.slice a6 T.length c6]) rfl (by omega)
            rw [HTq.out] at HRr G6 hrow1
            have hs56 := k6.size
            have HA6 := Lib.hid HRr
            have HG6 := Lib.hid G6
            have HR1 := Lib.hid hrow1
            have X1 := Lib.hid x1
            have XL := Lib.hid x2
            have X3 := Lib.hid x3
            have X4 := Lib.hid x4
            have hle6 := Lib.hid (I6.out.alloc (.cells #[.slice a6 q c6] 24)).le
            have hnc := Lib.hid hna.out
            clear own6 k6 HCl c0 G5 ka6 HRr G6 hrow1 x1 x2 x3 x4
            obtain ⟨i0, hi, hz0, hz1, hz2⟩ := info_parts infoL
            go_wp2_with (at_builtin; refine wpList_append_grow rfl _ _ 55 rfl i0 (.slice none 0 0) 24 Tryz.underlying55 hi hz0 hz1 hz2 rfl (by decide) (by decide) rfl HG6.out _ [.slice a6 q c6] T rfl HR1.out HA6.out (by simp [Value.oneCell']) (by omega) hle6.out X4.out ?_)
            intro a8 c8 w8 G8 k8 at8
            have I8 := Lib.hid ((I6.out.alloc _).pusha X1.out (fun z hz => Nat.lt_of_lt_of_le (XL.out z hz) (by simp only [World.size_alloc]; omega)) X3.out k8 (by rw [hna.out]) G8 (fun z hz => by rw [World.size_alloc]; exact at8 z hz))
            clear G8 k8 at8 HA6 HG6 HR1 X1 XL X3 X4 hi hz0 hz1 hz2 I6 I5
            obtain ⟨M, hM⟩ : ∃ M, as_.length + 1 = M := ⟨_, rfl⟩
            rw [hM] at I8
            obtain ⟨⟨a, c, hb, hs⟩, hne⟩ := I8.out.tp
            have c0 : w8.cell? ⟨b, 0, none⟩ = some (.slice a l5.length c) := hb.cell 0
            have d0 := hb.frozen 0
            have hlc : l5.length ≤ c := hs.1
            have hput : ∀ (x' : Option Addr) (mm cc : Nat), mm = l5.length - q → Src w8 g x' cc (l5.drop q) → Hid (InRel w7 b g X fin2 N2 (.slice a4 (n + 1) c4) (.slice a8 M c8) (.int .i64 ((acc2.length : Int) + 1)) (w8.setCell ⟨b, 0, none⟩ (.slice x' mm cc))) := fun x' mm cc hmm hsrc => by
              refine ⟨m2, ⟨l5.drop q, bd5⟩, acc2 ++ [(x, T)], a4, a8, n + 1, c4, M, c8, rfl, rfl, by simp, by have := HN2.out; simp; omega, HF3.out, by show (l5.drop q).length ≤ _; rw [List.length_drop]; omega, ?_⟩
              rw [List.map_append, List.map_append, HDS.out, HAS.out]
              exact I8.out.read ((Kept.refl _ _).setCell (by simp) _) (TpAt.put hb hsrc (by rw [List.length_drop]; exact hmm) hne)
            have HP := Lib.hid hput
            have HS := Lib.hid hs
            have HM := Lib.hid hM
            rw [hM]
            clear hput hb hs hne hM I8 HDS HAS HF3 HTq
            cases a with
            | none =>
              have h0 : l5 = [] := by
                rcases Nat.eq_zero_or_pos l5.length with h | h
                · exact List.eq_nil_of_length_eq_zero h
                · obtain ⟨off, ha, _⟩ := HS.out.2.2 h
                  cases ha
              subst h0
              obtain rfl : q = 0 := by simpa using hq5
              have HF := Lib.hid (HP.out none 0 c (by simp) (Src.empty _ _ _ _))
              clear HP
              go_wp2
              go_roundw
              case rel => exact HF.out
              case measure => simp [intOf]; omega
            | some ad =>
              by_cases hnc : q = c
              · have hnl : q = l5.length := by omega
                have hd : l5.drop q = [] := by rw [hnl]; simp
                have HF := Lib.hid (HP.out (some ad) 0 0 (by omega) (by rw [hd]; exact Src.empty _ _ _ _))
                clear HP hd
                subst hnc
                subst hnl
                go_wp2
                go_roundw
                case rel => exact HF.out
                case measure => simp [intOf]; omega
              · have HF := Lib.hid (HP.out (some (ad.add q)) (l5.length - q) (c - q) rfl (HS.out.drop q hq5 _ (fun _ o ho => by injection ho with ho; subst ho; rw [flat_add'])))
                clear HP
                go_wp2
                go_roundw
                case rel => exact HF.out
                case measure => simp [intOf]; omega
end Go.Proofs.YtcidfldeiklcjaaGreatDoor
