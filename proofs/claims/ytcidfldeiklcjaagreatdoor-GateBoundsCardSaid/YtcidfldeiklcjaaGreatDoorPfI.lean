/- What the rounds of proof.Decode keep. -/
import Derived.Test.YtcidfldeiklcjaaGreatDoorRow
/- JOINED: Row2 PfI -/
/- The methods of show's row: list, ticket, spend. -/
namespace Go.Proofs.YtcidfldeiklcjaaGreatDoor
open Go.RowKit Tape

theorem flat_add' (b o k : Nat) : (some ((⟨b, o, none⟩ : Addr).add k)) = some ⟨b, o + k, none⟩ := by
  unfold Addr.add
  by_cases h : k = 0
  · subst h; simp
  · simp [h]
/-- what list leaves -/
def ListP (b g : Nat) (l : List Int) (r : Tp) (w : World) (e : Ending) (w' : World) : Prop :=
  ∃ a c, e = .returned (.slice a l.length c) ∧ w'.ownsRow w.heap.size 3 1 (.slice a l.length c) l.length (ints l) ∧ TpAt 174 w' b g r ∧ Kept [b] w w'

set_option maxRecDepth 100000 in
set_option maxHeartbeats 1000000 in
theorem srow_list (b g : Nat) (r : Tp) (w : World) (h : TpAt 174 w b g r) (hl : r.left.length ≤ 1000000000) :
    Calls Tryz.prog 137 #[.pointer (some ⟨b, 0, none⟩)] w (ListP b g (list r).1 (list r).2 w) := by
  have HC := Lib.hid (srow_count b g r w h)
  have hcl := count_le r
  have hq : list r = ((count r).2.left.take (count r).1, ⟨(count r).2.left.drop (count r).1, (count r).2.bad⟩) := rfl
  obtain ⟨n, r1, hr⟩ : ∃ n r1, count r = (n, r1) := ⟨_, _, rfl⟩
  rw [hr] at HC hcl hq
  obtain ⟨l, bd⟩ := r1
  replace hcl : n ≤ l.length ∧ l.length ≤ r.left.length := hcl
  replace hq : list r = (l.take n, ⟨l.drop n, bd⟩) := hq
  rw [hq]
  clear hr hq
  obtain ⟨hn, hlr⟩ := hcl
  have hl1 : l.length ≤ 1000000000 := by omega
  have hne := h.ne
  have hlt := h.lt
  clear h hl hlr
  have HT : Hid ((l.take n).length = n) := by show _ = _; rw [List.length_take]; omega
  have HD : Hid ((l.drop n).length = l.length - n) := by show _ = _; rw [List.length_drop]
  go_enter Tryz.func137, Tryz.ntmps137
  go_wp2_with (go_at_call 134; refine HC.out.mono ?_)
  rintro e w1 ⟨rfl, ⟨⟨a, c, hb, hs⟩, _⟩, k1⟩
  have HB := Lib.hid hb
  have HS := Lib.hid hs
  have HK := Lib.hid k1
  have hlc : l.length ≤ c := hs.1
  have c0 : w1.cell? ⟨b, 0, none⟩ = some (.slice a l.length c) := hb.cell 0
  have HCl := Lib.hid (clone_ints g a c n l w1 hs hn hl1)
  have hsz := k1.size
  have HN : Hid (g ∉ [b]) := by show g ∉ [b]; simp; omega
  clear hb hs HC k1
  go_wp2_with (go_at_call 54; refine HCl.out.mono ?_)
  rintro e w2 ⟨a2, c2, rfl, own, k2⟩
  have HB2 := Lib.hid (HB.out.kept k2 (by simp))
  have d0 : w2.cell? ⟨b, 0, none⟩ = some (.slice a l.length c) := HB2.out.cell 0
  have d1 := HB2.out.frozen 0
  have HO := Lib.hid own
  have HK2 := Lib.hid k2
  rw [HT.out]
  rw [HT.out] at HO
  clear own k2 HCl c0
  have hput : ∀ (x : Option Addr) (m cc : Nat), m = l.length - n → Src w2 g x cc (l.drop n) → Hid (ListP b g (l.take n) ⟨l.drop n, bd⟩ w (.returned (.slice a2 n c2)) (w2.setCell ⟨b, 0, none⟩ (.slice x m cc))) := by
    intro x m cc hm hsrc
    subst hm
    have kk : Kept [b] w2 (w2.setCell ⟨b, 0, none⟩ (.slice x (l.length - n) cc)) := (Kept.refl _ _).setCell (by simp) _
    refine ⟨a2, c2, by rw [HT.out], ?_, ⟨⟨x, cc, ?_, hsrc.keep kk HN.out⟩, hne⟩, (HK.out.trans (HK2.out.mono (by simp))).trans kk⟩
    · rw [HT.out]
      refine own_base (own_keep HO.out kk fun z hz hm => ?_) hsz
      have := (own_ge HO.out z hz).1
      rw [List.mem_singleton] at hm
      omega
    · show Blk _ _ _ #[.slice x (l.drop n).length cc, .bool bd]
      rw [HD.out]
      simpa using HB2.out.set_ 0 (.slice x (l.length - n) cc)
  have HP := Lib.hid hput
  have HS2 := Lib.hid (HS.out.keep HK2.out (by simp))
  clear hput
  cases a with
  | none =>
    have h0 : l = [] := by
      rcases Nat.eq_zero_or_pos l.length with h | h
      · exact List.eq_nil_of_length_eq_zero h
      · obtain ⟨off, ha, _⟩ := HS.out.2.2 h
        cases ha
    subst h0
    obtain rfl : n = 0 := by simpa using hn
    have HF := Lib.hid (HP.out none 0 c (by simp) (Src.empty _ _ _ _))
    clear HP
    go_wp2
    go_ret
    exact HF.out
  | some ad =>
    by_cases hnc : n = c
    · have hnl : n = l.length := by omega
      have hd : l.drop n = [] := by rw [hnl]; simp
      have HF := Lib.hid (HP.out (some ad) 0 0 (by omega) (by rw [hd]; exact Src.empty _ _ _ _))
      clear HP hd
      subst hnc
      subst hnl
      go_wp2
      go_ret
      exact HF.out
    · have HF := Lib.hid (HP.out (some (ad.add n)) (l.length - n) (c - n) rfl (HS2.out.drop n hn _ (fun _ o ho => by injection ho with ho; subst ho; rw [flat_add'])))
      clear HP
      go_wp2
      go_ret
      exact HF.out

/-- what ticket and spend leave -/
def TickP (b g : Nat) (t : Tick) (r : Tp) (w : World) (e : Ending) (w' : World) : Prop := e = .returned (.agg (tickC t).toArray) ∧ TpAt 174 w' b g r ∧ Kept [b] w w'

set_option maxRecDepth 100000 in
set_option maxHeartbeats 2000000 in
theorem srow_ticket (b g : Nat) (r : Tp) (w : World) (h : TpAt 174 w b g r) (hgs : g ≠ w.heap.size) :
    Calls Tryz.prog 135 #[.pointer (some ⟨b, 0, none⟩)] w (TickP b g (tick r).1 (tick r).2 w) := by
  obtain ⟨n1, r1, h1⟩ : ∃ n r1, next r = (n, r1) := ⟨_, _, rfl⟩
  obtain ⟨n2, r2, h2⟩ : ∃ n r2, next r1 = (n, r2) := ⟨_, _, rfl⟩
  obtain ⟨n3, r3, h3⟩ : ∃ n r3, next r2 = (n, r3) := ⟨_, _, rfl⟩
  obtain ⟨n4, r4, h4⟩ : ∃ n r4, next r3 = (n, r4) := ⟨_, _, rfl⟩
  obtain ⟨n5, r5, h5⟩ : ∃ n r5, next r4 = (n, r5) := ⟨_, _, rfl⟩
  obtain ⟨n6, r6, h6⟩ : ∃ n r6, next r5 = (n, r6) := ⟨_, _, rfl⟩
  have hq : tick r = ((n1, n2, n3, n4, n5, n6), r6) := by
    simp only [tick, both, h1, h2, h3, h4, h5, h6]
  rw [hq]
  have H1 : Hid (∀ w, TpAt 174 w b g r → Calls Tryz.prog 178 #[.pointer (some ⟨b, 0, none⟩)] w (ReadP 174 b g (.int .i64 n1) r1 w)) := fun w h => by have := srow_next b g r w h; rwa [h1] at this
  have H2 : Hid (∀ w, TpAt 174 w b g r1 → Calls Tryz.prog 178 #[.pointer (some ⟨b, 0, none⟩)] w (ReadP 174 b g (.int .i64 n2) r2 w)) := fun w h => by have := srow_next b g r1 w h; rwa [h2] at this
  have H3 : Hid (∀ w, TpAt 174 w b g r2 → Calls Tryz.prog 178 #[.pointer (some ⟨b, 0, none⟩)] w (ReadP 174 b g (.int .i64 n3) r3 w)) := fun w h => by have := srow_next b g r2 w h; rwa [h3] at this
  have H4 : Hid (∀ w, TpAt 174 w b g r3 → Calls Tryz.prog 178 #[.pointer (some ⟨b, 0, none⟩)] w (ReadP 174 b g (.int .i64 n4) r4 w)) := fun w h => by have := srow_next b g r3 w h; rwa [h4] at this
  have H5 : Hid (∀ w, TpAt 174 w b g r4 → Calls Tryz.prog 178 #[.pointer (some ⟨b, 0, none⟩)] w (ReadP 174 b g (.int .i64 n5) r5 w)) := fun w h => by have := srow_next b g r4 w h; rwa [h5] at this
  have H6 : Hid (∀ w, TpAt 174 w b g r5 → Calls Tryz.prog 178 #[.pointer (some ⟨b, 0, none⟩)] w (ReadP 174 b g (.int .i64 n6) r6 w)) := fun w h => by have := srow_next b g r5 w h; rwa [h6] at this
  clear h1 h2 h3 h4 h5 h6 hq
  have HT := Lib.hid h
  have hlt := h.lt
  have hne := h.ne
  have HG : Hid (g ≠ w.heap.size) := hgs
  clear h
  go_enter Tryz.func135, Tryz.ntmps135
  go_upto_region 1 with (fail)
  obtain ⟨W, hW⟩ : ∃ W, w.alloc (.cells #[.int .i64 0, .int .i64 0, .int .i64 0, .int .i64 0, .int .i64 0, .int .i64 0] 178) = W := ⟨_, rfl⟩
  have hbW : Blk W w.heap.size 178 #[.int .i64 0, .int .i64 0, .int .i64 0, .int .i64 0, .int .i64 0, .int .i64 0] := hW ▸ Blk.new _ _ _
  have hkW : Kept [b] w W := hW ▸ (Kept.refl _ _).alloc _
  have T0 := Lib.hid ((HT.out.keep (S := []) (hW ▸ (Kept.refl _ _).alloc _) (by simp) (by simp)))
  rw [hW]
  clear hW HT
  go_wp2_with (go_at_call 178; refine (H1.out _ T0.out).mono ?_)
  rintro e w1 ⟨rfl, t1, k1⟩
  have T1 := Lib.hid t1
  have K1 := Lib.hid (hkW.trans k1)
  have B1 := Lib.hid (hbW.kept k1 (by simp; omega))
  clear t1 k1 hbW hkW H1 T0
  go_wp2_with (go_at_call 178; refine (H2.out _ T1.out).mono ?_)
  rintro e w2 ⟨rfl, t2, k2⟩
  have T2 := Lib.hid t2
  have K2 := Lib.hid (K1.out.trans k2)
  have B2 := Lib.hid (B1.out.kept k2 (by simp; omega))
  clear t2 k2 T1 K1 B1 H2
  go_wp2_with (go_at_call 178; refine (H3.out _ T2.out).mono ?_)
  rintro e w3 ⟨rfl, t3, k3⟩
  have T3 := Lib.hid t3
  have K3 := Lib.hid (K2.out.trans k3)
  have B3 := Lib.hid (B2.out.kept k3 (by simp; omega))
  clear t3 k3 T2 K2 B2 H3
  go_wp2_with (go_at_call 178; refine (H4.out _ T3.out).mono ?_)
  rintro e w4 ⟨rfl, t4, k4⟩
  have T4 := Lib.hid t4
  have K4 := Lib.hid (K3.out.trans k4)
  have B4 := Lib.hid (B3.out.kept k4 (by simp; omega))
  clear t4 k4 T3 K3 B3 H4
  go_wp2_with (go_at_call 178; refine (H5.out _ T4.out).mono ?_)
  rintro e w5 ⟨rfl, t5, k5⟩
  have T5 := Lib.hid t5
  have K5 := Lib.hid (K4.out.trans k5)
  have B5 := Lib.hid (B4.out.kept k5 (by simp; omega))
  clear t5 k5 T4 K4 B4 H5
  go_wp2_with (go_at_call 178; refine (H6.out _ T5.out).mono ?_)
  rintro e w6 ⟨rfl, t6, k6⟩
  have T6 := Lib.hid t6
  have K6 := Lib.hid (K5.out.trans k6)
  have B6 := Lib.hid (B5.out.kept k6 (by simp; omega))
  clear t6 k6 T5 K5 B5 H6
  have d0 : w6.cell? ⟨w.heap.size, 0, none⟩ = some (.int .i64 0) := B6.out.cell 0
  have g0 := B6.out.frozen 0
  have d1 : w6.cell? ⟨w.heap.size, 1, none⟩ = some (.int .i64 0) := B6.out.cell 1
  have g1 := B6.out.frozen 1
  have d2 : w6.cell? ⟨w.heap.size, 2, none⟩ = some (.int .i64 0) := B6.out.cell 2
  have g2 := B6.out.frozen 2
  have d3 : w6.cell? ⟨w.heap.size, 3, none⟩ = some (.int .i64 0) := B6.out.cell 3
  have g3 := B6.out.frozen 3
  have d4 : w6.cell? ⟨w.heap.size, 4, none⟩ = some (.int .i64 0) := B6.out.cell 4
  have g4 := B6.out.frozen 4
  have d5 : w6.cell? ⟨w.heap.size, 5, none⟩ = some (.int .i64 0) := B6.out.cell 5
  have g5 := B6.out.frozen 5
  have hgl : Hid (g ≠ w.heap.size) := HG
  go_wp2_with fail
  have B7 : Blk ((((((w6.setCell ⟨w.heap.size, 0, none⟩ (.int .i64 n1)).setCell ⟨w.heap.size, 1, none⟩ (.int .i64 n2)).setCell ⟨w.heap.size, 2, none⟩ (.int .i64 n3)).setCell ⟨w.heap.size, 3, none⟩ (.int .i64 n4)).setCell ⟨w.heap.size, 4, none⟩ (.int .i64 n5)).setCell ⟨w.heap.size, 5, none⟩ (.int .i64 n6)) w.heap.size 178 #[.int .i64 n1, .int .i64 n2, .int .i64 n3, .int .i64 n4, .int .i64 n5, .int .i64 n6] := by simpa using ((((((B6.out.set_ 0 (.int .i64 n1)).set_ 1 (.int .i64 n2)).set_ 2 (.int .i64 n3)).set_ 3 (.int .i64 n4)).set_ 4 (.int .i64 n5)).set_ 5 (.int .i64 n6))
  have z0 := B7.cell 0
  have z1 := B7.cell 1
  have z2 := B7.cell 2
  have z3 := B7.cell 3
  have z4 := B7.cell 4
  have z5 := B7.cell 5
  refine bodyPost_ret (v := .agg #[.int .i64 n1, .int .i64 n2, .int .i64 n3, .int .i64 n4, .int .i64 n5, .int .i64 n6]) (by simp [results, Tryz.results135, go_sem, z0, z1, z2, z3, z4, z5]) rfl ⟨rfl, ?_, ?_⟩
  · exact T6.out.keep (((((((Kept.refl [w.heap.size] w6).setCell (by simp) (.int .i64 n1)).setCell (by simp) (.int .i64 n2)).setCell (by simp) (.int .i64 n3)).setCell (by simp) (.int .i64 n4)).setCell (by simp) (.int .i64 n5)).setCell (by simp) (.int .i64 n6)) (by simp; omega) (by simp; exact hgl.out)
  · exact ((((((K6.out.setCell (Or.inr (Nat.le_refl _)) (.int .i64 n1)).setCell (Or.inr (Nat.le_refl _)) (.int .i64 n2)).setCell (Or.inr (Nat.le_refl _)) (.int .i64 n3)).setCell (Or.inr (Nat.le_refl _)) (.int .i64 n4)).setCell (Or.inr (Nat.le_refl _)) (.int .i64 n5)).setCell (Or.inr (Nat.le_refl _)) (.int .i64 n6))

def SpndP (b g : Nat) (x : Spnd) (r : Tp) (w : World) (e : Ending) (w' : World) : Prop :=
  ∃ a c, e = .returned (.agg #[.int .i64 x.1, .slice a x.2.length c]) ∧ w'.ownsRow w.heap.size 3 1 (.slice a x.2.length c) x.2.length (ints x.2) ∧ TpAt 174 w' b g r ∧ Kept [b] w w'

set_option maxRecDepth 100000 in
set_option maxHeartbeats 2000000 in
theorem srow_spend (b g : Nat) (r : Tp) (w : World) (h : TpAt 174 w b g r) (hgs : g ≠ w.heap.size) (hl : r.left.length ≤ 1000000000) :
    Calls Tryz.prog 136 #[.pointer (some ⟨b, 0, none⟩)] w (SpndP b g (spnd r).1 (spnd r).2 w) := by
  obtain ⟨n1, r1, h1⟩ : ∃ n r1, next r = (n, r1) := ⟨_, _, rfl⟩
  obtain ⟨l, r2, h2⟩ : ∃ n r2, list r1 = (n, r2) := ⟨_, _, rfl⟩
  have hq : spnd r = ((n1, l), r2) := by
    simp only [spnd, both, h1, h2]
  rw [hq]
  have hl1 : r1.left.length ≤ 1000000000 := by have := next_le r; rw [h1] at this; have : r1.left.length ≤ r.left.length := this; omega
  have H1 : Hid (∀ w, TpAt 174 w b g r → Calls Tryz.prog 178 #[.pointer (some ⟨b, 0, none⟩)] w (ReadP 174 b g (.int .i64 n1) r1 w)) := fun w h => by have := srow_next b g r w h; rwa [h1] at this
  have H2 : Hid (∀ w, TpAt 174 w b g r1 → Calls Tryz.prog 137 #[.pointer (some ⟨b, 0, none⟩)] w (ListP b g l r2 w)) := fun w h => by have := srow_list b g r1 w h hl1; rwa [h2] at this
  clear h1 h2 hq
  have HT := Lib.hid h
  have hlt := h.lt
  have hne := h.ne
  have HG : Hid (g ≠ w.heap.size) := hgs
  clear h
  go_enter Tryz.func136, Tryz.ntmps136
  go_upto_region 1 with (fail)
  obtain ⟨W, hW⟩ : ∃ W, w.alloc (.cells #[.int .i64 0, .slice none 0 0] 181) = W := ⟨_, rfl⟩
  have hbW : Blk W w.heap.size 181 #[.int .i64 0, .slice none 0 0] := hW ▸ Blk.new _ _ _
  have hkW : Kept [b] w W := hW ▸ (Kept.refl _ _).alloc _
  have hWs : W.heap.size = w.heap.size + 1 := by rw [← hW]; simp
  have T0 := Lib.hid ((HT.out.keep (S := []) (hW ▸ (Kept.refl _ _).alloc _) (by simp) (by simp)))
  rw [hW]
  clear hW HT
  go_wp2_with (go_at_call 178; refine (H1.out _ T0.out).mono ?_)
  rintro e w1 ⟨rfl, t1, k1⟩
  have T1 := Lib.hid t1
  have K1 := Lib.hid (hkW.trans k1)
  have B1 := Lib.hid (hbW.kept k1 (by simp; omega))
  have hs1 := k1.size
  clear t1 k1 hbW hkW H1 T0
  go_wp2_with (go_at_call 137; refine (H2.out _ T1.out).mono ?_)
  rintro e w2 ⟨a, c, rfl, own, t2, k2⟩
  have T2 := Lib.hid t2
  have K2 := Lib.hid (K1.out.trans k2)
  have B2 := Lib.hid (B1.out.kept k2 (by simp; omega))
  have HO := Lib.hid own
  clear t2 k2 own T1 K1 B1 H2
  have d0 : w2.cell? ⟨w.heap.size, 0, none⟩ = some (.int .i64 0) := B2.out.cell 0
  have d1 : w2.cell? ⟨w.heap.size, 1, none⟩ = some (.slice none 0 0) := B2.out.cell 1
  have g0 := B2.out.frozen 0
  have g1 := B2.out.frozen 1
  go_wp2_with fail
  have B7 : Blk ((w2.setCell ⟨w.heap.size, 0, none⟩ (.int .i64 n1)).setCell ⟨w.heap.size, 1, none⟩ (.slice a l.length c)) w.heap.size 181 #[.int .i64 n1, .slice a l.length c] := by simpa using (B2.out.set_ 0 (.int .i64 n1)).set_ 1 (.slice a l.length c)
  have z0 := B7.cell 0
  have z1 := B7.cell 1
  have kk : Kept [w.heap.size] w2 ((w2.setCell ⟨w.heap.size, 0, none⟩ (.int .i64 n1)).setCell ⟨w.heap.size, 1, none⟩ (.slice a l.length c)) := ((Kept.refl _ _).setCell (by simp) _).setCell (by simp) _
  refine bodyPost_ret (v := .agg #[.int .i64 n1, .slice a l.length c]) (by simp [results, Tryz.results136, go_sem, z0, z1]) rfl ⟨a, c, rfl, ?_, ?_, ?_⟩
  · refine own_base (own_keep HO.out kk fun z hz hm => ?_) (by omega)
    have := (own_ge HO.out z hz).1
    rw [List.mem_singleton] at hm
    omega
  · exact T2.out.keep kk (by simp; omega) (by simp; exact HG.out)
  · exact (K2.out.setCell (Or.inr (Nat.le_refl _)) _).setCell (Or.inr (Nat.le_refl _)) _
end Go.Proofs.YtcidfldeiklcjaaGreatDoor
namespace Go.Proofs.YtcidfldeiklcjaaGreatDoor
open Go.RowKit Tape

theorem infoL : (Tryz.prog.info? 24).map (fun i => (i.zero, i.size, i.bytes)) = some (some (.slice none 0 0), 1, 24) := by kernel_rfl
theorem infoLL : (Tryz.prog.info? 55).map (fun i => (i.zero, i.size, i.bytes)) = some (some (.slice none 0 0), 1, 24) := by kernel_rfl

theorem TpAt.put {T : TypeId} {w : World} {b g : Nat} {v0 : Value} {bd : Bool} {l : List Int} {x : Option Addr} {m c : Nat} (hB : Blk w b T #[v0, .bool bd]) (hs : Src w g x c l) (hm : m = l.length) (hne : b ≠ g) : TpAt T (w.setCell ⟨b, 0, none⟩ (.slice x m c)) b g ⟨l, bd⟩ := by
  subst hm
  refine ⟨⟨x, c, ?_, hs.keep (S := [b]) ((Kept.refl _ _).setCell (by simp) _) (by simp; omega)⟩, hne⟩
  simpa using hB.set_ 0 (.slice x l.length c)

/-- what the rounds of a clause keep -/
structure PfI (wr w2 : World) (b g : Nat) (X : List Nat) (ad : Option Addr) (n cd : Nat) (aa : Option Addr) (m ca : Nat) (ds : List Int) (as_ : List (List Int)) (r : Tp) : Prop where
  tp : TpAt 210 w2 b g r
  kb : Kept [b] wr w2
  nd : n = ds.length
  na : m = as_.length
  od : w2.ownsRow wr.heap.size 3 1 (.slice ad n cd) n (ints ds)
  ga : ∃ X2, (∀ z ∈ X, z ∈ X2) ∧ (∀ z ∈ X2, z < w2.heap.size) ∧ (∀ z ∈ obl (.slice ad n cd), z ∈ X2) ∧ (∀ z ∈ obl (.slice aa m ca), z ∈ X2) ∧ Grow ListR 1 24 wr.heap.size X2 w2 (.slice aa m ca) as_
  dis : ∀ z ∈ obl (.slice ad n cd), z ∉ obl (.slice aa m ca)
  bX : b ∈ X
  bl : b < wr.heap.size
  gl : g < wr.heap.size
section
variable {wr w2 w3 : World} {b g : Nat} {X : List Nat} {ad aa ad' aa' : Option Addr} {n n' m m' cd cd' ca ca' : Nat} {ds : List Int} {as_ : List (List Int)} {r r' : Tp}
theorem PfI.le (h : PfI wr w2 b g X ad n cd aa m ca ds as_ r) : wr.heap.size ≤ w2.heap.size := h.kb.size
theorem PfI.ged (h : PfI wr w2 b g X ad n cd aa m ca ds as_ r) : ∀ z ∈ obl (.slice ad n cd), wr.heap.size ≤ z ∧ z < w2.heap.size := own_ge h.od
theorem PfI.gea (h : PfI wr w2 b g X ad n cd aa m ca ds as_ r) : ∀ z ∈ obl (.slice aa m ca), wr.heap.size ≤ z ∧ z < w2.heap.size := by
  obtain ⟨X2, _, _, _, _, G⟩ := h.ga
  exact G.ge
theorem PfI.keep (h : PfI wr w2 b g X ad n cd aa m ca ds as_ r) (k : Kept [] w2 w3) : PfI wr w3 b g X ad n cd aa m ca ds as_ r := by
  obtain ⟨X2, x1, x2, x3, x4, G⟩ := h.ga
  exact ⟨h.tp.keep k (by simp) (by simp), h.kb.trans (k.mono (by simp)), h.nd, h.na, own_keep h.od k (by simp),
    ⟨X2, x1, fun z hz => Nat.lt_of_lt_of_le (x2 z hz) k.size, x3, x4, G.step k (by simp) (by simp) (fun z hz => Or.inl hz)⟩, h.dis, h.bX, h.bl, h.gl⟩
theorem PfI.alloc (h : PfI wr w2 b g X ad n cd aa m ca ds as_ r) (x : Obj) : PfI wr (w2.alloc x) b g X ad n cd aa m ca ds as_ r := h.keep ((Kept.refl _ _).alloc _)
theorem PfI.read (h : PfI wr w2 b g X ad n cd aa m ca ds as_ r) (k : Kept [b] w2 w3) (tp : TpAt 210 w3 b g r') : PfI wr w3 b g X ad n cd aa m ca ds as_ r' := by
  obtain ⟨X2, x1, x2, x3, x4, G⟩ := h.ga
  have hb := h.bl
  have h1 := h.ged
  have h2 := h.gea
  have e1 : ∀ z ∈ obl (.slice ad n cd), z ∉ [b] := fun z hz hm => by have := h1 z hz; rw [List.mem_singleton] at hm; omega
  have e2 : ∀ z ∈ obl (.slice aa m ca), z ∉ [b] := fun z hz hm => by have := h2 z hz; rw [List.mem_singleton] at hm; omega
  exact ⟨tp, h.kb.trans k, h.nd, h.na, own_keep h.od k e1,
    ⟨X2, x1, fun z hz => Nat.lt_of_lt_of_le (x2 z hz) k.size, x3, x4, G.step k e2 (fun z hz _ => by rw [List.mem_singleton] at hz; subst hz; exact x1 _ h.bX) (fun z hz => Or.inl hz)⟩, h.dis, h.bX, h.bl, h.gl⟩
theorem PfI.pushd (h : PfI wr w2 b g X ad n cd aa m ca ds as_ r) {x : Int} (k : Kept (obl (.slice ad n cd)) w2 w3) (hn : n' = n + 1) (own1 : w3.ownsRow wr.heap.size 3 1 (.slice ad' n' cd') n' (ints (ds ++ [x])))
    (hat : ∀ z ∈ obl (.slice ad' n' cd'), z ∈ obl (.slice ad n cd) ∨ z = w2.heap.size) : PfI wr w3 b g X ad' n' cd' aa m ca (ds ++ [x]) as_ r := by
  obtain ⟨X2, x1, x2, x3, x4, G⟩ := h.ga
  have hb := h.bl
  have hg := h.gl
  have h1 := h.ged
  have h2 := h.gea
  have hs := k.size
  have own2 := own_ge own1
  refine ⟨h.tp.keep k (fun hm => by have := h1 _ hm; omega) (fun hm => by have := h1 _ hm; omega), h.kb.then_ k (fun z hz hm => by have := h1 z hm; omega), by rw [hn, h.nd]; simp, h.na, own1,
    ⟨X2 ++ obl (.slice ad' n' cd'), fun z hz => List.mem_append_left _ (x1 z hz), fun z hz => ?_, fun z hz => List.mem_append_right _ hz, fun z hz => List.mem_append_left _ (x4 z hz), G.step k (fun z hz hm => h.dis z hm hz) (fun z hz _ => x3 z hz) (fun z hz => ?_)⟩, ?_, h.bX, h.bl, h.gl⟩
  · rcases List.mem_append.1 hz with h | h
    · have := x2 z h; omega
    · exact (own2 z h).2
  · rcases List.mem_append.1 hz with h | h
    · exact Or.inl h
    · rcases hat z h with e | e
      · exact Or.inl (x3 z e)
      · exact Or.inr (by omega)
  · intro z hz hm
    rcases hat z hz with e | e
    · exact h.dis z e hm
    · have := h2 z hm; omega
theorem PfI.pusha (h : PfI wr w2 b g X ad n cd aa m ca ds as_ r) {x : List Int} {X2 : List Nat} (x1 : ∀ z ∈ X, z ∈ X2) (x2 : ∀ z ∈ X2, z < w2.heap.size) (x3 : ∀ z ∈ obl (.slice ad n cd), z ∈ X2)
    (k : Kept (obl (.slice aa m ca)) w2 w3) (hm : m' = m + 1) (G : Grow ListR 1 24 wr.heap.size (X2 ++ obl (.slice aa' m' ca')) w3 (.slice aa' m' ca') (as_ ++ [x]))
    (hat : ∀ z ∈ obl (.slice aa' m' ca'), z ∈ obl (.slice aa m ca) ∨ z = w2.heap.size) : PfI wr w3 b g X ad n cd aa' m' ca' ds (as_ ++ [x]) r := by
  have hb := h.bl
  have hg := h.gl
  have h1 := h.ged
  have h2 := h.gea
  have hs := k.size
  refine ⟨h.tp.keep k (fun hm => by have := h2 _ hm; omega) (fun hm => by have := h2 _ hm; omega), h.kb.then_ k (fun z hz hm => by have := h2 z hm; omega), h.nd, by rw [hm, h.na]; simp, own_keep h.od k (fun z hz hm => h.dis z hz hm),
    ⟨X2 ++ obl (.slice aa' m' ca'), fun z hz => List.mem_append_left _ (x1 z hz), fun z hz => ?_, fun z hz => List.mem_append_left _ (x3 z hz), fun z hz => List.mem_append_right _ hz, G⟩, ?_, h.bX, h.bl, h.gl⟩
  · rcases List.mem_append.1 hz with h | h
    · have := x2 z h; omega
    · exact (G.ge z h).2
  · intro z hz hm
    rcases hat z hm with e | e
    · exact h.dis z hz e
    · have := h1 z hz; omega
end

/-- what the rounds of a proof keep -/
structure PfO (w wr : World) (b g po B : Nat) (X : List Nat) (a1 : Option Addr) (n1 c1 : Nat) (a2 : Option Addr) (n2 c2 : Nat) (A : List (List Int)) (C : List (List (List Int))) (r : Tp) : Prop where
  tp : TpAt 210 wr b g r
  bp : Blk wr po 133 #[.slice a1 n1 c1, .slice a2 n2 c2]
  e1 : n1 = A.length
  e2 : n2 = C.length
  g1 : Grow ListR 1 24 B X wr (.slice a1 n1 c1) A
  g2 : Grow ListsR 1 55 B X wr (.slice a2 n2 c2) C
  dis : ∀ z ∈ obl (.slice a1 n1 c1), z ∉ obl (.slice a2 n2 c2)
  bX : b ∈ X
  pX : po ∈ X
  hX : ∀ z ∈ X, z < wr.heap.size
  x1 : ∀ z ∈ obl (.slice a1 n1 c1), z ∈ X
  x2 : ∀ z ∈ obl (.slice a2 n2 c2), z ∈ X
  lb : b < B
  lp : po < B
  lg : g < B
  le : B ≤ wr.heap.size
  bp_ : b ≠ po
  gp : g ≠ po
  k0 : Kept [] w wr
  wb : w.heap.size < b
  wp : w.heap.size < po
  qX : w.heap.size ∈ X
  bq : Blk wr w.heap.size 133 #[.slice none 0 0, .slice none 0 0]
  rX : ∀ z, z < w.heap.size → z ∈ X
section
variable {w wr w2 w3 : World} {b g po B : Nat} {X : List Nat} {a1 a2 a1' a2' : Option Addr} {n1 n1' c1 c1' n2 n2' c2 c2' : Nat} {A : List (List Int)} {C : List (List (List Int))} {r r' : Tp}
theorem PfO.ge1 (h : PfO w wr b g po B X a1 n1 c1 a2 n2 c2 A C r) : ∀ z ∈ obl (.slice a1 n1 c1), B ≤ z ∧ z < wr.heap.size := h.g1.ge
theorem PfO.ge2 (h : PfO w wr b g po B X a1 n1 c1 a2 n2 c2 A C r) : ∀ z ∈ obl (.slice a2 n2 c2), B ≤ z ∧ z < wr.heap.size := h.g2.ge
theorem PfO.read (h : PfO w wr b g po B X a1 n1 c1 a2 n2 c2 A C r) (k : Kept [b] wr w2) (tp : TpAt 210 w2 b g r') : PfO w w2 b g po B X a1 n1 c1 a2 n2 c2 A C r' := by
  have hb := h.lb
  have h1 := h.ge1
  have h2 := h.ge2
  have hbp := h.bp_
  have hwb := h.wb
  refine ⟨tp, h.bp.kept k (by simp; omega), h.e1, h.e2, h.g1.step k (fun z hz hm => ?_) (fun z hz _ => ?_) (fun z hz => Or.inl hz), h.g2.step k (fun z hz hm => ?_) (fun z hz _ => ?_) (fun z hz => Or.inl hz), h.dis, h.bX, h.pX, fun z hz => Nat.lt_of_lt_of_le (h.hX z hz) k.size, h.x1, h.x2, h.lb, h.lp, h.lg, Nat.le_trans h.le k.size, h.bp_, h.gp,
    h.k0.fresh k (fun z hz => by rw [List.mem_singleton] at hz; omega), h.wb, h.wp, h.qX, h.bq.kept k (by simp; omega), h.rX⟩
  · have := h1 z hz; rw [List.mem_singleton] at hm; omega
  · rw [List.mem_singleton] at hz; subst hz; exact h.bX
  · have := h2 z hz; rw [List.mem_singleton] at hm; omega
  · rw [List.mem_singleton] at hz; subst hz; exact h.bX
/-- both lists have grown, and are stored -/
theorem PfO.push (h : PfO w wr b g po B X a1 n1 c1 a2 n2 c2 A C r) {d : List Int} {e : List (List Int)} {X' : List Nat} (k : Kept (obl (.slice a1 n1 c1) ++ obl (.slice a2 n2 c2)) wr w2)
    (G1 : Grow ListR 1 24 B X' w2 (.slice a1' n1' c1') (A ++ [d])) (G2 : Grow ListsR 1 55 B X' w2 (.slice a2' n2' c2') (C ++ [e])) (m1 : n1' = n1 + 1) (m2 : n2' = n2 + 1)
    (hX' : ∀ z ∈ X, z ∈ X') (hlt : ∀ z ∈ X', z < w2.heap.size) (hd : ∀ z ∈ obl (.slice a1' n1' c1'), z ∉ obl (.slice a2' n2' c2'))
    (y1 : ∀ z ∈ obl (.slice a1' n1' c1'), z ∈ X') (y2 : ∀ z ∈ obl (.slice a2' n2' c2'), z ∈ X') :
    PfO w ((w2.setCell ⟨po, 0, none⟩ (.slice a1' n1' c1')).setCell ⟨po, 1, none⟩ (.slice a2' n2' c2')) b g po B X' a1' n1' c1' a2' n2' c2' (A ++ [d]) (C ++ [e]) r := by
  have h1 := h.ge1
  have h2 := h.ge2
  have hb := h.lb
  have hp := h.lp
  have hg := h.lg
  have hbp := h.bp_
  have hgp := h.gp
  have hwp := h.wp
  have hS : ∀ z ∈ obl (.slice a1 n1 c1) ++ obl (.slice a2 n2 c2), B ≤ z := fun z hz => by
    rcases List.mem_append.1 hz with e | e
    · exact (h1 z e).1
    · exact (h2 z e).1
  have kp : Kept [po] w2 ((w2.setCell ⟨po, 0, none⟩ (.slice a1' n1' c1')).setCell ⟨po, 1, none⟩ (.slice a2' n2' c2')) := ((Kept.refl _ _).setCell (by simp) _).setCell (by simp) _
  have hsz : ((w2.setCell ⟨po, 0, none⟩ (.slice a1' n1' c1')).setCell ⟨po, 1, none⟩ (.slice a2' n2' c2')).heap.size = w2.heap.size := by simp [World.setCell]
  have hpX : ∀ z ∈ [po], z < w2.heap.size → z ∈ X' := fun z hz _ => by rw [List.mem_singleton] at hz; subst hz; exact hX' _ h.pX
  have q1 := G1.ge
  have q2 := G2.ge
  refine ⟨(h.tp.keep k (fun hm => by have := hS _ hm; omega) (fun hm => by have := hS _ hm; omega)).keep kp (by simp; omega) (by simp; omega), ?_, by rw [m1, h.e1]; simp, by rw [m2, h.e2]; simp,
    G1.step kp (fun z hz hm => ?_) hpX (fun z hz => Or.inl hz), G2.step kp (fun z hz hm => ?_) hpX (fun z hz => Or.inl hz), hd, hX' _ h.bX, hX' _ h.pX, fun z hz => by rw [hsz]; exact hlt z hz, y1, y2, h.lb, h.lp, h.lg, ?_, h.bp_, h.gp, ?_, h.wb, h.wp, hX' _ h.qX, ?_, fun z hz => hX' z (h.rX z hz)⟩
  · have hb2 := h.bp.kept k (fun hm => by have := hS _ hm; omega)
    simpa using (hb2.set_ 0 (.slice a1' n1' c1')).set_ 1 (.slice a2' n2' c2')
  · have := q1 z hz; rw [List.mem_singleton] at hm; omega
  · have := q2 z hz; rw [List.mem_singleton] at hm; omega
  · rw [hsz]; have := h.le; have := k.size; omega
  · have hk0 := h.k0.size
    have hle := h.le
    exact ((h.k0.fresh k (fun z hz => by have := hS z hz; have := h.wb; omega)).setCell (Or.inr (Nat.le_of_lt hwp)) _).setCell (Or.inr (Nat.le_of_lt hwp)) _
  · exact (h.bq.kept k (fun hm => by have := hS _ hm; omega)).kept kp (by simp; omega)

theorem PfO.later2 (h : PfO w wr b g po B X a1 n1 c1 a2 n2 c2 A C r) (k : Kept (obl (.slice a1 n1 c1)) wr w2) (t : ∀ z ∈ obl (.slice a1' n1' c1'), z ∈ obl (.slice a1 n1 c1) ∨ wr.heap.size ≤ z) :
    Grow ListsR 1 55 B (X ++ obl (.slice a1' n1' c1')) w2 (.slice a2 n2 c2) C :=
  h.g2.step k (fun z hz hm => h.dis z hm hz) (fun z hz _ => h.x1 z hz) fun z hz => by
    rcases List.mem_append.1 hz with e | e
    · exact Or.inl e
    · rcases t z e with e | e
      · exact Or.inl (h.x1 z e)
      · exact Or.inr e
theorem PfO.now1 (h : PfO w wr b g po B X a1 n1 c1 a2 n2 c2 A C r) (k : Kept [] wr w2) : Grow ListR 1 24 B X w2 (.slice a1 n1 c1) A := h.g1.step k (by simp) (by simp) fun _ hz => Or.inl hz
/-- first the one, then the other -/
theorem PfO.order12 (h : PfO w wr b g po B X a1 n1 c1 a2 n2 c2 A C r) {u1 u2 : World} {d : List Int} {e : List (List Int)} (ku1 : Kept [] wr u1) (k1 : Kept (obl (.slice a1 n1 c1)) u1 w2)
    (G1 : Grow ListR 1 24 B (X ++ obl (.slice a1' n1' c1')) w2 (.slice a1' n1' c1') (A ++ [d])) (t1 : ∀ z ∈ obl (.slice a1' n1' c1'), z ∈ obl (.slice a1 n1 c1) ∨ z = u1.heap.size) (ku2 : Kept [] w2 u2) (k2 : Kept (obl (.slice a2 n2 c2)) u2 w3)
    (G2 : Grow ListsR 1 55 B ((X ++ obl (.slice a1' n1' c1')) ++ obl (.slice a2' n2' c2')) w3 (.slice a2' n2' c2') (C ++ [e])) (t2 : ∀ z ∈ obl (.slice a2' n2' c2'), z ∈ obl (.slice a2 n2 c2) ∨ z = u2.heap.size) (m1 : n1' = n1 + 1) (m2 : n2' = n2 + 1) :
    ∃ X', PfO w ((w3.setCell ⟨po, 0, none⟩ (.slice a1' n1' c1')).setCell ⟨po, 1, none⟩ (.slice a2' n2' c2')) b g po B X' a1' n1' c1' a2' n2' c2' (A ++ [d]) (C ++ [e]) r := by
  have s1 := ku1.size
  have s2 := k1.size
  have s3 := ku2.size
  have s4 := k2.size
  have h1 := h.ge1
  have h2 := h.ge2
  have q1 := G1.ge
  have q2 := G2.ge
  have kk : Kept (obl (.slice a2 n2 c2)) w2 w3 := (ku2.mono (by simp)).trans k2
  have d12 : ∀ z ∈ obl (.slice a1' n1' c1'), z ∉ obl (.slice a2 n2 c2) := fun z hz hm => by
    rcases t1 z hz with e | e
    · exact h.dis z e hm
    · have := h2 z hm; omega
  refine ⟨(X ++ obl (.slice a1' n1' c1')) ++ obl (.slice a2' n2' c2'), h.push ?_ (G1.step kk d12 (fun z hz _ => List.mem_append_left _ (h.x2 z hz)) fun z hz => ?_) G2 m1 m2 (fun z hz => List.mem_append_left _ (List.mem_append_left _ hz)) (fun z hz => ?_) (fun z hz hm => ?_)
    (fun z hz => List.mem_append_left _ (List.mem_append_right _ hz)) (fun z hz => List.mem_append_right _ hz)⟩
  · exact (((ku1.mono (by simp)).trans (k1.mono fun z _ hz => List.mem_append_left _ hz)).trans (kk.mono fun z _ hz => List.mem_append_right _ hz))
  · rcases List.mem_append.1 hz with e | e
    · exact Or.inl e
    · rcases t2 z e with e | e
      · exact Or.inl (List.mem_append_left _ (h.x2 z e))
      · exact Or.inr (by omega)
  · rcases List.mem_append.1 hz with e | e
    · rcases List.mem_append.1 e with e | e
      · have := h.hX z e; omega
      · have := q1 z e; omega
    · exact (q2 z e).2
  · rcases t2 z hm with e | e
    · exact d12 z hz e
    · have := q1 z hz; omega
end
end Go.Proofs.YtcidfldeiklcjaaGreatDoor
