/- The hash function's compression, as the reference does it. -/
import Derived.Test.YtpcdfepndmconaaGreatDoorSr1
namespace Go.Proofs.YtpcdfepndmconaaGreatDoor
open Go.RowKit ShaP

/-- eight words of a block that may be written -/
structure St8 (w : World) (B : Nat) (l : List W) : Prop where
  lt : B < w.heap.size
  cell : ∀ j, j < 8 → w.cell? ⟨B, j, none⟩ = some (wv (l.getD j 0))
  fz : ∀ j, j < 8 → w.frozen? ⟨B, j, none⟩ = false
theorem St8.of_own {w : World} {base B cp : Nat} {T : TypeId} {l : List W} (h : w.ownsRow base T 1 (.slice (some ⟨B, 0, none⟩) 8 cp) 8 (wvs l)) (hl : l.length = 8) : St8 w B l := by
  refine ⟨(h.lt B rfl).2, fun j hj => ?_, fun j hj => ?_⟩
  · have := h.cells rfl j _ (wvs_at (l := l) (k := j) (by omega))
    rw [add_cell, Nat.zero_add] at this
    exact this
  · rcases h.2 with ⟨h0, _⟩ | ⟨g, cap, cur, hv, _, hg, _⟩
    · cases h0
    injection hv with e1 _ e3
    injection e1 with e1
    injection e1 with e1 _ _
    subst e1
    simp [World.frozen?, hg]
theorem St8.of_blk {w : World} {B : Nat} {T : TypeId} {l : List W} (h : Blk w B T (wvs l).toArray) (hl : l.length = 8) : St8 w B l :=
  ⟨h.lt, fun j hj => (h.cell j).trans (wvs_get (by omega)), fun j _ => h.frozen j⟩
theorem St8.kept {S : List Nat} {w w' : World} {B : Nat} {l : List W} (h : St8 w B l) (k : Kept S w w') (hB : B ∉ S) : St8 w' B l :=
  ⟨Nat.lt_of_lt_of_le h.lt k.size, fun j hj => (k.cell (p := ⟨B, j, none⟩) h.lt hB).trans (h.cell j hj), fun j hj => (k.frozen (p := ⟨B, j, none⟩) h.lt hB).trans (h.fz j hj)⟩
theorem St8.row {w : World} {B cp : Nat} {l : List W} (h : St8 w B l) (hl : l.length = 8) (hc : 8 ≤ cp) : Row w 1 (.slice (some ⟨B, 0, none⟩) 8 cp) 8 (wvs l) := by
  refine ⟨by simp [wvs, hl], by omega, _, _, rfl, hc, fun _ => ⟨B, 0, rfl, fun k u hu => ?_⟩⟩
  have hk : k < 8 := by
    have := (List.getElem?_eq_some_iff.1 hu).1
    simpa [wvs, hl] using this
  rw [wvs_at (l := l) (k := k) (by omega)] at hu
  rw [Nat.zero_add, h.cell k hk]
  exact hu
theorem mixL_getD (s h : S8) (i : Nat) (hi : i < 8) : (mixL s h i).getD i 0 = s.list.getD i 0 := by
  rcases (by omega : i = 0 ∨ i = 1 ∨ i = 2 ∨ i = 3 ∨ i = 4 ∨ i = 5 ∨ i = 6 ∨ i = 7) with rfl | rfl | rfl | rfl | rfl | rfl | rfl | rfl <;> rfl
theorem mixL_next (s h : S8) (i j : Nat) (hi : i < 8) (hj : j < 8) : (mixL s h (i + 1)).getD j 0 = if j = i then s.list.getD i 0 + h.list.getD i 0 else (mixL s h i).getD j 0 := by
  simp only [mixL, List.getD, List.getElem?_map, List.getElem?_range hj, Option.map_some, Option.getD_some]
  by_cases e : j = i
  · subst e; simp
  · rw [if_neg e]
    by_cases h2 : j < i
    · rw [if_pos h2, if_pos (by omega)]
    · rw [if_neg h2, if_neg (by omega)]
theorem St8.set_ {w : World} {B i : Nat} {s h : S8} (hs : St8 w B (mixL s h i)) (hi : i < 8) : St8 (w.setCell ⟨B, i, none⟩ (wv (s.list.getD i 0 + h.list.getD i 0))) B (mixL s h (i + 1)) := by
  refine ⟨by simpa using hs.lt, fun j hj => ?_, fun j hj => by rw [World.frozen?_setCell]; exact hs.fz j hj⟩
  rw [mixL_next s h i j hi hj]
  by_cases e : j = i
  · subst e
    rw [if_pos rfl, World.cell?_setCell_same _ _ _ (hs.cell j hj)]
  · rw [if_neg e, World.cell?_setCell_other _ _ _ _ (fun h => e (by injection h with _ h2 _; exact h2.symm))]
    exact hs.cell j hj
theorem kTab_len : kTab.length = 64 := by kernel_rfl
theorem S8.len (s : S8) : s.list.length = 8 := rfl

set_option maxRecDepth 100000 in
set_option maxHeartbeats 8000000 in
theorem rblock_any (hv v : Value) (h : S8) (bs : List UInt8) (w : World) (hh : Row w 1 hv 8 (wvs h.list)) (hvv : Row w 1 v 64 (bcs bs)) :
    Calls Tryz.prog 219 #[hv, v] w fun e w' => ∃ B cp, e = .returned (.slice (some ⟨B, 0, none⟩) 8 cp) ∧ 8 ≤ cp ∧ w.heap.size ≤ B ∧ St8 w' B (ShaP.mix h bs).list ∧ Kept [] w w' := by
  obtain ⟨ah, chh, rfl, _, hch⟩ := hh.form
  obtain ⟨bh, oh, rfl, hhc⟩ := hh.at_ (by omega)
  have hhl : bh < w.heap.size := World.block_lt_of_cell? w _ (hhc 0 _ (wvs_at (l := h.list) (k := 0) (by rw [S8.len]; omega)))
  have HHC : Hid (∀ wr, Kept [] w wr → ∀ j, j < 8 → wr.cell? ⟨bh, oh + j, none⟩ = some (wv (h.list.getD j 0))) := fun wr hk j hj => (hk.cell (p := ⟨bh, oh + j, none⟩) hhl (by simp)).trans (hhc j _ (wvs_at (l := h.list) (k := j) (by rw [S8.len]; omega)))
  have HR := Lib.hid hvv
  obtain ⟨iw, hi, hz0, hz1, hz2⟩ := info_parts infoW
  clear hh hvv hhc
  go_enter Tryz.func219, Tryz.ntmps219
  go_upto_region 1 with (fail)
  go_wp2_with (go_at_call 237; refine (rwords_any v bs _ HR.out).mono ?_)
  rintro e w1 ⟨⟨v5, rfl, o5⟩, k1⟩
  obtain ⟨b5, c5, rfl, hb5, hl5⟩ := o5.form (by omega)
  go_wp2_with (go_at_call 238; refine (adds_any _).mono ?_)
  rintro e w2 ⟨rfl, hw2⟩
  have k2 : Kept [] w1 w2 := hw2 ▸ (Kept.refl _ _).alloc _
  have z6 : Blk w2 w1.heap.size 218 (wvs kTab).toArray := hw2 ▸ Blk.new _ _ _
  have z5 : ∀ j, j < 64 → w2.cell? ⟨b5, j, none⟩ = some (wv ((sched bs 64).getD j 0)) := fun j hj => by
    have := o5.cells rfl j _ (wvs_at (l := sched bs 64) (k := j) (by rw [sched_length]; omega))
    rw [add_cell, Nat.zero_add] at this
    exact (k2.cell (p := ⟨b5, j, none⟩) hl5 (by simp)).trans this
  obtain ⟨b6, hb6⟩ : ∃ b, w1.heap.size = b := ⟨_, rfl⟩
  rw [hb6] at z6 ⊢
  have hl6 : b6 < w2.heap.size := z6.lt
  have hl5' : b5 < w2.heap.size := Nat.lt_of_lt_of_le hl5 k2.size
  have K2 := Lib.hid (k1.trans k2)
  have Z5 := Lib.hid z5
  have Z6 := Lib.hid z6
  have hww : w.heap.size ≤ w2.heap.size := (k1.trans k2).size
  clear z5 z6 k1 k2 hw2 hb6 o5 hl5
  have HHW := Lib.hid (HHC.out w2 K2.out)
  have NWS : Hid (∀ ob j u, (wvs h.list)[j]? = some u → (w2.alloc ob).cell? ((⟨bh, oh, none⟩ : Addr).add j) = some u) := fun ob j u hu => by
    have hj : j < 8 := by have := (List.getElem?_eq_some_iff.1 hu).1; simpa [wvs, S8.len] using this
    rw [wvs_at (l := h.list) (k := j) (by rw [S8.len]; omega)] at hu
    rw [add_cell]
    exact ((((Kept.refl [] w2).alloc ob).cell (p := ⟨bh, oh + j, none⟩) (Nat.lt_of_lt_of_le hhl hww) (by simp)).trans (HHW.out j hj)).trans hu
  go_upto_region 4 with (at_builtin; refine wpList_append_grows _ rfl _ _ _ rfl 218 iw (.int .u32 0) 1 4 Tryz.underlying224 hi hz0 hz1 hz2 rfl (by decide) (some ⟨w2.heap.size, 0, none⟩) 0 0 [] rfl (by simp) rfl (by intro b _ j u hu; simp at hu) ⟨bh, oh, none⟩ 8 chh (wvs h.list) rfl rfl (NWS.out _) (by intro u hu; exact (by simp only [wvs, List.mem_map] at hu; obtain ⟨y, _, rfl⟩ := hu; rfl)) (by omega) (by unfold maxLen; omega) (by omega) ?_; intro v7 w3 o7 g7)
  rw [List.nil_append, Nat.zero_add] at o7
  rw [World.size_alloc] at o7
  obtain ⟨B7, cp7, rfl, hB7, hl7⟩ := o7.form (by omega)
  have st7 := St8.of_own o7 (S8.len h)
  have hcp7 : 8 ≤ cp7 := by
    have := (Row.of_own o7 (by omega)).form
    obtain ⟨a, c, hvv, _, h2⟩ := this
    injection hvv with _ _ e3
    omega
  have k3 : Kept [] w2 w3 := ((Kept.refl _ _).alloc _).grown g7 (fun k h => by cases h)
  have ST7 := Lib.hid st7
  have K3 := Lib.hid k3
  clear st7 k3 o7 g7 NWS HHW
  go_upto_region 5 with (fail)
  go_loopw [7, 8, 9, 10, 11, 12, 13] (fun v7 v8 _ _ _ _ _ wr => ∃ (k B cp : Nat), k ≤ 64 ∧ v8 = .int .i64 k ∧ v7 = .slice (some ⟨B, 0, none⟩) 8 cp ∧ 8 ≤ cp ∧ w.heap.size ≤ B ∧ St8 wr B (rounds h (sched bs 64) k).list ∧ Kept [] w2 wr) (fun _ v8 _ _ _ _ _ _ => 64 - (intOf v8).toNat)
  case atStart => exact ⟨0, B7, cp7, by omega, rfl, rfl, hcp7, by omega, ST7.out, K3.out⟩
  case round =>
    obtain ⟨k, B, cp, hk, rfl, rfl, hcp, hB, hst, hkr⟩ := hrel
    by_cases hlt : k < 64
    · have hn : (rounds h (sched bs 64) (k + 1)) = ShaP.step (rounds h (sched bs 64) k) (kTab.getD k 0) ((sched bs 64).getD k 0) := rfl
      have xk : wr.cell? ⟨b6, k, none⟩ = some (wv (kTab.getD k 0)) := ((Z6.out.kept hkr (by simp)).cell k).trans (wvs_get (by rw [kTab_len]; omega))
      have xw : wr.cell? ⟨b5, k, none⟩ = some (wv ((sched bs 64).getD k 0)) := (hkr.cell (p := ⟨b5, k, none⟩) hl5' (by simp)).trans (Z5.out k hlt)
      obtain ⟨s, hs⟩ : ∃ s, rounds h (sched bs 64) k = s := ⟨_, rfl⟩
      obtain ⟨kk, hkk⟩ : ∃ x, kTab.getD k 0 = x := ⟨_, rfl⟩
      obtain ⟨ww, hww2⟩ : ∃ x, (sched bs 64).getD k 0 = x := ⟨_, rfl⟩
      rw [hs, hkk, hww2] at hn
      rw [hs] at hst
      rw [hkk] at xk
      rw [hww2] at xw
      have x0 : wr.cell? ⟨B, 0, none⟩ = some (wv s.a) := hst.cell 0 (by omega)
      have x1 : wr.cell? ⟨B, 1, none⟩ = some (wv s.b) := hst.cell 1 (by omega)
      have x2 : wr.cell? ⟨B, 2, none⟩ = some (wv s.c) := hst.cell 2 (by omega)
      have x3 : wr.cell? ⟨B, 3, none⟩ = some (wv s.d) := hst.cell 3 (by omega)
      have x4 : wr.cell? ⟨B, 4, none⟩ = some (wv s.e) := hst.cell 4 (by omega)
      have x5 : wr.cell? ⟨B, 5, none⟩ = some (wv s.f) := hst.cell 5 (by omega)
      have x6 : wr.cell? ⟨B, 6, none⟩ = some (wv s.g) := hst.cell 6 (by omega)
      have x7 : wr.cell? ⟨B, 7, none⟩ = some (wv s.h) := hst.cell 7 (by omega)
      have HN : Hid (wvs (rounds h (sched bs 64) (k + 1)).list = [wv (tmp s kk ww + (rotr s.a 2 ^^^ rotr s.a 13 ^^^ rotr s.a 22) + maj s.a s.b s.c), wv s.a, wv s.b, wv s.c, wv (s.d + tmp s kk ww), wv s.e, wv s.f, wv s.g]) := by rw [hn]; rfl
      clear hs hkk hww2 hn hst
      have f1 := xor_w (rotr s.e 6) (rotr s.e 11)
      have f2 := xor_w (rotr s.e 6 ^^^ rotr s.e 11) (rotr s.e 25)
      have f3 := and_w s.e s.f
      have f4 : bits .xor .u32 (if IntKind.u32.signed = true then -1 else IntKind.u32.max) (s.e.toNat : Int) = ((~~~s.e).toNat : Int) := not_w s.e
      have f5 := and_w (~~~s.e) s.g
      have f5b := xor_w (s.e &&& s.f) (~~~s.e &&& s.g)
      have c1 : (s.e &&& s.f) ^^^ (~~~s.e &&& s.g) = ch s.e s.f s.g := rfl
      rw [c1] at f5b
      have f6 := add_w s.h (rotr s.e 6 ^^^ rotr s.e 11 ^^^ rotr s.e 25)
      have f7 := add_w (s.h + (rotr s.e 6 ^^^ rotr s.e 11 ^^^ rotr s.e 25)) (ch s.e s.f s.g)
      have f8 := add_w (s.h + (rotr s.e 6 ^^^ rotr s.e 11 ^^^ rotr s.e 25) + ch s.e s.f s.g) kk
      have f9 := add_w (s.h + (rotr s.e 6 ^^^ rotr s.e 11 ^^^ rotr s.e 25) + ch s.e s.f s.g + kk) ww
      have ft : s.h + (rotr s.e 6 ^^^ rotr s.e 11 ^^^ rotr s.e 25) + ch s.e s.f s.g + kk + ww = tmp s kk ww := rfl
      rw [ft] at f9
      have g1 := xor_w (rotr s.a 2) (rotr s.a 13)
      have g2 := xor_w (rotr s.a 2 ^^^ rotr s.a 13) (rotr s.a 22)
      have g3 := and_w s.a s.b
      have g4 := and_w s.a s.c
      have g5 := xor_w (s.a &&& s.b) (s.a &&& s.c)
      have g5b := and_w s.b s.c
      have g6 := xor_w ((s.a &&& s.b) ^^^ (s.a &&& s.c)) (s.b &&& s.c)
      have c2 : (s.a &&& s.b) ^^^ (s.a &&& s.c) ^^^ (s.b &&& s.c) = maj s.a s.b s.c := rfl
      rw [c2] at g6
      have g7 := add_w (tmp s kk ww) (rotr s.a 2 ^^^ rotr s.a 13 ^^^ rotr s.a 22)
      have g8 := add_w (tmp s kk ww + (rotr s.a 2 ^^^ rotr s.a 13 ^^^ rotr s.a 22)) (maj s.a s.b s.c)
      have g9 := add_w s.d (tmp s kk ww)
      clear ft c1 c2
      have R6 : Hid (∀ w, Calls Tryz.prog 239 #[wv s.e, .int .i64 6] w fun e w' => e = .returned (wv (rotr s.e 6)) ∧ Kept [] w w') := fun w => turn_any s.e 6 w (by omega) (by omega)
      have R11 : Hid (∀ w, Calls Tryz.prog 239 #[wv s.e, .int .i64 11] w fun e w' => e = .returned (wv (rotr s.e 11)) ∧ Kept [] w w') := fun w => turn_any s.e 11 w (by omega) (by omega)
      have R25 : Hid (∀ w, Calls Tryz.prog 239 #[wv s.e, .int .i64 25] w fun e w' => e = .returned (wv (rotr s.e 25)) ∧ Kept [] w w') := fun w => turn_any s.e 25 w (by omega) (by omega)
      have R2 : Hid (∀ w, Calls Tryz.prog 239 #[wv s.a, .int .i64 2] w fun e w' => e = .returned (wv (rotr s.a 2)) ∧ Kept [] w w') := fun w => turn_any s.a 2 w (by omega) (by omega)
      have R13 : Hid (∀ w, Calls Tryz.prog 239 #[wv s.a, .int .i64 13] w fun e w' => e = .returned (wv (rotr s.a 13)) ∧ Kept [] w w') := fun w => turn_any s.a 13 w (by omega) (by omega)
      have R22 : Hid (∀ w, Calls Tryz.prog 239 #[wv s.a, .int .i64 22] w fun e w' => e = .returned (wv (rotr s.a 22)) ∧ Kept [] w w') := fun w => turn_any s.a 22 w (by omega) (by omega)
      unfold wv at x0 x1 x2 x3 x4 x5 x6 x7 xk xw HN R6 R11 R25 R2 R13 R22
      obtain ⟨VA, hVA⟩ : ∃ A, (s.a).toNat = A := ⟨_, rfl⟩
      obtain ⟨VB, hVB⟩ : ∃ A, (s.b).toNat = A := ⟨_, rfl⟩
      obtain ⟨VC, hVC⟩ : ∃ A, (s.c).toNat = A := ⟨_, rfl⟩
      obtain ⟨VD, hVD⟩ : ∃ A, (s.d).toNat = A := ⟨_, rfl⟩
      obtain ⟨VE, hVE⟩ : ∃ A, (s.e).toNat = A := ⟨_, rfl⟩
      obtain ⟨VF, hVF⟩ : ∃ A, (s.f).toNat = A := ⟨_, rfl⟩
      obtain ⟨VG, hVG⟩ : ∃ A, (s.g).toNat = A := ⟨_, rfl⟩
      obtain ⟨VH, hVH⟩ : ∃ A, (s.h).toNat = A := ⟨_, rfl⟩
      obtain ⟨KK, hKK⟩ : ∃ A, (kk).toNat = A := ⟨_, rfl⟩
      obtain ⟨WW, hWW⟩ : ∃ A, (ww).toNat = A := ⟨_, rfl⟩
      obtain ⟨E6, hE6⟩ : ∃ A, (rotr s.e 6).toNat = A := ⟨_, rfl⟩
      obtain ⟨E11, hE11⟩ : ∃ A, (rotr s.e 11).toNat = A := ⟨_, rfl⟩
      obtain ⟨E25, hE25⟩ : ∃ A, (rotr s.e 25).toNat = A := ⟨_, rfl⟩
      obtain ⟨X1, hX1⟩ : ∃ A, (rotr s.e 6 ^^^ rotr s.e 11).toNat = A := ⟨_, rfl⟩
      obtain ⟨X2, hX2⟩ : ∃ A, (rotr s.e 6 ^^^ rotr s.e 11 ^^^ rotr s.e 25).toNat = A := ⟨_, rfl⟩
      obtain ⟨EF, hEF⟩ : ∃ A, (s.e &&& s.f).toNat = A := ⟨_, rfl⟩
      obtain ⟨NE, hNE⟩ : ∃ A, (~~~s.e).toNat = A := ⟨_, rfl⟩
      obtain ⟨NG, hNG⟩ : ∃ A, (~~~s.e &&& s.g).toNat = A := ⟨_, rfl⟩
      obtain ⟨CH, hCH⟩ : ∃ A, (ch s.e s.f s.g).toNat = A := ⟨_, rfl⟩
      obtain ⟨U1, hU1⟩ : ∃ A, (s.h + (rotr s.e 6 ^^^ rotr s.e 11 ^^^ rotr s.e 25)).toNat = A := ⟨_, rfl⟩
      obtain ⟨U2, hU2⟩ : ∃ A, (s.h + (rotr s.e 6 ^^^ rotr s.e 11 ^^^ rotr s.e 25) + ch s.e s.f s.g).toNat = A := ⟨_, rfl⟩
      obtain ⟨U3, hU3⟩ : ∃ A, (s.h + (rotr s.e 6 ^^^ rotr s.e 11 ^^^ rotr s.e 25) + ch s.e s.f s.g + kk).toNat = A := ⟨_, rfl⟩
      obtain ⟨TT, hTT⟩ : ∃ A, (tmp s kk ww).toNat = A := ⟨_, rfl⟩
      obtain ⟨A2, hA2⟩ : ∃ A, (rotr s.a 2).toNat = A := ⟨_, rfl⟩
      obtain ⟨A13, hA13⟩ : ∃ A, (rotr s.a 13).toNat = A := ⟨_, rfl⟩
      obtain ⟨A22, hA22⟩ : ∃ A, (rotr s.a 22).toNat = A := ⟨_, rfl⟩
      obtain ⟨Y1, hY1⟩ : ∃ A, (rotr s.a 2 ^^^ rotr s.a 13).toNat = A := ⟨_, rfl⟩
      obtain ⟨Y2, hY2⟩ : ∃ A, (rotr s.a 2 ^^^ rotr s.a 13 ^^^ rotr s.a 22).toNat = A := ⟨_, rfl⟩
      obtain ⟨AB, hAB⟩ : ∃ A, (s.a &&& s.b).toNat = A := ⟨_, rfl⟩
      obtain ⟨AC, hAC⟩ : ∃ A, (s.a &&& s.c).toNat = A := ⟨_, rfl⟩
      obtain ⟨XM, hXM⟩ : ∃ A, ((s.a &&& s.b) ^^^ (s.a &&& s.c)).toNat = A := ⟨_, rfl⟩
      obtain ⟨BC, hBC⟩ : ∃ A, (s.b &&& s.c).toNat = A := ⟨_, rfl⟩
      obtain ⟨MJ, hMJ⟩ : ∃ A, (maj s.a s.b s.c).toNat = A := ⟨_, rfl⟩
      obtain ⟨Z1, hZ1⟩ : ∃ A, (tmp s kk ww + (rotr s.a 2 ^^^ rotr s.a 13 ^^^ rotr s.a 22)).toNat = A := ⟨_, rfl⟩
      obtain ⟨NA, hNA⟩ : ∃ A, (tmp s kk ww + (rotr s.a 2 ^^^ rotr s.a 13 ^^^ rotr s.a 22) + maj s.a s.b s.c).toNat = A := ⟨_, rfl⟩
      obtain ⟨ND, hND⟩ : ∃ A, (s.d + tmp s kk ww).toNat = A := ⟨_, rfl⟩
      rw [hE6, hE11, hX1] at f1
      rw [hX1, hE25, hX2] at f2
      rw [hVE, hVF, hEF] at f3
      rw [hVE, hNE] at f4
      rw [hNE, hVG, hNG] at f5
      rw [hEF, hNG, hCH] at f5b
      rw [hVH, hX2, hU1] at f6
      rw [hU1, hCH, hU2] at f7
      rw [hU2, hKK, hU3] at f8
      rw [hU3, hWW, hTT] at f9
      rw [hA2, hA13, hY1] at g1
      rw [hY1, hA22, hY2] at g2
      rw [hVA, hVB, hAB] at g3
      rw [hVA, hVC, hAC] at g4
      rw [hAB, hAC, hXM] at g5
      rw [hVB, hVC, hBC] at g5b
      rw [hXM, hBC, hMJ] at g6
      rw [hTT, hY2, hZ1] at g7
      rw [hZ1, hMJ, hNA] at g8
      rw [hVD, hTT, hND] at g9
      rw [hVE, hE6] at R6
      rw [hVE, hE11] at R11
      rw [hVE, hE25] at R25
      rw [hVA, hA2] at R2
      rw [hVA, hA13] at R13
      rw [hVA, hA22] at R22
      rw [hVA] at x0
      rw [hVB] at x1
      rw [hVC] at x2
      rw [hVD] at x3
      rw [hVE] at x4
      rw [hVF] at x5
      rw [hVG] at x6
      rw [hVH] at x7
      rw [hKK] at xk
      rw [hWW] at xw
      rw [hNA, hVA, hVB, hVC, hND, hVE, hVF, hVG] at HN
      clear hVA hVB hVC hVD hVE hVF hVG hVH hKK hWW hE6 hE11 hE25 hX1 hX2 hEF hNE hNG hCH hU1 hU2 hU3 hTT hA2 hA13 hA22 hY1 hY2 hAB hAC hXM hBC hMJ hZ1 hNA hND
      have X0' : Hid (∀ w', Kept [] wr w' → _) := Kept.cellOf x0
      have X1' : Hid (∀ w', Kept [] wr w' → _) := Kept.cellOf x1
      have X2' : Hid (∀ w', Kept [] wr w' → _) := Kept.cellOf x2
      have X3' : Hid (∀ w', Kept [] wr w' → _) := Kept.cellOf x3
      have X4' : Hid (∀ w', Kept [] wr w' → _) := Kept.cellOf x4
      have X5' : Hid (∀ w', Kept [] wr w' → _) := Kept.cellOf x5
      have X6' : Hid (∀ w', Kept [] wr w' → _) := Kept.cellOf x6
      have X7' : Hid (∀ w', Kept [] wr w' → _) := Kept.cellOf x7
      have XK' : Hid (∀ w', Kept [] wr w' → _) := Kept.cellOf xk
      have XW' : Hid (∀ w', Kept [] wr w' → _) := Kept.cellOf xw
      clear x0 x1 x2 x3 x4 x5 x6 x7 xk xw
      have nk : (k : Int) < 64 := by omega
      go_upto_region 7 with (fail)
      have y4 := X4'.out
      go_region_held3 (fun w' => Kept [] wr w') (first | assumption | exact (Kept.refl _ _).drew | exact Kept.alloc (by assumption) _)
        (first
          | (go_at_call 239; with_reducible refine (kept_from (W := wr) (by assumption) (R6.out _)).mono ?_; rintro e w3 ⟨rfl, hk3⟩)
          | (go_at_call 239; with_reducible refine (kept_from (W := wr) (by assumption) (R11.out _)).mono ?_; rintro e w3 ⟨rfl, hk3⟩)
          | (go_at_call 239; with_reducible refine (kept_from (W := wr) (by assumption) (R25.out _)).mono ?_; rintro e w3 ⟨rfl, hk3⟩))
      clear y4
      go_upto_region 8 with (fail)
      have z3 := hk3
      have y4 := X4'.out _ hk3
      have y5 := X5'.out _ hk3
      have y6 := X6'.out _ hk3
      go_quiet ((fail))
      go_upto_region 9 with (fail)
      clear y4 y5 y6
      obtain ⟨w8, hw8⟩ : ∃ w8, w3.drewN nq = w8 := ⟨_, rfl⟩
      have z8 : Kept [] wr w8 := hw8 ▸ z3.drewN _
      rw [hw8]
      clear hw8
      have y7 := X7'.out _ z8
      have yk := XK'.out _ z8
      have yw := XW'.out _ z8
      go_quiet ((fail))
      go_upto_region 10 with (fail)
      clear y7 yk yw
      obtain ⟨w9, hw9⟩ : ∃ w9, w8.drewN nq = w9 := ⟨_, rfl⟩
      have z9 : Kept [] wr w9 := hw9 ▸ z8.drewN _
      rw [hw9]
      clear hw9
      have z10 : Kept [] wr w9.drew := z9.drew
      have y0 := X0'.out
      go_region_held3 (fun w' => Kept [] wr w') (first | assumption | exact (Kept.refl _ _).drew | exact Kept.alloc (by assumption) _)
        (first
          | (go_at_call 239; with_reducible refine (kept_from (W := wr) (by assumption) (R2.out _)).mono ?_; rintro e w3 ⟨rfl, hk4⟩)
          | (go_at_call 239; with_reducible refine (kept_from (W := wr) (by assumption) (R13.out _)).mono ?_; rintro e w3 ⟨rfl, hk4⟩)
          | (go_at_call 239; with_reducible refine (kept_from (W := wr) (by assumption) (R22.out _)).mono ?_; rintro e w3 ⟨rfl, hk4⟩))
      clear y0
      go_upto_region 11 with (fail)
      have z11 := hk4
      have y0 := X0'.out _ hk4
      have y1 := X1'.out _ hk4
      have y2 := X2'.out _ hk4
      go_quiet ((fail))
      go_upto_region 12 with (fail)
      clear y0 y1 y2
      obtain ⟨w12, hw12⟩ : ∃ w12, w3.drewN nq = w12 := ⟨_, rfl⟩
      have z12 : Kept [] wr w12 := hw12 ▸ z11.drewN _
      rw [hw12]
      clear hw12
      have y0 := X0'.out _ z12
      have y1 := X1'.out _ z12
      have y2 := X2'.out _ z12
      have y3 := X3'.out _ z12
      have y4 := X4'.out _ z12
      have y5 := X5'.out _ z12
      have y6 := X6'.out _ z12
      have HB : Hid (St8 ((w12.alloc (.cells #[.int .u32 NA, .int .u32 VA, .int .u32 VB, .int .u32 VC, .int .u32 ND, .int .u32 VE, .int .u32 VF, .int .u32 VG] 218)).drew) w12.heap.size (rounds h (sched bs 64) (k + 1)).list) :=
        (St8.of_blk (T := 218) (by rw [HN.out]; exact Blk.new _ _ _) (S8.len _)).kept (Kept.refl [] _).drew (by simp)
      have HK := Lib.hid (hkr.trans ((z12.alloc (.cells #[.int .u32 NA, .int .u32 VA, .int .u32 VB, .int .u32 VC, .int .u32 ND, .int .u32 VE, .int .u32 VF, .int .u32 VG] 218)).drew))
      have hsz12 : w.heap.size ≤ w12.heap.size := Nat.le_trans hww (hkr.trans z12).size
      go_still_tail 28, (by kernel_rfl)
      change wpList _ _ _ _ _ w12.drew
      go_wp2_with fail
      go_roundw
      case rel => exact ⟨k + 1, w12.heap.size, 8, by omega, by go_num, rfl, by omega, hsz12, HB.out, HK.out⟩
      case measure => simp [intOf]; omega
    · obtain rfl : k = 64 := by omega
      obtain ⟨s, hs⟩ : ∃ s, rounds h (sched bs 64) 64 = s := ⟨_, rfl⟩
      rw [hs] at hst
      have hfin : ShaP.mix h bs = plus s h := by rw [← hs]; rfl
      have hst0 : St8 wr B (mixL s h 0) := hst
      have HF := Lib.hid hfin
      have HST := Lib.hid hst0
      have HKR := Lib.hid hkr
      clear hs hst hst0 hfin hkr
      rw [show ((64 : Nat) : Int) = 64 from rfl]
      go_upto_region 14 with (fail)
      have k0 : Kept [] w wr := K2.out.trans HKR.out
      have hBl : B < wr.heap.size := HST.out.lt
      have hsz0 := k0.size
      have K0 := Lib.hid k0
      clear k0
      obtain ⟨wo, hwo⟩ : ∃ wo : World, wo = wr := ⟨_, rfl⟩
      subst hwo
      go_loopw [14] (fun vi wq => ∃ i : Nat, i ≤ 8 ∧ vi = .int .i64 i ∧ St8 wq B (mixL s h i) ∧ Kept [B] wo wq) (fun vi _ => 8 - (intOf vi).toNat)
      case atStart => exact ⟨0, by omega, rfl, HST.out, Kept.refl _ _⟩
      case round =>
        obtain ⟨i, hi8, rfl, hb, hkq⟩ := hrel
        by_cases hlt : i < 8
        · have x1 : wr.cell? ⟨B, i, none⟩ = some (wv (s.list.getD i 0)) := (hb.cell i hlt).trans (by rw [mixL_getD s h i hlt])
          have x2 : wr.cell? ⟨bh, oh + i, none⟩ = some (wv (h.list.getD i 0)) := (hkq.cell (p := ⟨bh, oh + i, none⟩) (Nat.lt_of_lt_of_le hhl hsz0) (by simp; omega)).trans (HHC.out wo K0.out i hlt)
          have fz := hb.fz i hlt
          have hset := hb.set_ hlt
          have HSET := Lib.hid hset
          have HK1 := Lib.hid (hkq.setCell (p := ⟨B, i, none⟩) (Or.inl (by simp)) (wv (s.list.getD i 0 + h.list.getD i 0)))
          have a1 := add_w (s.list.getD i 0) (h.list.getD i 0)
          obtain ⟨p, hp⟩ : ∃ p, s.list.getD i 0 = p := ⟨_, rfl⟩
          obtain ⟨q, hq⟩ : ∃ q, h.list.getD i 0 = q := ⟨_, rfl⟩
          rw [hp, hq] at a1 HSET HK1
          rw [hp] at x1
          rw [hq] at x2
          unfold wv at x1 x2 HSET HK1
          obtain ⟨PP, hP⟩ : ∃ A, p.toNat = A := ⟨_, rfl⟩
          obtain ⟨QQ, hQ⟩ : ∃ A, q.toNat = A := ⟨_, rfl⟩
          obtain ⟨T, hT⟩ : ∃ A, (p + q).toNat = A := ⟨_, rfl⟩
          rw [hP, hQ, hT] at a1
          rw [hP] at x1
          rw [hQ] at x2
          rw [hT] at HSET HK1
          have ni : (i : Int) < 8 := by omega
          clear hp hq hP hQ hT hset hb
          go_upto_region 16 with (fail)
          go_still_tail 12, (by kernel_rfl)
          change wpList _ _ _ _ _ wr.drew
          go_wp2_with fail
          go_roundw
          case rel => exact ⟨i + 1, by omega, by go_num, HSET.out.kept (Kept.refl [] _).drew (by simp), HK1.out.drew⟩
          case measure => simp [intOf]; omega
        · obtain rfl : i = 8 := by omega
          rw [mixL_all] at hb
          go_wp2_with fail
          go_ret
          exact ⟨B, cp, rfl, hcp, hB, by rw [HF.out]; exact hb, K0.out.then_ hkq (fun x hx hm => by simp at hm; omega)⟩
end Go.Proofs.YtpcdfepndmconaaGreatDoor
