/- The hash function's compression, as the program does it. -/
import Derived.Test.YtcidfldeiklcjaaGreatDoorSh2
import Derived.Deep.RegionHeld3
namespace Go.Proofs.YtcidfldeiklcjaaGreatDoor
open Go.RowKit ShaP

theorem wvs_get {l : List W} {k : Nat} (h : k < l.length) : (wvs l).toArray[k]? = some (wv (l.getD k 0)) := by simp [wvs, h, List.getD]
abbrev zero64 : Array Value := #[.int .u32 0, .int .u32 0, .int .u32 0, .int .u32 0, .int .u32 0, .int .u32 0, .int .u32 0, .int .u32 0, .int .u32 0, .int .u32 0, .int .u32 0, .int .u32 0, .int .u32 0, .int .u32 0, .int .u32 0, .int .u32 0, .int .u32 0, .int .u32 0, .int .u32 0, .int .u32 0, .int .u32 0, .int .u32 0, .int .u32 0, .int .u32 0, .int .u32 0, .int .u32 0, .int .u32 0, .int .u32 0, .int .u32 0, .int .u32 0, .int .u32 0, .int .u32 0, .int .u32 0, .int .u32 0, .int .u32 0, .int .u32 0, .int .u32 0, .int .u32 0, .int .u32 0, .int .u32 0, .int .u32 0, .int .u32 0, .int .u32 0, .int .u32 0, .int .u32 0, .int .u32 0, .int .u32 0, .int .u32 0, .int .u32 0, .int .u32 0, .int .u32 0, .int .u32 0, .int .u32 0, .int .u32 0, .int .u32 0, .int .u32 0, .int .u32 0, .int .u32 0, .int .u32 0, .int .u32 0, .int .u32 0, .int .u32 0, .int .u32 0, .int .u32 0]
theorem arr8 (x0 x1 x2 x3 x4 x5 x6 x7 a0 a1 a2 a3 a4 a5 a6 a7 : Value) : ((((((((#[x0, x1, x2, x3, x4, x5, x6, x7].setIfInBounds 0 a0).setIfInBounds 1 a1).setIfInBounds 2 a2).setIfInBounds 3 a3).setIfInBounds 4 a4).setIfInBounds 5 a5).setIfInBounds 6 a6).setIfInBounds 7 a7) = #[a0, a1, a2, a3, a4, a5, a6, a7] := by
  simp only [List.setIfInBounds_toArray, List.set_cons_zero, List.set_cons_succ]
set_option maxHeartbeats 1000000 in
theorem set8 {w : World} {b : Nat} {T : TypeId} {x0 x1 x2 x3 x4 x5 x6 x7 : Value} (h : Blk w b T #[x0, x1, x2, x3, x4, x5, x6, x7]) (a0 a1 a2 a3 a4 a5 a6 a7 : Value) :
    Blk ((((((((w.setCell ⟨b, 0, none⟩ a0).setCell ⟨b, 1, none⟩ a1).setCell ⟨b, 2, none⟩ a2).setCell ⟨b, 3, none⟩ a3).setCell ⟨b, 4, none⟩ a4).setCell ⟨b, 5, none⟩ a5).setCell ⟨b, 6, none⟩ a6).setCell ⟨b, 7, none⟩ a7) b T #[a0, a1, a2, a3, a4, a5, a6, a7] := by
  have h1 := h.set_ 0 a0
  have h2 := h1.set_ 1 a1
  have h3 := h2.set_ 2 a2
  have h4 := h3.set_ 3 a3
  have h5 := h4.set_ 4 a4
  have h6 := h5.set_ 5 a5
  have h7 := h6.set_ 6 a6
  have h8 := h7.set_ 7 a7
  rw [arr8] at h8
  exact h8
theorem kset8 {w w0 : World} {S : List Nat} {b : Nat} (h : Kept S w0 w) (hb : b ∈ S) (a0 a1 a2 a3 a4 a5 a6 a7 : Value) :
    Kept S w0 ((((((((w.setCell ⟨b, 0, none⟩ a0).setCell ⟨b, 1, none⟩ a1).setCell ⟨b, 2, none⟩ a2).setCell ⟨b, 3, none⟩ a3).setCell ⟨b, 4, none⟩ a4).setCell ⟨b, 5, none⟩ a5).setCell ⟨b, 6, none⟩ a6).setCell ⟨b, 7, none⟩ a7) :=
  (((((((h.setCell (Or.inl hb) a0).setCell (Or.inl hb) a1).setCell (Or.inl hb) a2).setCell (Or.inl hb) a3).setCell (Or.inl hb) a4).setCell (Or.inl hb) a5).setCell (Or.inl hb) a6).setCell (Or.inl hb) a7
/-- the sum of two states, the first i words of it -/
def mixL (s h : S8) (i : Nat) : List W := (List.range 8).map fun j => if j < i then s.list.getD j 0 + h.list.getD j 0 else s.list.getD j 0
theorem mixL_zero (s h : S8) : mixL s h 0 = s.list := rfl
theorem mixL_all (s h : S8) : mixL s h 8 = (plus s h).list := rfl
theorem mixL_get (s h : S8) (i : Nat) (hi : i < 8) : (wvs (mixL s h i)).toArray[i]? = some (wv (s.list.getD i 0)) := by
  rcases (by omega : i = 0 ∨ i = 1 ∨ i = 2 ∨ i = 3 ∨ i = 4 ∨ i = 5 ∨ i = 6 ∨ i = 7) with rfl | rfl | rfl | rfl | rfl | rfl | rfl | rfl <;> rfl
theorem list_get (h : S8) (i : Nat) (hi : i < 8) : (wvs h.list).toArray[i]? = some (wv (h.list.getD i 0)) := by
  rcases (by omega : i = 0 ∨ i = 1 ∨ i = 2 ∨ i = 3 ∨ i = 4 ∨ i = 5 ∨ i = 6 ∨ i = 7) with rfl | rfl | rfl | rfl | rfl | rfl | rfl | rfl <;> rfl
theorem mixL_set (s h : S8) (i : Nat) (hi : i < 8) : (wvs (mixL s h i)).toArray.setIfInBounds i (wv (s.list.getD i 0 + h.list.getD i 0)) = (wvs (mixL s h (i + 1))).toArray := by
  rcases (by omega : i = 0 ∨ i = 1 ∨ i = 2 ∨ i = 3 ∨ i = 4 ∨ i = 5 ∨ i = 6 ∨ i = 7) with rfl | rfl | rfl | rfl | rfl | rfl | rfl | rfl <;> rfl
theorem wvs_one (l : List W) : ((wvs l).toArray).all (·.oneCell') = true := by
  rw [Array.all_eq_true_iff_forall_mem]
  intro x hx
  simp [wvs] at hx
  obtain ⟨y, _, rfl⟩ := hx
  rfl

set_option maxRecDepth 100000 in
set_option maxHeartbeats 8000000 in
theorem mix_any (v : Value) (h : S8) (bs : List UInt8) (w : World) (hv : Row w 1 v 64 (bcs bs)) :
    Calls Tryz.prog 144 #[.agg (wvs h.list).toArray, v] w fun e w' => e = .returned (.agg (wvs (ShaP.mix h bs).list).toArray) ∧ Kept [] w w' := by
  obtain ⟨W0, hW0⟩ : ∃ W0, (w.alloc (.cells (wvs h.list).toArray 190)).alloc (.cells #[.int .u32 0, .int .u32 0, .int .u32 0, .int .u32 0, .int .u32 0, .int .u32 0, .int .u32 0, .int .u32 0] 190) = W0 := ⟨_, rfl⟩
  have hkW0 : Kept [] w W0 := hW0 ▸ ((Kept.refl _ _).alloc _).alloc _
  have SC := Lib.hid (schedule_any v bs W0 (hv.kept hkW0))
  have HW0 := Lib.hid hW0
  have b0 : Blk W0 w.heap.size 190 (wvs h.list).toArray := hW0 ▸ (Blk.new w _ _).alloc _
  have b1 : Blk W0 (w.heap.size + 1) 190 #[.int .u32 0, .int .u32 0, .int .u32 0, .int .u32 0, .int .u32 0, .int .u32 0, .int .u32 0, .int .u32 0] := by
    have := Blk.new (w.alloc (.cells (wvs h.list).toArray 190)) 190 #[.int .u32 0, .int .u32 0, .int .u32 0, .int .u32 0, .int .u32 0, .int .u32 0, .int .u32 0, .int .u32 0]
    rw [World.size_alloc] at this
    exact hW0 ▸ this
  have B0 := Lib.hid b0
  have B1 := Lib.hid b1
  clear hW0 b0 b1
  go_enter Tryz.func144, Tryz.ntmps144
  go_upto_region 1 with (fail)
  rw [HW0.out]
  go_wp2_with (go_at_call 183; refine SC.out.mono ?_)
  rintro e w1 ⟨rfl, k1⟩
  go_wp2_with (go_at_call 184; refine (table_any _).mono ?_)
  rintro e w2 ⟨rfl, k2⟩
  replace k2 := k1.trans k2
  have hsA : ((wvs (sched bs 64)).toArray).size = 64 := by simp [wvs, sched_length]
  have hsK : ((wvs kTab).toArray).size = 64 := by kernel_rfl
  have hiA : (Tryz.prog.info? 219).map (·.size) = some ((wvs (sched bs 64)).toArray).size := by rw [hsA, info64]
  have hiK : (Tryz.prog.info? 219).map (·.size) = some ((wvs kTab).toArray).size := by rw [hsK, info64]
  have HIA := Lib.hid hiA
  have HIK := Lib.hid hiK
  have HSA := Lib.hid hsA
  have HSK := Lib.hid hsK
  clear hsA hsK hiA hiK
  have HC0 := B0.out.kept k2 (by simp)
  obtain ⟨AS, hAS⟩ : ∃ A, (wvs (sched bs 64)).toArray = A := ⟨_, rfl⟩
  obtain ⟨AK, hAK⟩ : ∃ A, (wvs kTab).toArray = A := ⟨_, rfl⟩
  have OS := Lib.hid (wvs_one (sched bs 64))
  have OK := Lib.hid (wvs_one kTab)
  rw [hAS] at HIA HSA OS
  rw [hAK] at HIK HSK OK
  simp only [hAS, hAK]
  have HAS := Lib.hid hAS
  have HAK := Lib.hid hAK
  clear hAS hAK
  have Z0 : Hid (Blk ((w2.alloc (.cells zero64 219)).alloc (.cells zero64 219)) w2.heap.size 219 zero64) := (Blk.new w2 _ _).alloc _
  have Z1 : Hid (Blk ((w2.alloc (.cells zero64 219)).alloc (.cells zero64 219)) (w2.heap.size + 1) 219 zero64) := by
    have := Blk.new (w2.alloc (.cells zero64 219)) 219 zero64
    rw [World.size_alloc] at this
    exact this
  have HK3 : Hid (Kept [] w2 ((((w2.alloc (.cells zero64 219)).alloc (.cells zero64 219)).setRow w2.heap.size AS).setRow (w2.heap.size + 1) AK)) :=
    ((((Kept.refl _ _).alloc _).alloc _).setRow (Or.inr (Nat.le_refl _)) _).setRow (Or.inr (by omega)) _
  have Z3 : Hid (Blk ((((w2.alloc (.cells zero64 219)).alloc (.cells zero64 219)).setRow w2.heap.size AS).setRow (w2.heap.size + 1) AK) (w2.heap.size + 1) 219 AK) :=
    Blk.setRow ((setRow_other _ _ _ _ (by omega)).trans Z1.out)
  have Z4 : Hid (Blk ((((w2.alloc (.cells zero64 219)).alloc (.cells zero64 219)).setRow w2.heap.size AS).setRow (w2.heap.size + 1) AK) w2.heap.size 219 AS) :=
    (setRow_other _ _ _ _ (by omega)).trans (Blk.setRow Z0.out)
  go_upto_region 2 with (first
    | (refine wpList_store_row rfl _ _ _ rfl w2.heap.size AS rfl rfl 219 zero64 Z0.out HIA.out (by rw [HSA.out]; rfl) OS.out ?_)
    | (refine wpList_store_row rfl _ _ _ rfl (w2.heap.size + 1) AK rfl rfl 219 zero64 ((setRow_other _ _ _ _ (by omega)).trans Z1.out) HIK.out (by rw [HSK.out]; rfl) OK.out ?_))
  obtain ⟨W3, hW3⟩ : ∃ W3, ((((w2.alloc (.cells zero64 219)).alloc (.cells zero64 219)).setRow w2.heap.size AS).setRow (w2.heap.size + 1) AK) = W3 := ⟨_, rfl⟩
  rw [hW3] at HK3 Z3 Z4 ⊢
  have k3 : Kept [] w W3 := hkW0.trans (k2.trans HK3.out)
  have c0 : Blk W3 w.heap.size 190 (wvs h.list).toArray := HC0.kept HK3.out (by simp)
  have C0 := Lib.hid c0
  have C1 : Hid (Blk W3 (w.heap.size + 1) 190 #[.int .u32 0, .int .u32 0, .int .u32 0, .int .u32 0, .int .u32 0, .int .u32 0, .int .u32 0, .int .u32 0]) := (B1.out.kept k2 (by simp)).kept HK3.out (by simp)
  clear HC0 hW3 c0 Z0 Z1
  have i8 : (Tryz.prog.info? 190).map (·.size) = some 8 := by kernel_rfl
  have I8 := Lib.hid i8
  have HZ7 : Hid (Blk (W3.alloc (.cells #[.int .u32 0, .int .u32 0, .int .u32 0, .int .u32 0, .int .u32 0, .int .u32 0, .int .u32 0, .int .u32 0] 190)) W3.heap.size 190 #[.int .u32 0, .int .u32 0, .int .u32 0, .int .u32 0, .int .u32 0, .int .u32 0, .int .u32 0, .int .u32 0]) := Blk.new _ _ _
  have OH := Lib.hid (wvs_one h.list)
  clear i8
  go_upto_region 4 with (first
    | (refine wpList_load_row rfl _ _ rfl w.heap.size rfl 190 (wvs h.list).toArray (0, 0) _ C0.out Tryz.underlying190 rfl I8.out ?_)
    | (refine wpList_store_row rfl _ _ _ rfl W3.heap.size (wvs h.list).toArray rfl rfl 190 _ HZ7.out I8.out rfl OH.out ?_))
  obtain ⟨W4, hW4⟩ : ∃ W4, ((W3.alloc (.cells #[.int .u32 0, .int .u32 0, .int .u32 0, .int .u32 0, .int .u32 0, .int .u32 0, .int .u32 0, .int .u32 0] 190)).setRow W3.heap.size (wvs h.list).toArray) = W4 := ⟨_, rfl⟩
  rw [hW4]
  have k4 : Kept [] W3 W4 := hW4 ▸ (((Kept.refl _ _).alloc _).setRow (Or.inr (Nat.le_refl _)) _)
  have c7 : Blk W4 W3.heap.size 190 (wvs h.list).toArray := hW4 ▸ Blk.setRow HZ7.out
  have ne0 : w.heap.size < W3.heap.size := C0.out.lt
  have ne1 : w.heap.size + 1 < W3.heap.size := C1.out.lt
  have ne5 : w2.heap.size < W3.heap.size := Z4.out.lt
  have ne6 : w2.heap.size + 1 < W3.heap.size := Z3.out.lt
  have D0 := Lib.hid (C0.out.kept k4 (by simp))
  have D1 := Lib.hid (C1.out.kept k4 (by simp))
  have D5 := Lib.hid (Z4.out.kept k4 (by simp))
  have D6 := Lib.hid (Z3.out.kept k4 (by simp))
  obtain ⟨B, hB⟩ : ∃ B, W3.heap.size = B := ⟨_, rfl⟩
  rw [hB] at c7 ne0 ne1 ne5 ne6 ⊢
  have C7 := Lib.hid c7
  have hBw : w.heap.size ≤ B := by omega
  obtain ⟨b0, hb0⟩ : ∃ b, w.heap.size = b := ⟨_, rfl⟩
  obtain ⟨b5, hb5⟩ : ∃ b, w2.heap.size = b := ⟨_, rfl⟩
  rw [hb0] at D0 D1 ne0 ne1 hBw
  rw [hb5] at D5 D6 ne5 ne6
  rw [hb0, hb5]
  have HB0 := Lib.hid hb0
  have HB5 := Lib.hid hb5
  have K4 := Lib.hid (k3.trans k4)
  clear hW4 c7 C0 C1 Z3 Z4 hB HZ7
  go_loopw [18] (fun vi wr => ∃ k : Nat, k ≤ 64 ∧ vi = .int .i64 k ∧ Blk wr B 190 (wvs (rounds h (sched bs 64) k).list).toArray ∧ Kept [B] W4 wr) (fun vi _ => 64 - (intOf vi).toNat)
  case atStart => exact ⟨0, by omega, rfl, C7.out, Kept.refl _ _⟩
  case round =>
    obtain ⟨k, hk, rfl, hb, hkr⟩ := hrel
    by_cases hlt : k < 64
    · have hn : (rounds h (sched bs 64) (k + 1)) = ShaP.step (rounds h (sched bs 64) k) (kTab.getD k 0) ((sched bs 64).getD k 0) := rfl
      have xk : wr.cell? ⟨b5 + 1, k, none⟩ = some (wv (kTab.getD k 0)) := by
        have := (D6.out.kept hkr (by simp; omega)).cell k
        rw [← HAK.out, wvs_get (by have : kTab.length = 64 := by kernel_rfl
                                   omega)] at this
        exact this
      have xw : wr.cell? ⟨b5, k, none⟩ = some (wv ((sched bs 64).getD k 0)) := by
        have := (D5.out.kept hkr (by simp; omega)).cell k
        rw [← HAS.out, wvs_get (by rw [sched_length]; omega)] at this
        exact this
      obtain ⟨s, hs⟩ : ∃ s, rounds h (sched bs 64) k = s := ⟨_, rfl⟩
      obtain ⟨kk, hkk⟩ : ∃ x, kTab.getD k 0 = x := ⟨_, rfl⟩
      obtain ⟨ww, hww⟩ : ∃ x, (sched bs 64).getD k 0 = x := ⟨_, rfl⟩
      rw [hs, hkk, hww] at hn
      rw [hs] at hb
      rw [hkk] at xk
      rw [hww] at xw
      have x0 : wr.cell? ⟨B, 0, none⟩ = some (wv s.a) := hb.cell 0
      have x1 : wr.cell? ⟨B, 1, none⟩ = some (wv s.b) := hb.cell 1
      have x2 : wr.cell? ⟨B, 2, none⟩ = some (wv s.c) := hb.cell 2
      have x3 : wr.cell? ⟨B, 3, none⟩ = some (wv s.d) := hb.cell 3
      have x4 : wr.cell? ⟨B, 4, none⟩ = some (wv s.e) := hb.cell 4
      have x5 : wr.cell? ⟨B, 5, none⟩ = some (wv s.f) := hb.cell 5
      have x6 : wr.cell? ⟨B, 6, none⟩ = some (wv s.g) := hb.cell 6
      have x7 : wr.cell? ⟨B, 7, none⟩ = some (wv s.h) := hb.cell 7
      have HN : Hid (wvs (rounds h (sched bs 64) (k + 1)).list = [wv (tmp s kk ww + (rotr s.a 2 ^^^ rotr s.a 13 ^^^ rotr s.a 22) + maj s.a s.b s.c), wv s.a, wv s.b, wv s.c, wv (s.d + tmp s kk ww), wv s.e, wv s.f, wv s.g]) := by rw [hn]; rfl
      have hb8 : Blk wr B 190 #[wv s.a, wv s.b, wv s.c, wv s.d, wv s.e, wv s.f, wv s.g, wv s.h] := hb
      have HB := Lib.hid hb8
      clear hs hkk hww hn hb hb8
      have f1 := xor_w (rotr s.e 6) (rotr s.e 11)
      have f2 := xor_w (rotr s.e 6 ^^^ rotr s.e 11) (rotr s.e 25)
      have f3 := xor_w s.f s.g
      have f4 := and_w s.e (s.f ^^^ s.g)
      have f5 := xor_w s.g (s.e &&& (s.f ^^^ s.g))
      rw [ch_eq] at f5
      have f6 := add_w s.h (rotr s.e 6 ^^^ rotr s.e 11 ^^^ rotr s.e 25)
      have f7 := add_w (s.h + (rotr s.e 6 ^^^ rotr s.e 11 ^^^ rotr s.e 25)) (ch s.e s.f s.g)
      have f8 := add_w (s.h + (rotr s.e 6 ^^^ rotr s.e 11 ^^^ rotr s.e 25) + ch s.e s.f s.g) kk
      have f9 := add_w (s.h + (rotr s.e 6 ^^^ rotr s.e 11 ^^^ rotr s.e 25) + ch s.e s.f s.g + kk) ww
      have ft : s.h + (rotr s.e 6 ^^^ rotr s.e 11 ^^^ rotr s.e 25) + ch s.e s.f s.g + kk + ww = tmp s kk ww := rfl
      rw [ft] at f9
      clear ft
      have g1 := xor_w (rotr s.a 2) (rotr s.a 13)
      have g2 := xor_w (rotr s.a 2 ^^^ rotr s.a 13) (rotr s.a 22)
      have g3 := and_w s.a s.b
      have g4 := or_w s.a s.b
      have g5 := and_w s.c (s.a ||| s.b)
      have g6 := or_w (s.a &&& s.b) (s.c &&& (s.a ||| s.b))
      rw [maj_eq] at g6
      have g7 := add_w (tmp s kk ww) (rotr s.a 2 ^^^ rotr s.a 13 ^^^ rotr s.a 22)
      have g8 := add_w (tmp s kk ww + (rotr s.a 2 ^^^ rotr s.a 13 ^^^ rotr s.a 22)) (maj s.a s.b s.c)
      have g9 := add_w s.d (tmp s kk ww)
      have R6 := Lib.hid (rot6 s.e)
      have R11 := Lib.hid (rot11 s.e)
      have R25 := Lib.hid (rot25 s.e)
      have R2 := Lib.hid (rot2 s.a)
      have R13 := Lib.hid (rot13 s.a)
      have R22 := Lib.hid (rot22 s.a)
      unfold wv at x0 x1 x2 x3 x4 x5 x6 x7 xk xw HN R6 R11 R25 R2 R13 R22
      obtain ⟨VA, hVA⟩ : ∃ A, (s.a).toNat = A := ⟨_, rfl⟩
      obtain ⟨VB, hVB⟩ : ∃ A, (s.b).toNat = A := ⟨_, rfl⟩
      obtain ⟨VC, hVC⟩ : ∃ A, (s.c).toNat = A := ⟨_, rfl⟩
      obtain ⟨VD, hVD⟩ : ∃ A, (s.d).toNat = A := ⟨_, rfl⟩
      obtain ⟨VE, hVE⟩ : ∃ A, (s.e).toNat = A := ⟨_, rfl⟩
      obtain ⟨VF, hVF⟩ : ∃ A, (s.f).toNat = A := ⟨_, rfl⟩
      obtain ⟨VG, hVG⟩ : ∃ A, (s.g).toNat = A := ⟨_, rfl⟩
      obtain ⟨VH, hVH⟩ : ∃ A, (s.h).toNat = A := ⟨_, rfl⟩
      obtain ⟨KK, hKK⟩ : ∃ A, (kk).toNat = A := ⟨_, rfl⟩
      obtain ⟨WW, hWW⟩ : ∃ A, (ww).toNat = A := ⟨_, rfl⟩
      obtain ⟨E6, hE6⟩ : ∃ A, (rotr s.e 6).toNat = A := ⟨_, rfl⟩
      obtain ⟨E11, hE11⟩ : ∃ A, (rotr s.e 11).toNat = A := ⟨_, rfl⟩
      obtain ⟨E25, hE25⟩ : ∃ A, (rotr s.e 25).toNat = A := ⟨_, rfl⟩
      obtain ⟨X1, hX1⟩ : ∃ A, (rotr s.e 6 ^^^ rotr s.e 11).toNat = A := ⟨_, rfl⟩
      obtain ⟨X2, hX2⟩ : ∃ A, (rotr s.e 6 ^^^ rotr s.e 11 ^^^ rotr s.e 25).toNat = A := ⟨_, rfl⟩
      obtain ⟨FG, hFG⟩ : ∃ A, (s.f ^^^ s.g).toNat = A := ⟨_, rfl⟩
      obtain ⟨EF, hEF⟩ : ∃ A, (s.e &&& (s.f ^^^ s.g)).toNat = A := ⟨_, rfl⟩
      obtain ⟨CH, hCH⟩ : ∃ A, (ch s.e s.f s.g).toNat = A := ⟨_, rfl⟩
      obtain ⟨U1, hU1⟩ : ∃ A, (s.h + (rotr s.e 6 ^^^ rotr s.e 11 ^^^ rotr s.e 25)).toNat = A := ⟨_, rfl⟩
      obtain ⟨U2, hU2⟩ : ∃ A, (s.h + (rotr s.e 6 ^^^ rotr s.e 11 ^^^ rotr s.e 25) + ch s.e s.f s.g).toNat = A := ⟨_, rfl⟩
      obtain ⟨U3, hU3⟩ : ∃ A, (s.h + (rotr s.e 6 ^^^ rotr s.e 11 ^^^ rotr s.e 25) + ch s.e s.f s.g + kk).toNat = A := ⟨_, rfl⟩
      obtain ⟨TT, hTT⟩ : ∃ A, (tmp s kk ww).toNat = A := ⟨_, rfl⟩
      obtain ⟨A2, hA2⟩ : ∃ A, (rotr s.a 2).toNat = A := ⟨_, rfl⟩
      obtain ⟨A13, hA13⟩ : ∃ A, (rotr s.a 13).toNat = A := ⟨_, rfl⟩
      obtain ⟨A22, hA22⟩ : ∃ A, (rotr s.a 22).toNat = A := ⟨_, rfl⟩
      obtain ⟨Y1, hY1⟩ : ∃ A, (rotr s.a 2 ^^^ rotr s.a 13).toNat = A := ⟨_, rfl⟩
      obtain ⟨Y2, hY2⟩ : ∃ A, (rotr s.a 2 ^^^ rotr s.a 13 ^^^ rotr s.a 22).toNat = A := ⟨_, rfl⟩
      obtain ⟨AB, hAB⟩ : ∃ A, (s.a &&& s.b).toNat = A := ⟨_, rfl⟩
      obtain ⟨AO, hAO⟩ : ∃ A, (s.a ||| s.b).toNat = A := ⟨_, rfl⟩
      obtain ⟨CA, hCA⟩ : ∃ A, (s.c &&& (s.a ||| s.b)).toNat = A := ⟨_, rfl⟩
      obtain ⟨MJ, hMJ⟩ : ∃ A, (maj s.a s.b s.c).toNat = A := ⟨_, rfl⟩
      obtain ⟨Z1, hZ1⟩ : ∃ A, (tmp s kk ww + (rotr s.a 2 ^^^ rotr s.a 13 ^^^ rotr s.a 22)).toNat = A := ⟨_, rfl⟩
      obtain ⟨NA, hNA⟩ : ∃ A, (tmp s kk ww + (rotr s.a 2 ^^^ rotr s.a 13 ^^^ rotr s.a 22) + maj s.a s.b s.c).toNat = A := ⟨_, rfl⟩
      obtain ⟨ND, hND⟩ : ∃ A, (s.d + tmp s kk ww).toNat = A := ⟨_, rfl⟩
      rw [hE6, hE11, hX1] at f1
      rw [hX1, hE25, hX2] at f2
      rw [hVF, hVG, hFG] at f3
      rw [hVE, hFG, hEF] at f4
      rw [hVG, hEF, hCH] at f5
      rw [hVH, hX2, hU1] at f6
      rw [hU1, hCH, hU2] at f7
      rw [hU2, hKK, hU3] at f8
      rw [hU3, hWW, hTT] at f9
      rw [hA2, hA13, hY1] at g1
      rw [hY1, hA22, hY2] at g2
      rw [hVA, hVB, hAB] at g3
      rw [hVA, hVB, hAO] at g4
      rw [hVC, hAO, hCA] at g5
      rw [hAB, hCA, hMJ] at g6
      rw [hTT, hY2, hZ1] at g7
      rw [hZ1, hMJ, hNA] at g8
      rw [hVD, hTT, hND] at g9
      rw [hVE, hE6] at R6
      rw [hVE, hE11] at R11
      rw [hVE, hE25] at R25
      rw [hVA, hA2] at R2
      rw [hVA, hA13] at R13
      rw [hVA, hA22] at R22
      rw [hVA] at x0
      rw [hVB] at x1
      rw [hVC] at x2
      rw [hVD] at x3
      rw [hVE] at x4
      rw [hVF] at x5
      rw [hVG] at x6
      rw [hVH] at x7
      rw [hKK] at xk
      rw [hWW] at xw
      rw [hNA, hVA, hVB, hVC, hND, hVE, hVF, hVG] at HN
      clear hVA hVB hVC hVD hVE hVF hVG hVH hKK hWW hE6 hE11 hE25 hX1 hX2 hFG hEF hCH hU1 hU2 hU3 hTT hA2 hA13 hA22 hY1 hY2 hAB hAO hCA hMJ hZ1 hNA hND
      have X0 : Hid (∀ w', Kept [] wr w' → _) := Kept.cellOf x0
      have X1 : Hid (∀ w', Kept [] wr w' → _) := Kept.cellOf x1
      have X2 : Hid (∀ w', Kept [] wr w' → _) := Kept.cellOf x2
      have X3 : Hid (∀ w', Kept [] wr w' → _) := Kept.cellOf x3
      have X4 : Hid (∀ w', Kept [] wr w' → _) := Kept.cellOf x4
      have X5 : Hid (∀ w', Kept [] wr w' → _) := Kept.cellOf x5
      have X6 : Hid (∀ w', Kept [] wr w' → _) := Kept.cellOf x6
      have X7 : Hid (∀ w', Kept [] wr w' → _) := Kept.cellOf x7
      have XK : Hid (∀ w', Kept [] wr w' → _) := Kept.cellOf xk
      have XW : Hid (∀ w', Kept [] wr w' → _) := Kept.cellOf xw
      clear x0 x1 x2 x3 x4 x5 x6 x7 xk xw
      go_upto_region 6 with (fail)
      have y4 := X4.out
      go_region_held3 (fun w' => Kept [] wr w') (first | assumption | exact (Kept.refl _ _).drew | exact Kept.alloc (by assumption) _)
        (first
          | (go_at_call 185; with_reducible refine (kept_from (W := wr) (by assumption) ((R6.out _).mono fun _ _ h => ⟨h.1, h.2 ▸ Kept.refl _ _⟩)).mono ?_; rintro e w3 ⟨rfl, hk3⟩)
          | (go_at_call 185; with_reducible refine (kept_from (W := wr) (by assumption) ((R11.out _).mono fun _ _ h => ⟨h.1, h.2 ▸ Kept.refl _ _⟩)).mono ?_; rintro e w3 ⟨rfl, hk3⟩)
          | (go_at_call 185; with_reducible refine (kept_from (W := wr) (by assumption) ((R25.out _).mono fun _ _ h => ⟨h.1, h.2 ▸ Kept.refl _ _⟩)).mono ?_; rintro e w3 ⟨rfl, hk3⟩))
      clear y4
      go_upto_region 7 with (fail)
      have z3 := hk3
      have y0 := X0.out _ hk3
      have y1 := X1.out _ hk3
      have y2 := X2.out _ hk3
      have y3 := X3.out _ hk3
      have y4 := X4.out _ hk3
      have y5 := X5.out _ hk3
      have y6 := X6.out _ hk3
      have y7 := X7.out _ hk3
      have yk := XK.out _ hk3
      have yw := XW.out _ hk3
      have nk : (k : Int) < 64 := by omega
      go_quiet ((fail))
      go_upto_region 8 with (fail)
      clear y0 y1 y2 y3 y4 y5 y6 y7 yk yw
      obtain ⟨w8, hw8⟩ : ∃ w8, w3.drewN nq = w8 := ⟨_, rfl⟩
      have z5 : Kept [] wr w8 := hw8 ▸ z3.drewN _
      rw [hw8]
      clear hw8
      have z6 : Kept [] wr w8.drew := z5.drew
      have y0 := X0.out
      go_region_held3 (fun w' => Kept [] wr w') (first | assumption | exact (Kept.refl _ _).drew | exact Kept.alloc (by assumption) _)
        (first
          | (go_at_call 185; with_reducible refine (kept_from (W := wr) (by assumption) ((R2.out _).mono fun _ _ h => ⟨h.1, h.2 ▸ Kept.refl _ _⟩)).mono ?_; rintro e w3 ⟨rfl, hk4⟩)
          | (go_at_call 185; with_reducible refine (kept_from (W := wr) (by assumption) ((R13.out _).mono fun _ _ h => ⟨h.1, h.2 ▸ Kept.refl _ _⟩)).mono ?_; rintro e w3 ⟨rfl, hk4⟩)
          | (go_at_call 185; with_reducible refine (kept_from (W := wr) (by assumption) ((R22.out _).mono fun _ _ h => ⟨h.1, h.2 ▸ Kept.refl _ _⟩)).mono ?_; rintro e w3 ⟨rfl, hk4⟩))
      clear y0
      go_upto_region 9 with (fail)
      have z4 := hk4
      have y0 := X0.out _ hk4
      have y1 := X1.out _ hk4
      have y2 := X2.out _ hk4
      have y3 := X3.out _ hk4
      have y4 := X4.out _ hk4
      have y5 := X5.out _ hk4
      have y6 := X6.out _ hk4
      have y7 := X7.out _ hk4
      have HB9 := Lib.hid (HB.out.kept z4 (by simp))
      have fz0 := HB9.out.frozen 0
      have fz1 := HB9.out.frozen 1
      have fz2 := HB9.out.frozen 2
      have fz3 := HB9.out.frozen 3
      have fz4 := HB9.out.frozen 4
      have fz5 := HB9.out.frozen 5
      have fz6 := HB9.out.frozen 6
      have fz7 := HB9.out.frozen 7
      go_wp2_with fail
      go_roundw
      case rel => exact ⟨k + 1, by omega, by go_num, by rw [HN.out]; exact set8 HB9.out _ _ _ _ _ _ _ _, kset8 (hkr.then_ (S' := []) z4 (by simp)) (by simp) _ _ _ _ _ _ _ _⟩
      case measure => simp [intOf]; omega
    · obtain rfl : k = 64 := by omega
      obtain ⟨s, hs⟩ : ∃ s, rounds h (sched bs 64) 64 = s := ⟨_, rfl⟩
      rw [hs, ← mixL_zero s h] at hb
      have hfin : ShaP.mix h bs = plus s h := by rw [← hs]; rfl
      have HF := Lib.hid hfin
      have HB := Lib.hid hb
      clear hs hb hfin
      go_wp2_with fail
      go_loopw [13, 104] (fun _ vi wq => ∃ i : Nat, i ≤ 8 ∧ vi = .int .i64 i ∧ Blk wq B 190 (wvs (mixL s h i)).toArray ∧ Kept [B] W4 wq) (fun _ vi _ => 8 - (intOf vi).toNat)
      case atStart => exact ⟨0, by omega, rfl, HB.out, hkr⟩
      case round =>
        obtain ⟨i, hi, rfl, hb, hkq⟩ := hrel
        by_cases hlt : i < 8
        · have x1 : wr.cell? ⟨B, i, none⟩ = some (wv (s.list.getD i 0)) := (hb.cell i).trans (mixL_get s h i hlt)
          have x2 : wr.cell? ⟨b0, i, none⟩ = some (wv (h.list.getD i 0)) := ((D0.out.kept hkq (by simp; omega)).cell i).trans (list_get h i hlt)
          have fz := hb.frozen i
          have hset := hb.set_ i (wv (s.list.getD i 0 + h.list.getD i 0))
          rw [mixL_set s h i hlt] at hset
          have HSET := Lib.hid hset
          have HK1 := Lib.hid (hkq.setCell (p := ⟨B, i, none⟩) (Or.inl (by simp)) (wv (s.list.getD i 0 + h.list.getD i 0)))
          have a1 := add_w (s.list.getD i 0) (h.list.getD i 0)
          obtain ⟨p, hp⟩ : ∃ p, s.list.getD i 0 = p := ⟨_, rfl⟩
          obtain ⟨q, hq⟩ : ∃ q, h.list.getD i 0 = q := ⟨_, rfl⟩
          rw [hp, hq] at a1 HSET HK1
          rw [hp] at x1
          rw [hq] at x2
          unfold wv at x1 x2 HSET HK1
          obtain ⟨P, hP⟩ : ∃ A, p.toNat = A := ⟨_, rfl⟩
          obtain ⟨Q, hQ⟩ : ∃ A, q.toNat = A := ⟨_, rfl⟩
          obtain ⟨T, hT⟩ : ∃ A, (p + q).toNat = A := ⟨_, rfl⟩
          rw [hP, hQ, hT] at a1
          rw [hP] at x1
          rw [hQ] at x2
          rw [hT] at HSET HK1
          have ni : (i : Int) < 8 := by omega
          clear hp hq hP hQ hT hset hb
          go_upto_region 15 with (fail)
          go_still_tail 8, (by kernel_rfl)
          change wpList _ _ _ _ _ wr.drew
          go_wp2_with fail
          go_roundw
          case rel =>
            refine ⟨_, _, _, _, _, _, _, _, _, _, _, _, _, ⟨i + 1, ?_, ?_, HSET.out.drew, HK1.out.drew⟩, rfl⟩
            · omega
            · go_num
          case measure => simp [intOf]; omega
        · obtain rfl : i = 8 := by omega
          rw [mixL_all] at hb
          have hb1 := D1.out.kept hkq (by simp; omega)
          have hone := wvs_one (plus s h).list
          have hsz : ((wvs (plus s h).list).toArray).size = 8 := rfl
          obtain ⟨A, hA⟩ : ∃ A, (wvs (plus s h).list).toArray = A := ⟨_, rfl⟩
          rw [hA] at hb hone hsz
          have HA := Lib.hid hA
          have HBA := Lib.hid hb
          have HB1 := Lib.hid hb1
          have HS := Lib.hid hone
          have HI : Hid ((Tryz.prog.info? 190).map (·.size) = some A.size) := by rw [hsz]; exact I8.out
          have HSA8 := Lib.hid hsz
          clear hA hb hone hsz hb1
          go_wp2_with (first
            | (refine wpList_load_row rfl _ _ rfl B rfl 190 A (0, 0) _ HBA.out Tryz.underlying190 rfl HI.out ?_)
            | (refine wpList_store_row rfl _ _ _ rfl (b0 + 1) A rfl rfl 190 _ HB1.out HI.out (by rw [HSA8.out]; rfl) HS.out ?_))
          refine bodyPost_ret (v := .agg A) (results_cell_row Tryz.results144 _ _ (b0 + 1) 190 A (0, 0) _ rfl (HB1.out.setRow) Tryz.underlying190 rfl HI.out) rfl ⟨by rw [HF.out, HA.out], ?_⟩
          exact (K4.out.then_ hkq (fun x hx hm => by simp at hm; omega)).setRow (Or.inr (by omega)) _
end Go.Proofs.YtcidfldeiklcjaaGreatDoor
