/- The hash function's message schedule, as the reference makes it. -/
import Derived.Test.YtpcdfepndmconaaGreatDoorSh3
import Derived.Test.YtpcdfepndmconaaGreatDoorApo
import Derived.Test.YtpcdfepndmconaaGreatDoorKnu
namespace Go.Proofs.YtpcdfepndmconaaGreatDoor
open Go.RowKit ShaP

theorem infoW : (Tryz.prog.info? 218).map (fun i => (i.zero, i.size, i.bytes)) = some (some (.int .u32 0), 1, 4) := by kernel_rfl
theorem word_new (w : World) (x : Value) (T : TypeId) : ∀ j u, [x][j]? = some u → (w.alloc (.cells #[x] T)).cell? ((⟨w.heap.size, 0, none⟩ : Addr).add j) = some u := by
  intro j u hu
  rw [add_cell, World.cell?_alloc_new, Nat.zero_add]
  simpa using hu
theorem wvs_at {l : List W} {k : Nat} (h : k < l.length) : (wvs l)[k]? = some (wv (l.getD k 0)) := by simp [wvs, h, List.getD]

set_option maxRecDepth 100000 in
set_option maxHeartbeats 4000000 in
theorem rwords_any (v : Value) (bs : List UInt8) (w : World) (hv : Row w 1 v 64 (bcs bs)) :
    Calls Tryz.prog 237 #[v] w fun e w' => (∃ v', e = .returned v' ∧ w'.ownsRow w.heap.size 218 1 v' 64 (wvs (sched bs 64))) ∧ Kept [] w w' := by
  obtain ⟨hlen, _⟩ := hv
  have hv : Row w 1 v 64 (bcs bs) := ⟨hlen, by assumption⟩
  have hlen : bs.length = 64 := by simpa [bcs] using hlen
  obtain ⟨a, c, rfl, _, hcap⟩ := hv.form
  obtain ⟨ba, oa, rfl, hca0⟩ := hv.at_ (by omega)
  have hba : ba < w.heap.size := World.block_lt_of_cell? w _ (hca0 0 _ (bcs_get (l := bs) (k := 0) (by omega)))
  have hca1 : ∀ wr, Kept [] w wr → ∀ j u, (bcs bs)[j]? = some u → wr.cell? ⟨ba, oa + j, none⟩ = some u := fun wr hk j u hu => (hk.cell (p := ⟨ba, oa + j, none⟩) hba (by simp)).trans (hca0 j u hu)
  have HCA := Lib.hid hca1
  obtain ⟨iw, hi, hz0, hz1, hz2⟩ := info_parts infoW
  clear hv hca0 hca1
  go_enter Tryz.func237, Tryz.ntmps237
  go_upto_region 3 with (fail)
  go_loopw [3, 4] (fun v i wr => ∃ k : Nat, k ≤ 16 ∧ i = .int .i64 k ∧ wr.ownsRow w.heap.size 218 1 v k (wvs (sched bs k)) ∧ Kept [] w wr) (fun _ i _ => 64 - (intOf i).toNat)
  case atStart => exact ⟨0, by omega, rfl, World.ownsRow_nil _ _ _ _, Kept.refl _ _⟩
  case round =>
    obtain ⟨k, hk, rfl, hown, hkr⟩ := hrel
    obtain ⟨ao, co, rfl⟩ := own_form hown
    have hsz := hkr.size
    have HOWN := Lib.hid hown
    clear hown
    by_cases hlt : k < 16
    · have hca := HCA.out wr hkr
      have x0 := hca _ _ (bcs_get (l := bs) (k := 4 * k) (by omega))
      have x1 := hca _ _ (bcs_get (l := bs) (k := 4 * k + 1) (by omega))
      have x2 := hca _ _ (bcs_get (l := bs) (k := 4 * k + 2) (by omega))
      have x3 := hca _ _ (bcs_get (l := bs) (k := 4 * k + 3) (by omega))
      have t0 := zx_lt (bs.getD (4 * k) 0)
      have t1 := zx_lt (bs.getD (4 * k + 1) 0)
      have t2 := zx_lt (bs.getD (4 * k + 2) 0)
      have t3 := zx_lt (bs.getD (4 * k + 3) 0)
      have HY := Lib.hid (by4_zx bs k)
      obtain ⟨z0, hz0⟩ : ∃ z, zx (bs.getD (4 * k) 0) = z := ⟨_, rfl⟩
      obtain ⟨z1, hz1⟩ : ∃ z, zx (bs.getD (4 * k + 1) 0) = z := ⟨_, rfl⟩
      obtain ⟨z2, hz2⟩ : ∃ z, zx (bs.getD (4 * k + 2) 0) = z := ⟨_, rfl⟩
      obtain ⟨z3, hz3⟩ : ∃ z, zx (bs.getD (4 * k + 3) 0) = z := ⟨_, rfl⟩
      rw [hz0] at x0 t0 HY
      rw [hz1] at x1 t1 HY
      rw [hz2] at x2 t2 HY
      rw [hz3] at x3 t3 HY
      clear hz0 hz1 hz2 hz3 hca
      go_upto_region 5 with (fail)
      have e24 := mul24_w t0
      have e16 := mul16_w t1
      have e8 := mul8_w t2
      have o1 := or_w (z0 <<< 24) (z1 <<< 16)
      have o2 := or_w (z0 <<< 24 ||| z1 <<< 16) (z2 <<< 8)
      have o3 := or_w (z0 <<< 24 ||| z1 <<< 16 ||| z2 <<< 8) z3
      rw [← HY.out] at o3
      have lA := (z0 <<< 24).isLt
      have lB := (z1 <<< 16).isLt
      have lC := (z2 <<< 8).isLt
      have wA := wrap_w (z0 <<< 24)
      have wB := wrap_w (z1 <<< 16)
      have wC := wrap_w (z2 <<< 8)
      obtain ⟨A, hA⟩ : ∃ A, (z0 <<< 24).toNat = A := ⟨_, rfl⟩
      obtain ⟨B, hB⟩ : ∃ A, (z1 <<< 16).toNat = A := ⟨_, rfl⟩
      obtain ⟨C, hC⟩ : ∃ A, (z2 <<< 8).toNat = A := ⟨_, rfl⟩
      obtain ⟨E, hE⟩ : ∃ A, (z0 <<< 24 ||| z1 <<< 16).toNat = A := ⟨_, rfl⟩
      obtain ⟨F, hF⟩ : ∃ A, (z0 <<< 24 ||| z1 <<< 16 ||| z2 <<< 8).toNat = A := ⟨_, rfl⟩
      obtain ⟨G, hG⟩ : ∃ A, (by4 bs k).toNat = A := ⟨_, rfl⟩
      obtain ⟨Z0, hZ0⟩ : ∃ A, z0.toNat = A := ⟨_, rfl⟩
      obtain ⟨Z1, hZ1⟩ : ∃ A, z1.toNat = A := ⟨_, rfl⟩
      obtain ⟨Z2, hZ2⟩ : ∃ A, z2.toNat = A := ⟨_, rfl⟩
      obtain ⟨Z3, hZ3⟩ : ∃ A, z3.toNat = A := ⟨_, rfl⟩
      rw [hA] at lA wA
      rw [hB] at lB wB
      rw [hC] at lC wC
      rw [hZ0, hA] at e24
      rw [hZ1, hB] at e16
      rw [hZ2, hC] at e8
      rw [hA, hB, hE] at o1
      rw [hE, hC, hF] at o2
      rw [hF, hZ3, hG] at o3
      rw [hZ0] at x0 t0
      rw [hZ1] at x1 t1
      rw [hZ2] at x2 t2
      rw [hZ3] at x3 t3
      have HGG := Lib.hid hG
      clear hA hB hC hE hF hZ0 hZ1 hZ2 hZ3 hG
      obtain ⟨m0, hm0⟩ : ∃ m, 4 * k = m := ⟨_, rfl⟩
      obtain ⟨m1, hm1⟩ : ∃ m, 4 * k + 1 = m := ⟨_, rfl⟩
      obtain ⟨m2, hm2⟩ : ∃ m, 4 * k + 2 = m := ⟨_, rfl⟩
      obtain ⟨m3, hm3⟩ : ∃ m, 4 * k + 3 = m := ⟨_, rfl⟩
      rw [hm0] at x0
      rw [hm1] at x1
      rw [hm2] at x2
      rw [hm3] at x3
      have i0 : IntKind.i64.wrap (4 * (k : Int)) = (m0 : Int) := by rw [IntKind.wrap_i64]; omega
      have i1 : IntKind.i64.wrap ((m0 : Int) + 1) = (m1 : Int) := by rw [IntKind.wrap_i64]; omega
      have i2 : IntKind.i64.wrap ((m0 : Int) + 2) = (m2 : Int) := by rw [IntKind.wrap_i64]; omega
      have i3 : IntKind.i64.wrap ((m0 : Int) + 3) = (m3 : Int) := by rw [IntKind.wrap_i64]; omega
      have c0 : m0 < 64 := by omega
      have c1 : m1 < 64 := by omega
      have c2 : m2 < 64 := by omega
      have c3 : m3 < 64 := by omega
      have w0 : IntKind.u32.wrap (Z0 : Int) = (Z0 : Int) := by rw [ShaP.wrap_u32]; omega
      have w1 : IntKind.u32.wrap (Z1 : Int) = (Z1 : Int) := by rw [ShaP.wrap_u32]; omega
      have w2 : IntKind.u32.wrap (Z2 : Int) = (Z2 : Int) := by rw [ShaP.wrap_u32]; omega
      have w3 : IntKind.u32.wrap (Z3 : Int) = (Z3 : Int) := by rw [ShaP.wrap_u32]; omega
      clear hm0 hm1 hm2 hm3
      have n0 : (m0 : Int) < 64 := by omega
      have n1 : (m1 : Int) < 64 := by omega
      have n2 : (m2 : Int) < 64 := by omega
      have n3 : (m3 : Int) < 64 := by omega
      have nk : (k : Int) < 64 := by omega
      have hsn : sched bs (k + 1) = sched bs k ++ [by4 bs k] := by show sched bs k ++ [_] = _; rw [if_pos hlt]
      have HSN := Lib.hid hsn
      clear hsn
      have NB : (Value.slice ao k co).ownBlock ≠ some ba := fun h => by have := (HOWN.out.lt ba h).1; omega
      go_region_held3 (fun w' => w'.cell? ⟨ba, oa + m0, none⟩ = some (.int .u8 (Z0 : Int)) ∧ w'.cell? ⟨ba, oa + m1, none⟩ = some (.int .u8 (Z1 : Int)) ∧ w'.cell? ⟨ba, oa + m2, none⟩ = some (.int .u8 (Z2 : Int)) ∧ w'.cell? ⟨ba, oa + m3, none⟩ = some (.int .u8 (Z3 : Int)))
        (first
          | go_keep
          | (go_split_ands
             refine ⟨?_, ?_, ?_, ?_⟩ <;> (rw [hg2.cell_far _ (by simp; omega) (Ne.symm NB)]; assumption)))
        ((refine step_append_lies _ (by rfl) _ _ _ (by rfl) w.heap.size 218 iw _ 1 4 Tryz.underlying224 hi hz0 hz1 hz2 rfl (by omega) _ k (wvs (sched bs k)) (by rfl) ((HOWN.out.alloc _).drew)
            ⟨wr.heap.size, 0, none⟩ 1 1 [.int .u32 (G : Int)] (by rfl) (by rfl) (World.news_of_block (cs := #[.int .u32 (G : Int)]) (t := 218) (fr := (0, 0)) (heap_alloc_new wr _)) (by simp [Value.oneCell']) (by omega) (by unfold maxLen; omega) (by omega) (by simp; omega) (wr.heap.size + 1) (by simp) ?_; intro gg cap w2 hown2 hg2 hat hlt2))
      go_wp2_with fail
      go_roundw
      case rel => exact ⟨k + 1, by omega, by go_num, by rw [HSN.out]; unfold wvs at hown2 ⊢; rw [List.map_append, List.map_singleton, wv, HGG.out]; exact hown2, ((hkr.alloc _).drew).grown hg2 (fun x hx => Or.inr (HOWN.out.lt x hx).1)⟩
      case measure => simp [intOf]; omega
    · obtain rfl : k = 16 := by omega
      rw [show ((16 : Nat) : Int) = 16 from rfl]
      go_upto_region 7 with (fail)
      go_loopw [3, 5, 6, 7, 8, 9] (fun v i _ _ _ _ wr => ∃ k : Nat, 16 ≤ k ∧ k ≤ 64 ∧ i = .int .i64 k ∧ wr.ownsRow w.heap.size 218 1 v k (wvs (sched bs k)) ∧ Kept [] w wr) (fun _ i _ _ _ _ _ => 64 - (intOf i).toNat)
      case atStart => exact ⟨16, by omega, by omega, rfl, HOWN.out, hkr⟩
      case round =>
        obtain ⟨k, hk16, hk, rfl, hown, hkr⟩ := hrel
        obtain ⟨gb, cp, rfl, hgb, hgl⟩ := hown.form (by omega)
        have hsz := hkr.size
        have HOWN := Lib.hid hown
        by_cases hlt : k < 64
        · have hl := sched_length bs k
          have h16 : ¬ k < 16 := by omega
          have hcell : ∀ j, j < k → wr.cell? ⟨gb, j, none⟩ = some (wv ((sched bs k).getD j 0)) := fun j hj => by
            have := hown.cells rfl j _ (wvs_at (l := sched bs k) (k := j) (by omega))
            rw [add_cell, Nat.zero_add] at this
            exact this
          have hsn : sched bs (k + 1) = sched bs k ++ [more (sched bs k)] := by show sched bs k ++ [_] = _; rw [if_neg h16]
          have y15 := hcell (k - 15) (by omega)
          have y2 := hcell (k - 2) (by omega)
          have y16 := hcell (k - 16) (by omega)
          have y7 := hcell (k - 7) (by omega)
          have hm : more (sched bs k) = (sched bs k).getD (k - 16) 0 + sig0 ((sched bs k).getD (k - 15) 0) + (sched bs k).getD (k - 7) 0 + sig1 ((sched bs k).getD (k - 2) 0) := by unfold more; rw [hl]
          obtain ⟨p, hp⟩ : ∃ z, (sched bs k).getD (k - 15) 0 = z := ⟨_, rfl⟩
          obtain ⟨q, hq⟩ : ∃ z, (sched bs k).getD (k - 2) 0 = z := ⟨_, rfl⟩
          obtain ⟨r, hr⟩ : ∃ z, (sched bs k).getD (k - 16) 0 = z := ⟨_, rfl⟩
          obtain ⟨s, hs⟩ : ∃ z, (sched bs k).getD (k - 7) 0 = z := ⟨_, rfl⟩
          rw [hp, hq, hr, hs] at hm
          rw [hp] at y15
          rw [hq] at y2
          rw [hr] at y16
          rw [hs] at y7
          rw [hm] at hsn
          have HSN := Lib.hid hsn
          obtain ⟨g15, h15⟩ : ∃ m, k - 15 = m := ⟨_, rfl⟩
          obtain ⟨g2, h2⟩ : ∃ m, k - 2 = m := ⟨_, rfl⟩
          obtain ⟨g16, h16'⟩ : ∃ m, k - 16 = m := ⟨_, rfl⟩
          obtain ⟨g7, h7⟩ : ∃ m, k - 7 = m := ⟨_, rfl⟩
          rw [h15] at y15
          rw [h2] at y2
          rw [h16'] at y16
          rw [h7] at y7
          have i15 : IntKind.i64.wrap ((k : Int) - 15) = (g15 : Int) := by rw [IntKind.wrap_i64]; omega
          have i2 : IntKind.i64.wrap ((k : Int) - 2) = (g2 : Int) := by rw [IntKind.wrap_i64]; omega
          have i16 : IntKind.i64.wrap ((k : Int) - 16) = (g16 : Int) := by rw [IntKind.wrap_i64]; omega
          have i7 : IntKind.i64.wrap ((k : Int) - 7) = (g7 : Int) := by rw [IntKind.wrap_i64]; omega
          have j15 : (k : Int) - 15 = (g15 : Int) := by omega
          have j2 : (k : Int) - 2 = (g2 : Int) := by omega
          have j16 : (k : Int) - 16 = (g16 : Int) := by omega
          have j7 : (k : Int) - 7 = (g7 : Int) := by omega
          have n15 : (g15 : Int) < (k : Int) := by omega
          have n2 : (g2 : Int) < (k : Int) := by omega
          have n16 : (g16 : Int) < (k : Int) := by omega
          have n7 : (g7 : Int) < (k : Int) := by omega
          have nk : (k : Int) < 64 := by omega
          have x1 := xor_w (rotr p 7) (rotr p 18)
          have x2 := xor_w (rotr p 7 ^^^ rotr p 18) (p >>> 3)
          have x3 := xor_w (rotr q 17) (rotr q 19)
          have x4 := xor_w (rotr q 17 ^^^ rotr q 19) (q >>> 10)
          have s3 := shr3_w p
          have s10 := shr10_w q
          have a1 := add_w r (sig0 p)
          have a2 := add_w (r + sig0 p) s
          have a3 := add_w (r + sig0 p + s) (sig1 q)
          have E0 : Hid (rotr p 7 ^^^ rotr p 18 ^^^ p >>> 3 = sig0 p) := rfl
          have E1 : Hid (rotr q 17 ^^^ rotr q 19 ^^^ q >>> 10 = sig1 q) := rfl
          rw [E0.out] at x2
          rw [E1.out] at x4
          have R7 : Hid (∀ w, Calls Tryz.prog 239 #[wv p, .int .i64 7] w fun e w' => e = .returned (wv (rotr p 7)) ∧ Kept [] w w') := fun w => turn_any p 7 w (by omega) (by omega)
          have R18 : Hid (∀ w, Calls Tryz.prog 239 #[wv p, .int .i64 18] w fun e w' => e = .returned (wv (rotr p 18)) ∧ Kept [] w w') := fun w => turn_any p 18 w (by omega) (by omega)
          have R17 : Hid (∀ w, Calls Tryz.prog 239 #[wv q, .int .i64 17] w fun e w' => e = .returned (wv (rotr q 17)) ∧ Kept [] w w') := fun w => turn_any q 17 w (by omega) (by omega)
          have R19 : Hid (∀ w, Calls Tryz.prog 239 #[wv q, .int .i64 19] w fun e w' => e = .returned (wv (rotr q 19)) ∧ Kept [] w w') := fun w => turn_any q 19 w (by omega) (by omega)
          unfold wv at y15 y2 y16 y7 R7 R18 R17 R19
          clear E0 E1
          obtain ⟨P, hP⟩ : ∃ A, (p).toNat = A := ⟨_, rfl⟩
          obtain ⟨Q, hQ⟩ : ∃ A, (q).toNat = A := ⟨_, rfl⟩
          obtain ⟨R, hR⟩ : ∃ A, (r).toNat = A := ⟨_, rfl⟩
          obtain ⟨S, hS⟩ : ∃ A, (s).toNat = A := ⟨_, rfl⟩
          obtain ⟨A7, hA7⟩ : ∃ A, (rotr p 7).toNat = A := ⟨_, rfl⟩
          obtain ⟨A18, hA18⟩ : ∃ A, (rotr p 18).toNat = A := ⟨_, rfl⟩
          obtain ⟨A17, hA17⟩ : ∃ A, (rotr q 17).toNat = A := ⟨_, rfl⟩
          obtain ⟨A19, hA19⟩ : ∃ A, (rotr q 19).toNat = A := ⟨_, rfl⟩
          obtain ⟨X0, hX0⟩ : ∃ A, (rotr p 7 ^^^ rotr p 18).toNat = A := ⟨_, rfl⟩
          obtain ⟨X1, hX1⟩ : ∃ A, (rotr q 17 ^^^ rotr q 19).toNat = A := ⟨_, rfl⟩
          obtain ⟨Y3, hY3⟩ : ∃ A, (p >>> 3).toNat = A := ⟨_, rfl⟩
          obtain ⟨Y10, hY10⟩ : ∃ A, (q >>> 10).toNat = A := ⟨_, rfl⟩
          obtain ⟨G0, hG0⟩ : ∃ A, (sig0 p).toNat = A := ⟨_, rfl⟩
          obtain ⟨G1, hG1⟩ : ∃ A, (sig1 q).toNat = A := ⟨_, rfl⟩
          obtain ⟨T1, hT1⟩ : ∃ A, (r + sig0 p).toNat = A := ⟨_, rfl⟩
          obtain ⟨T2, hT2⟩ : ∃ A, (r + sig0 p + s).toNat = A := ⟨_, rfl⟩
          obtain ⟨T3, hT3⟩ : ∃ A, (r + sig0 p + s + sig1 q).toNat = A := ⟨_, rfl⟩
          rw [hP] at y15
          rw [hQ] at y2
          rw [hR] at y16
          rw [hS] at y7
          rw [hP, hA7] at R7
          rw [hP, hA18] at R18
          rw [hQ, hA17] at R17
          rw [hQ, hA19] at R19
          rw [hA7, hA18, hX0] at x1
          rw [hX0, hY3, hG0] at x2
          rw [hA17, hA19, hX1] at x3
          rw [hX1, hY10, hG1] at x4
          rw [hP, hY3] at s3
          rw [hQ, hY10] at s10
          rw [hR, hG0, hT1] at a1
          rw [hT1, hS, hT2] at a2
          rw [hT2, hG1, hT3] at a3
          have HT3 := Lib.hid hT3
          clear hP hQ hR hS hA7 hA18 hA17 hA19 hX0 hX1 hY3 hY10 hG0 hG1 hT1 hT2 hT3
          clear hcell hsn hown hm
          go_upto_region 11 with (fail)
          go_upto_region 13 with (first
            | (go_at_call 239; ((with_reducible refine (R7.out _).mono ?_)); rintro e w7 ⟨rfl, k7⟩)
            | (go_at_call 239; ((with_reducible refine (R18.out _).mono ?_)); rintro e w18 ⟨rfl, k18⟩)
            | (go_at_call 239; ((with_reducible refine (R17.out _).mono ?_)); rintro e w17 ⟨rfl, k17⟩)
            | (go_at_call 239; ((with_reducible refine (R19.out _).mono ?_)); rintro e w19 ⟨rfl, k19⟩))
          have hkw : Kept [] wr w19 := ((k7.trans k18).trans k17).trans k19
          have hw19 := own_keep HOWN.out hkw (by simp)
          have L16 : wr.cell? ⟨gb, g16, none⟩ = w19.cell? ⟨gb, g16, none⟩ := (hkw.cell (p := ⟨gb, g16, none⟩) hgl (by simp)).symm
          have L7 : wr.cell? ⟨gb, g7, none⟩ = w19.cell? ⟨gb, g7, none⟩ := (hkw.cell (p := ⟨gb, g7, none⟩) hgl (by simp)).symm
          rw [L16] at y16
          rw [L7] at y7
          have HOW := Lib.hid hw19
          have HKW := Lib.hid (hkr.trans hkw)
          have hsw := hkw.size
          have hgl2 : gb < w19.heap.size := by omega
          have c16 : g16 < k := by omega
          have c7 : g7 < k := by omega
          have o16 : (0 : Int) ≤ (g16 : Int) := Int.natCast_nonneg _
          have o7 : (0 : Int) ≤ (g7 : Int) := Int.natCast_nonneg _
          clear j16 j7 j15 j2 L16 L7 y15 y2 hkw hw19 k7 k18 k17 k19
          go_region_held3 (fun w' => w'.cell? ⟨gb, g16, none⟩ = some (.int .u32 (R : Int)) ∧ w'.cell? ⟨gb, g7, none⟩ = some (.int .u32 (S : Int)))
            (first
              | go_keep
              | (go_split_ands
                 refine ⟨?_, ?_⟩ <;> (rw [hold _ (by omega)]; assumption)))
            ((refine step_append_olds (by rfl) _ _ _ (by rfl) w.heap.size 218 iw _ 4 Tryz.underlying224 hi hz0 hz1 hz2 rfl gb k cp (wvs (sched bs k)) (by rfl) ((HOW.out.alloc _).drew)
                ⟨w19.heap.size, 0, none⟩ 1 1 [.int .u32 (T3 : Int)] (by rfl) (by rfl) (World.news_of_block (cs := #[.int .u32 (T3 : Int)]) (t := 218) (fr := (0, 0)) (heap_alloc_new w19 _)) (by simp [Value.oneCell']) (by omega) (by unfold maxLen; omega) (by omega) (by simp; omega) (w19.heap.size + 1) (by simp) ?_; intro gg cap w2 hown2 hg2 hat hlt2 hold))
          go_wp2_with fail
          go_roundw
          case rel => exact ⟨k + 1, by omega, by omega, by go_num, by rw [HSN.out]; unfold wvs at hown2 ⊢; rw [List.map_append, List.map_singleton, wv, HT3.out]; exact hown2, ((HKW.out.alloc _).drew).grown hg2 (fun x hx => Or.inr (by simp at hx; omega))⟩
          case measure => simp [intOf]; omega
        · obtain rfl : k = 64 := by omega
          go_wp2_with fail
          go_ret
          exact ⟨⟨_, rfl, hown⟩, hkr⟩
end Go.Proofs.YtpcdfepndmconaaGreatDoor
