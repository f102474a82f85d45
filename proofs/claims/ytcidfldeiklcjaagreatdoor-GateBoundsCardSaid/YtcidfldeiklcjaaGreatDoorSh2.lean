/- The hash function's message schedule, as the program makes it. -/
import Derived.Test.YtcidfldeiklcjaaGreatDoorEnv
import Derived.Test.YtcidfldeiklcjaaGreatDoorShaP
import Derived.Outline
import Derived.Laws.Rows
import Derived.Deep.Cut
import Derived.Test.YtcidfldeiklcjaaGreatDoorRdS
import Derived.StillTailTactics
/- JOINED: Sh1 Sh2 -/
/- The hash function's small parts: rotations, the first state, the tables. -/
namespace Go.Proofs.YtcidfldeiklcjaaGreatDoor
open Go.RowKit ShaP

/-- a word's value -/
abbrev wv (x : W) : Value := .int .u32 (x.toNat : Int)

set_option maxRecDepth 100000 in
set_option maxHeartbeats 800000 in
theorem rot_k (x : W) (k : Int) (s : Nat) (w : World) (hk : bits .and .u64 (IntKind.u64.wrap k) 31 = (s : Int)) (h0 : 0 < s) (hs : s < 32) :
    Calls Tryz.prog 185 #[wv x, .int .i64 k] w fun e w' => e = .returned (wv (rotr x (32 - s))) ∧ w = w' := by
  have e1 := shl_w x s
  have e2 := shr_w x (32 - s)
  have e3 := or_w (x <<< s) (x >>> (32 - s))
  have e4 : x <<< s ||| x >>> (32 - s) = rotr x (32 - s) := by
    unfold rotr
    rw [BitVec.or_comm, show 32 - (32 - s) = s by omega]
  rw [e4] at e3
  have e5 : (32 : Int) - (s : Int) = ((32 - s : Nat) : Int) := by omega
  obtain ⟨t, ht⟩ : ∃ t, 32 - s = t := ⟨_, rfl⟩
  rw [ht] at e2 e3 e5 ⊢
  have ht32 : t < 32 := by omega
  rw [Int.natCast_pow] at e1 e2
  obtain ⟨X, hX⟩ : ∃ X, x.toNat = X := ⟨_, rfl⟩
  obtain ⟨A, hA⟩ : ∃ A, (x <<< s).toNat = A := ⟨_, rfl⟩
  obtain ⟨C, hC⟩ : ∃ C, (x >>> t).toNat = C := ⟨_, rfl⟩
  obtain ⟨R, hR⟩ : ∃ R, (rotr x t).toNat = R := ⟨_, rfl⟩
  unfold wv
  rw [hX, hA] at e1
  rw [hX, hC] at e2
  rw [hA, hC, hR] at e3
  rw [hX, hR]
  clear hX hA hC hR e4 ht
  simp only [Int.cast_ofNat_Int] at e1 e2
  go_enter Tryz.func185, Tryz.ntmps185
  go_wp2_with fail
  go_ret
  exact ⟨rfl, rfl⟩
theorem rot2 (x : W) (w : World) : Calls Tryz.prog 185 #[wv x, .int .i64 (-2)] w fun e w' => e = .returned (wv (rotr x 2)) ∧ w = w' := rot_k x (-2) 30 w (by decide) (by omega) (by omega)
theorem rot6 (x : W) (w : World) : Calls Tryz.prog 185 #[wv x, .int .i64 (-6)] w fun e w' => e = .returned (wv (rotr x 6)) ∧ w = w' := rot_k x (-6) 26 w (by decide) (by omega) (by omega)
theorem rot7 (x : W) (w : World) : Calls Tryz.prog 185 #[wv x, .int .i64 (-7)] w fun e w' => e = .returned (wv (rotr x 7)) ∧ w = w' := rot_k x (-7) 25 w (by decide) (by omega) (by omega)
theorem rot11 (x : W) (w : World) : Calls Tryz.prog 185 #[wv x, .int .i64 (-11)] w fun e w' => e = .returned (wv (rotr x 11)) ∧ w = w' := rot_k x (-11) 21 w (by decide) (by omega) (by omega)
theorem rot13 (x : W) (w : World) : Calls Tryz.prog 185 #[wv x, .int .i64 (-13)] w fun e w' => e = .returned (wv (rotr x 13)) ∧ w = w' := rot_k x (-13) 19 w (by decide) (by omega) (by omega)
theorem rot17 (x : W) (w : World) : Calls Tryz.prog 185 #[wv x, .int .i64 (-17)] w fun e w' => e = .returned (wv (rotr x 17)) ∧ w = w' := rot_k x (-17) 15 w (by decide) (by omega) (by omega)
theorem rot18 (x : W) (w : World) : Calls Tryz.prog 185 #[wv x, .int .i64 (-18)] w fun e w' => e = .returned (wv (rotr x 18)) ∧ w = w' := rot_k x (-18) 14 w (by decide) (by omega) (by omega)
theorem rot19 (x : W) (w : World) : Calls Tryz.prog 185 #[wv x, .int .i64 (-19)] w fun e w' => e = .returned (wv (rotr x 19)) ∧ w = w' := rot_k x (-19) 13 w (by decide) (by omega) (by omega)
theorem rot22 (x : W) (w : World) : Calls Tryz.prog 185 #[wv x, .int .i64 (-22)] w fun e w' => e = .returned (wv (rotr x 22)) ∧ w = w' := rot_k x (-22) 10 w (by decide) (by omega) (by omega)
theorem rot25 (x : W) (w : World) : Calls Tryz.prog 185 #[wv x, .int .i64 (-25)] w fun e w' => e = .returned (wv (rotr x 25)) ∧ w = w' := rot_k x (-25) 7 w (by decide) (by omega) (by omega)

/-- the words of a list in memory -/
def wvs (l : List W) : List Value := l.map wv
set_option maxRecDepth 100000 in
theorem first_any (w : World) : Calls Tryz.prog 143 #[] w fun e w' => e = .returned (.agg (wvs first.list).toArray) ∧ Kept [] w w' := by
  go_enter Tryz.func143, Tryz.ntmps143
  go_wp2_with fail
  refine bodyPost_ret (v := .agg (wvs first.list).toArray) (by simp [results, Tryz.results143, go_sem]; rfl) rfl ⟨rfl, ?_⟩
  exact ((Kept.refl _ _).alloc _)
theorem info64 : (Tryz.prog.info? 219).map (·.size) = some 64 := by kernel_rfl
theorem Kept.setRow {S : List Nat} {w w' : World} (h : Kept S w w') {g : Nat} (hg : g ∈ S ∨ w.heap.size ≤ g) (cs : Array Value) : Kept S w (w'.setRow g cs) :=
  ⟨h.os, h.tape, h.output, by simpa [World.setRow] using h.size, fun k hk hS => (setRow_other w' g k cs (fun e => by rcases hg with hp | hp; exact hS (e ▸ hp); omega)).trans (h.block k hk hS)⟩
theorem Blk.setRow {w : World} {b : Nat} {T : TypeId} {cs cs' : Array Value} (h : Blk w b T cs) : Blk (w.setRow b cs') b T cs' := setRow_heap w b cs cs' T (0, 0) h

set_option maxRecDepth 100000 in
set_option maxHeartbeats 4000000 in
theorem table_any (w : World) : Calls Tryz.prog 184 #[] w fun e w' => e = .returned (.agg (wvs kTab).toArray) ∧ Kept [] w w' := by
  go_enter Tryz.func184, Tryz.ntmps184
  go_upto_region 1 with (fail)
  go_wp2_with (first
    | (refine wpList_build rfl _ _ rfl (by kernel_rfl) ?_)
    | (refine wpList_store_row rfl _ _ _ rfl w.heap.size (wvs kTab).toArray rfl (by kernel_rfl) 219 _ (heap_alloc_new w _) info64 (by kernel_rfl) (by kernel_rfl) ?_))
  refine bodyPost_ret (v := .agg (wvs kTab).toArray) (results_cell_row Tryz.results184 _ _ w.heap.size 219 _ (0, 0) _ rfl (setRow_heap _ _ _ _ _ _ (heap_alloc_new w _)) Tryz.underlying219 rfl info64) rfl ⟨rfl, ?_⟩
  exact ((Kept.refl _ _).alloc _).setRow (Or.inr (Nat.le_refl _)) _
end Go.Proofs.YtcidfldeiklcjaaGreatDoor
namespace Go.Proofs.YtcidfldeiklcjaaGreatDoor
open Go.RowKit ShaP

def bcs (l : List UInt8) : List Value := l.map fun c => .int .u8 (c.toNat : Int)
theorem bcs_get {l : List UInt8} {k : Nat} (h : k < l.length) : (bcs l)[k]? = some (.int .u8 ((zx (l.getD k 0)).toNat : Int)) := by
  rw [zx_toNat]
  simp [bcs, h, List.getD]
theorem zx_lt (c : UInt8) : (zx c).toNat < 256 := by rw [zx_toNat]; exact c.toNat_lt

def schedC (bs : List UInt8) (k : Nat) : Array Value := (wvs (sched bs k) ++ List.replicate (64 - k) (Value.int .u32 0)).toArray

theorem schedC_get (bs : List UInt8) (k j : Nat) (h : j < k) : (schedC bs k)[j]? = some (wv ((sched bs k).getD j 0)) := by
  have hl := sched_length bs k
  simp [schedC, wvs, List.getElem?_append, hl, h, List.getD]
theorem schedC_old (bs : List UInt8) (k : Nat) (h : k < 64) : (schedC bs k)[k]? = some (Value.int .u32 0) := by
  have hl := sched_length bs k
  simp [schedC, wvs, List.getElem?_append, hl, List.getElem?_replicate]
  omega
theorem schedC_set (bs : List UInt8) (k : Nat) (h : k < 64) : (schedC bs k).setIfInBounds k (wv (if k < 16 then by4 bs k else more (sched bs k))) = schedC bs (k + 1) := by
  have hl := sched_length bs k
  obtain ⟨j, hj⟩ : ∃ j, 64 - k = j + 1 := ⟨63 - k, by omega⟩
  unfold schedC
  rw [hj, show 64 - (k + 1) = j by omega, List.replicate_succ]
  show (_ : Array Value) = (wvs (sched bs k ++ [_]) ++ _).toArray
  simp only [List.setIfInBounds_toArray]
  congr 1
  have e : (wvs (sched bs k)).length = k := by simp [wvs, hl]
  rw [List.set_append_right _ _ (by omega), e, Nat.sub_self, List.set_cons_zero]
  simp [wvs]

set_option maxRecDepth 100000 in
set_option maxHeartbeats 4000000 in
theorem schedule_any (v : Value) (bs : List UInt8) (w : World) (hv : Row w 1 v 64 (bcs bs)) :
    Calls Tryz.prog 183 #[v] w fun e w' => e = .returned (.agg (wvs (sched bs 64)).toArray) ∧ Kept [] w w' := by
  obtain ⟨hlen, _⟩ := hv
  have hv : Row w 1 v 64 (bcs bs) := ⟨hlen, by assumption⟩
  have hlen : bs.length = 64 := by simpa [bcs] using hlen
  obtain ⟨a, c, rfl, _, hcap⟩ := hv.form
  have HV := Lib.hid hv
  obtain ⟨W, hW⟩ : ∃ W, w.alloc (.cells (schedC bs 0) 219) = W := ⟨_, rfl⟩
  have HW := Lib.hid hW
  clear hv
  go_enter Tryz.func183, Tryz.ntmps183
  go_upto_region 2 with (fail)
  go_loopw [3, 4, 5, 6, 7, 8] (fun _ _ _ _ _ i wr => ∃ k : Nat, k ≤ 64 ∧ i = .int .i64 k ∧ Blk wr w.heap.size 219 (schedC bs k) ∧ Kept [] w wr) (fun _ _ _ _ _ i _ => 64 - (intOf i).toNat)
  case atStart => exact ⟨0, by omega, rfl, by show (World.alloc _ _).heap[_]? = _; rw [heap_alloc_new]; kernel_rfl, (Kept.refl _ _).alloc _⟩
  case round =>
    obtain ⟨k, hk, rfl, hb, hkr⟩ := hrel
    have HB := Lib.hid hb
    by_cases hlt : k < 64
    · by_cases h16 : k < 16
      · obtain ⟨ba, oa, rfl, hca⟩ := (HV.out.kept hkr).at_ (by omega)
        have fz := hb.frozen k
        have x0 := hca _ _ (bcs_get (l := bs) (k := 4 * k) (by omega))
        have x1 := hca _ _ (bcs_get (l := bs) (k := 4 * k + 1) (by omega))
        have x2 := hca _ _ (bcs_get (l := bs) (k := 4 * k + 2) (by omega))
        have x3 := hca _ _ (bcs_get (l := bs) (k := 4 * k + 3) (by omega))
        have xk : wr.cell? ⟨w.heap.size, k, none⟩ = (schedC bs k)[k]? := hb.cell k
        have t0 := zx_lt (bs.getD (4 * k) 0)
        have t1 := zx_lt (bs.getD (4 * k + 1) 0)
        have t2 := zx_lt (bs.getD (4 * k + 2) 0)
        have t3 := zx_lt (bs.getD (4 * k + 3) 0)
        have HY := Lib.hid (by4_zx bs k)
        obtain ⟨z0, hz0⟩ : ∃ z, zx (bs.getD (4 * k) 0) = z := ⟨_, rfl⟩
        obtain ⟨z1, hz1⟩ : ∃ z, zx (bs.getD (4 * k + 1) 0) = z := ⟨_, rfl⟩
        obtain ⟨z2, hz2⟩ : ∃ z, zx (bs.getD (4 * k + 2) 0) = z := ⟨_, rfl⟩
        obtain ⟨z3, hz3⟩ : ∃ z, zx (bs.getD (4 * k + 3) 0) = z := ⟨_, rfl⟩
        rw [hz0] at x0 t0 HY
        rw [hz1] at x1 t1 HY
        rw [hz2] at x2 t2 HY
        rw [hz3] at x3 t3 HY
        clear hz0 hz1 hz2 hz3 hca hb
        go_upto_region 5 with (fail)
        have e24 := mul24_w t0
        have e16 := mul16_w t1
        have e8 := mul8_w t2
        have o1 := or_w (z0 <<< 24) (z1 <<< 16)
        have o2 := or_w (z0 <<< 24 ||| z1 <<< 16) (z2 <<< 8)
        have o3 := or_w (z0 <<< 24 ||| z1 <<< 16 ||| z2 <<< 8) z3
        rw [← HY.out] at o3
        have HS := schedC_set bs k hlt
        rw [if_pos h16] at HS
        have hset := HB.out.set_ k (wv (by4 bs k))
        rw [HS] at hset
        have HSET := Lib.hid hset
        have hk1 := hkr.setCell (p := ⟨w.heap.size, k, none⟩) (Or.inr (Nat.le_refl _)) (wv (by4 bs k))
        have HK1 := Lib.hid hk1
        rw [schedC_old bs k hlt] at xk
        obtain ⟨A, hA⟩ : ∃ A, (z0 <<< 24).toNat = A := ⟨_, rfl⟩
        obtain ⟨B, hB⟩ : ∃ A, (z1 <<< 16).toNat = A := ⟨_, rfl⟩
        obtain ⟨C, hC⟩ : ∃ A, (z2 <<< 8).toNat = A := ⟨_, rfl⟩
        obtain ⟨E, hE⟩ : ∃ A, (z0 <<< 24 ||| z1 <<< 16).toNat = A := ⟨_, rfl⟩
        obtain ⟨F, hF⟩ : ∃ A, (z0 <<< 24 ||| z1 <<< 16 ||| z2 <<< 8).toNat = A := ⟨_, rfl⟩
        obtain ⟨G, hG⟩ : ∃ A, (by4 bs k).toNat = A := ⟨_, rfl⟩
        obtain ⟨Z0, hZ0⟩ : ∃ A, z0.toNat = A := ⟨_, rfl⟩
        obtain ⟨Z1, hZ1⟩ : ∃ A, z1.toNat = A := ⟨_, rfl⟩
        obtain ⟨Z2, hZ2⟩ : ∃ A, z2.toNat = A := ⟨_, rfl⟩
        obtain ⟨Z3, hZ3⟩ : ∃ A, z3.toNat = A := ⟨_, rfl⟩
        unfold wv at HSET HK1
        rw [hZ0, hA] at e24
        rw [hZ1, hB] at e16
        rw [hZ2, hC] at e8
        rw [hA, hB, hE] at o1
        rw [hE, hC, hF] at o2
        rw [hF, hZ3, hG] at o3
        rw [hG] at HSET HK1
        rw [hZ0] at x0 t0
        rw [hZ1] at x1 t1
        rw [hZ2] at x2 t2
        rw [hZ3] at x3 t3
        clear hA hB hC hE hF hG hZ0 hZ1 hZ2 hZ3 hset hk1 HS
        obtain ⟨m0, hm0⟩ : ∃ m, 4 * k = m := ⟨_, rfl⟩
        obtain ⟨m1, hm1⟩ : ∃ m, 4 * k + 1 = m := ⟨_, rfl⟩
        obtain ⟨m2, hm2⟩ : ∃ m, 4 * k + 2 = m := ⟨_, rfl⟩
        obtain ⟨m3, hm3⟩ : ∃ m, 4 * k + 3 = m := ⟨_, rfl⟩
        rw [hm0] at x0
        rw [hm1] at x1
        rw [hm2] at x2
        rw [hm3] at x3
        have i0 : IntKind.i64.wrap (4 * (k : Int)) = (m0 : Int) := by rw [IntKind.wrap_i64]; omega
        have i1 : IntKind.i64.wrap ((m0 : Int) + 1) = (m1 : Int) := by rw [IntKind.wrap_i64]; omega
        have i2 : IntKind.i64.wrap ((m0 : Int) + 2) = (m2 : Int) := by rw [IntKind.wrap_i64]; omega
        have i3 : IntKind.i64.wrap ((m0 : Int) + 3) = (m3 : Int) := by rw [IntKind.wrap_i64]; omega
        have c0 : m0 < 64 := by omega
        have c1 : m1 < 64 := by omega
        have c2 : m2 < 64 := by omega
        have c3 : m3 < 64 := by omega
        have w0 : IntKind.u32.wrap (Z0 : Int) = (Z0 : Int) := by rw [ShaP.wrap_u32]; omega
        have w1 : IntKind.u32.wrap (Z1 : Int) = (Z1 : Int) := by rw [ShaP.wrap_u32]; omega
        have w2 : IntKind.u32.wrap (Z2 : Int) = (Z2 : Int) := by rw [ShaP.wrap_u32]; omega
        have w3 : IntKind.u32.wrap (Z3 : Int) = (Z3 : Int) := by rw [ShaP.wrap_u32]; omega
        clear hm0 hm1 hm2 hm3
        have n0 : (m0 : Int) < 64 := by omega
        have n1 : (m1 : Int) < 64 := by omega
        have n2 : (m2 : Int) < 64 := by omega
        have n3 : (m3 : Int) < 64 := by omega
        have nk : (k : Int) < 64 := by omega
        go_still_tail 35, (by kernel_rfl)
        change wpList _ _ _ _ _ wr.drew
        go_wp2_with fail
        go_roundw
        case rel => exact ⟨k + 1, by omega, by go_num, HSET.out.drew, HK1.out.drew⟩
        case measure => simp [intOf]; omega
      · have hk16 : 16 ≤ k := by omega
        have hl := sched_length bs k
        have fz := hb.frozen k
        have xk : wr.cell? ⟨w.heap.size, k, none⟩ = (schedC bs k)[k]? := hb.cell k
        rw [schedC_old bs k hlt] at xk
        have y15 : wr.cell? ⟨w.heap.size, k - 15, none⟩ = _ := (hb.cell (k - 15)).trans (schedC_get bs k (k - 15) (by omega))
        have y2 : wr.cell? ⟨w.heap.size, k - 2, none⟩ = _ := (hb.cell (k - 2)).trans (schedC_get bs k (k - 2) (by omega))
        have y16 : wr.cell? ⟨w.heap.size, k - 16, none⟩ = _ := (hb.cell (k - 16)).trans (schedC_get bs k (k - 16) (by omega))
        have y7 : wr.cell? ⟨w.heap.size, k - 7, none⟩ = _ := (hb.cell (k - 7)).trans (schedC_get bs k (k - 7) (by omega))
        have HS := schedC_set bs k hlt
        rw [if_neg h16] at HS
        have hm : more (sched bs k) = (sched bs k).getD (k - 16) 0 + sig0 ((sched bs k).getD (k - 15) 0) + (sched bs k).getD (k - 7) 0 + sig1 ((sched bs k).getD (k - 2) 0) := by unfold more; rw [hl]
        obtain ⟨p, hp⟩ : ∃ z, (sched bs k).getD (k - 15) 0 = z := ⟨_, rfl⟩
        obtain ⟨q, hq⟩ : ∃ z, (sched bs k).getD (k - 2) 0 = z := ⟨_, rfl⟩
        obtain ⟨r, hr⟩ : ∃ z, (sched bs k).getD (k - 16) 0 = z := ⟨_, rfl⟩
        obtain ⟨s, hs⟩ : ∃ z, (sched bs k).getD (k - 7) 0 = z := ⟨_, rfl⟩
        rw [hp, hq, hr, hs] at hm
        rw [hp] at y15
        rw [hq] at y2
        rw [hr] at y16
        rw [hs] at y7
        rw [hm] at HS
        obtain ⟨g15, h15⟩ : ∃ m, k - 15 = m := ⟨_, rfl⟩
        obtain ⟨g2, h2⟩ : ∃ m, k - 2 = m := ⟨_, rfl⟩
        obtain ⟨g16, h16'⟩ : ∃ m, k - 16 = m := ⟨_, rfl⟩
        obtain ⟨g7, h7⟩ : ∃ m, k - 7 = m := ⟨_, rfl⟩
        rw [h15] at y15
        rw [h2] at y2
        rw [h16'] at y16
        rw [h7] at y7
        have i15 : IntKind.i64.wrap ((k : Int) - 15) = (g15 : Int) := by rw [IntKind.wrap_i64]; omega
        have i2 : IntKind.i64.wrap ((k : Int) - 2) = (g2 : Int) := by rw [IntKind.wrap_i64]; omega
        have i16 : IntKind.i64.wrap ((k : Int) - 16) = (g16 : Int) := by rw [IntKind.wrap_i64]; omega
        have i7 : IntKind.i64.wrap ((k : Int) - 7) = (g7 : Int) := by rw [IntKind.wrap_i64]; omega
        have j15 : (k : Int) - 15 = (g15 : Int) := by omega
        have j2 : (k : Int) - 2 = (g2 : Int) := by omega
        have j16 : (k : Int) - 16 = (g16 : Int) := by omega
        have j7 : (k : Int) - 7 = (g7 : Int) := by omega
        have n15 : (g15 : Int) < 64 := by omega
        have n2 : (g2 : Int) < 64 := by omega
        have n16 : (g16 : Int) < 64 := by omega
        have n7 : (g7 : Int) < 64 := by omega
        have nk : (k : Int) < 64 := by omega
        have x1 := xor_w (rotr p 7) (rotr p 18)
        have x2 := xor_w (rotr p 7 ^^^ rotr p 18) (p >>> 3)
        have x3 := xor_w (rotr q 17) (rotr q 19)
        have x4 := xor_w (rotr q 17 ^^^ rotr q 19) (q >>> 10)
        have s3 := shr3_w p
        have s10 := shr10_w q
        have a1 := add_w r (sig0 p)
        have a2 := add_w (r + sig0 p) s
        have a3 := add_w (r + sig0 p + s) (sig1 q)
        have E0 : Hid (rotr p 7 ^^^ rotr p 18 ^^^ p >>> 3 = sig0 p) := rfl
        have E1 : Hid (rotr q 17 ^^^ rotr q 19 ^^^ q >>> 10 = sig1 q) := rfl
        rw [E0.out] at x2
        rw [E1.out] at x4
        have hset := HB.out.set_ k (wv (r + sig0 p + s + sig1 q))
        rw [HS] at hset
        have HSET := Lib.hid hset
        have HK1 := Lib.hid (hkr.setCell (p := ⟨w.heap.size, k, none⟩) (Or.inr (Nat.le_refl _)) (wv (r + sig0 p + s + sig1 q)))
        have R7 := Lib.hid (rot7 p)
        have R18 := Lib.hid (rot18 p)
        have R17 := Lib.hid (rot17 q)
        have R19 := Lib.hid (rot19 q)
        unfold wv at y15 y2 y16 y7 R7 R18 R17 R19 HSET HK1
        clear E0 E1
        obtain ⟨P, hP⟩ : ∃ A, (p).toNat = A := ⟨_, rfl⟩
        obtain ⟨Q, hQ⟩ : ∃ A, (q).toNat = A := ⟨_, rfl⟩
        obtain ⟨R, hR⟩ : ∃ A, (r).toNat = A := ⟨_, rfl⟩
        obtain ⟨S, hS⟩ : ∃ A, (s).toNat = A := ⟨_, rfl⟩
        obtain ⟨A7, hA7⟩ : ∃ A, (rotr p 7).toNat = A := ⟨_, rfl⟩
        obtain ⟨A18, hA18⟩ : ∃ A, (rotr p 18).toNat = A := ⟨_, rfl⟩
        obtain ⟨A17, hA17⟩ : ∃ A, (rotr q 17).toNat = A := ⟨_, rfl⟩
        obtain ⟨A19, hA19⟩ : ∃ A, (rotr q 19).toNat = A := ⟨_, rfl⟩
        obtain ⟨X0, hX0⟩ : ∃ A, (rotr p 7 ^^^ rotr p 18).toNat = A := ⟨_, rfl⟩
        obtain ⟨X1, hX1⟩ : ∃ A, (rotr q 17 ^^^ rotr q 19).toNat = A := ⟨_, rfl⟩
        obtain ⟨Y3, hY3⟩ : ∃ A, (p >>> 3).toNat = A := ⟨_, rfl⟩
        obtain ⟨Y10, hY10⟩ : ∃ A, (q >>> 10).toNat = A := ⟨_, rfl⟩
        obtain ⟨G0, hG0⟩ : ∃ A, (sig0 p).toNat = A := ⟨_, rfl⟩
        obtain ⟨G1, hG1⟩ : ∃ A, (sig1 q).toNat = A := ⟨_, rfl⟩
        obtain ⟨T1, hT1⟩ : ∃ A, (r + sig0 p).toNat = A := ⟨_, rfl⟩
        obtain ⟨T2, hT2⟩ : ∃ A, (r + sig0 p + s).toNat = A := ⟨_, rfl⟩
        obtain ⟨T3, hT3⟩ : ∃ A, (r + sig0 p + s + sig1 q).toNat = A := ⟨_, rfl⟩
        rw [hP] at y15
        rw [hQ] at y2
        rw [hR] at y16
        rw [hS] at y7
        rw [hP, hA7] at R7
        rw [hP, hA18] at R18
        rw [hQ, hA17] at R17
        rw [hQ, hA19] at R19
        rw [hA7, hA18, hX0] at x1
        rw [hX0, hY3, hG0] at x2
        rw [hA17, hA19, hX1] at x3
        rw [hX1, hY10, hG1] at x4
        rw [hP, hY3] at s3
        rw [hQ, hY10] at s10
        rw [hR, hG0, hT1] at a1
        rw [hT1, hS, hT2] at a2
        rw [hT2, hG1, hT3] at a3
        rw [hT3] at HSET
        rw [hT3] at HK1
        clear hP hQ hR hS hA7 hA18 hA17 hA19 hX0 hX1 hY3 hY10 hG0 hG1 hT1 hT2 hT3
        clear hp hq hr hs hm HS h15 h2 h16' h7 hset hb hl
        go_upto_region 6 with (fail)
        go_region
        go_upto_region 9 with (first
          | (go_at_call 185; ((with_reducible refine (R7.out _).mono ?_); rintro e w2 ⟨rfl, rfl⟩))
          | (go_at_call 185; ((with_reducible refine (R18.out _).mono ?_); rintro e w2 ⟨rfl, rfl⟩))
          | (go_at_call 185; ((with_reducible refine (R17.out _).mono ?_); rintro e w2 ⟨rfl, rfl⟩))
          | (go_at_call 185; ((with_reducible refine (R19.out _).mono ?_); rintro e w2 ⟨rfl, rfl⟩)))
        go_region
        go_wp2_with fail
        go_roundw
        case rel => exact ⟨k + 1, by omega, by go_num, HSET.out.drew.drew, HK1.out.drew.drew⟩
        case measure => simp [intOf]; omega
    · obtain rfl : k = 64 := by omega
      have hfin : schedC bs 64 = (wvs (sched bs 64)).toArray := by simp [schedC]
      rw [hfin] at hb
      have hsz : ((wvs (sched bs 64)).toArray).size = 64 := by simp [wvs, sched_length]
      have hone : ((wvs (sched bs 64)).toArray).all (·.oneCell') = true := by
        rw [Array.all_eq_true_iff_forall_mem]
        intro x hx
        simp [wvs] at hx
        obtain ⟨y, _, rfl⟩ := hx
        rfl
      obtain ⟨A, hA⟩ : ∃ A, (wvs (sched bs 64)).toArray = A := ⟨_, rfl⟩
      rw [hA] at hb hsz hone
      have HA := Lib.hid hA
      have hinf : (Tryz.prog.info? 219).map (·.size) = some A.size := by rw [info64, hsz]
      have HI := Lib.hid hinf
      have HS := Lib.hid hone
      have HBA := Lib.hid hb
      clear hA hfin hb hsz hone hinf HB
      go_wp2_with (first
        | (refine wpList_load_row rfl _ _ rfl w.heap.size rfl 219 A (0, 0) _ HBA.out Tryz.underlying219 rfl HI.out ?_)
        | (refine wpList_store_row rfl _ _ _ rfl w.heap.size A rfl rfl 219 A HBA.out HI.out rfl HS.out ?_))
      refine bodyPost_ret (v := .agg A) (results_cell_row Tryz.results183 _ _ w.heap.size 219 A (0, 0) _ rfl (HBA.out.setRow) Tryz.underlying219 rfl HI.out) rfl ⟨by rw [HA.out], ?_⟩
      exact hkr.setRow (Or.inr (Nat.le_refl _)) _
end Go.Proofs.YtcidfldeiklcjaaGreatDoor
