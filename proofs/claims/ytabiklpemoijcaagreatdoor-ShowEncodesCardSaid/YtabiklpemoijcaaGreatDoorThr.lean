/- The polynomial through two points: Through. -/
import Derived.Test.YtabiklpemoijcaaGreatDoorPnt
import Derived.StillTailTactics
import Derived.Deep.RegionWith
namespace Go.Proofs.YtabiklpemoijcaaGreatDoor
open Go.RowKit

/-- an owned row of ints lies in a block -/
theorem own_blk {w : World} {B : Nat} {e : TypeId} {v : Value} {n : Nat} {xs : List Value} (h : w.ownsRow B e 1 v n xs) (hn : 0 < n) :
    ∃ (g cap : Nat) (cur : Array Value), v = .slice (some ⟨g, 0, none⟩) n cap ∧ B ≤ g ∧ Blk w g e cur ∧ n ≤ cap ∧ ∀ (k : Nat) (u : Value), xs[k]? = some u → cur[k]? = some u := by
  rcases h.2 with ⟨h1, h2⟩ | ⟨g, cap, cur, hv, hB, hg, hnc, hcm, hcs, hx⟩
  · have := h.1
    subst h2
    simp at this
    omega
  · refine ⟨g, cap, cur, hv, hB, hg, hnc, fun k u hu => ?_⟩
    rw [← hx, List.getElem?_take] at hu
    split at hu
    · simpa using hu
    · cases hu

theorem add0 (d : Nat) (h : d < 11) : addN 11 0 (d : Int) = d := by
  unfold addN
  have e0 : res 11 0 = 0 := by decide
  have e1 := res_eq 11 (d : Int) (by omega)
  rw [Int.emod_eq_of_lt (by omega) (by omega)] at e1
  rw [e0, show res 11 (d : Int) = d by omega, Nat.zero_add, Nat.mod_eq_of_lt h]
theorem Kept.mono0 {S : List Nat} {w w' : World} (h : Kept S w w') (hS : ∀ k ∈ S, w.heap.size ≤ k) : Kept [] w w' := ⟨h.os, h.tape, h.output, h.size, fun k hk _ => h.block k hk (fun hx => by have := hS k hx; omega)⟩
theorem make2 (w : World) : (Instr.makeSlice 24 (.int .i64 2) (.int .i64 2)).run Tryz.prog w = .ok (.slice (some ⟨w.heap.size, 0, none⟩) 2 2) (w.alloc (.cells #[.int .i64 0, .int .i64 0] 3)) := by kernel_rfl

set_option maxRecDepth 100000 in
set_option maxHeartbeats 4000000 in
theorem through_x (vx vy : Value) (y0 y1 s d m q r : Nat) (w : World) (hx : Row w 1 vx 2 (ints [1, 2])) (hy : Row w 1 vy 2 (ints [(y0 : Int), (y1 : Int)])) (h0 : y0 < 11) (h1 : y1 < 11)
    (hs : subN 11 (y1 : Int) (y0 : Int) = s) (hd : mulN 11 (s : Int) 1 = d) (hm : mulN 11 (d : Int) 1 = m) (hq : subN 11 0 (m : Int) = q) (hr : addN 11 (q : Int) (y0 : Int) = r) :
    Calls Tryz.prog 35 #[.int .i64 11, vx, vy] w fun e w' => ∃ v, e = .returned (.tuple #[v, .bool true]) ∧ Row w' 1 v 2 (ints [(r : Int), (d : Int)]) ∧ Kept [] w w' := by
  obtain ⟨ax, cx, rfl, _, _⟩ := hx.form
  obtain ⟨ay, cy, rfl, _, _⟩ := hy.form
  have HX := Lib.hid hx
  have HY := Lib.hid hy
  have PX := Lib.hid (points_x _ w hx)
  have RES : Hid (∀ (y : Nat) w, y < 11 → Calls Tryz.prog 98 #[.int .i64 11, .int .i64 y] w fun e w' => e = .returned (.int .u64 y) ∧ w = w') := fun y w hy => by
    have := residue_any 11 y w (by omega) (by omega) ⟨by omega, by omega⟩
    rwa [res_eq 11 y (by omega), Int.emod_eq_of_lt (by omega) (by omega)] at this
  have SUB21 : Hid (∀ w, Calls Tryz.prog 34 #[.int .i64 11, .int .i64 2, .int .i64 1] w fun e w' => e = .returned (.int .i64 1) ∧ Kept [] w w') := fun w => fsub_any 11 2 1 w (by omega) (by omega) ⟨by omega, by omega⟩ ⟨by omega, by omega⟩
  have SUBY : Hid (∀ w, Calls Tryz.prog 34 #[.int .i64 11, .int .i64 y1, .int .i64 y0] w fun e w' => e = .returned (.int .i64 s) ∧ Kept [] w w') := fun w => by
    have := fsub_any 11 y1 y0 w (by omega) (by omega) ⟨by omega, by omega⟩ ⟨by omega, by omega⟩
    rwa [hs] at this
  have hs11 : s < 11 := hs ▸ subN_lt _ _ _ (by omega)
  have MULD : Hid (∀ w, Calls Tryz.prog 33 #[.int .i64 11, .int .i64 s, .int .i64 1] w fun e w' => e = .returned (.int .i64 d) ∧ Kept [] w w') := fun w => by
    have := fmul_any 11 s 1 w (by omega) (by omega) ⟨by omega, by omega⟩ ⟨by omega, by omega⟩
    rwa [hd] at this
  have hd11 : d < 11 := hd ▸ mulN_lt _ _ _ (by omega)
  have hm11 : m < 11 := hm ▸ mulN_lt _ _ _ (by omega)
  have hq11 : q < 11 := hq ▸ subN_lt _ _ _ (by omega)
  have MUL02 : Hid (∀ w, Calls Tryz.prog 33 #[.int .i64 11, .int .i64 0, .int .i64 2] w fun e w' => e = .returned (.int .i64 0) ∧ Kept [] w w') := fun w => by
    have := fmul_any 11 0 2 w (by omega) (by omega) ⟨by omega, by omega⟩ ⟨by omega, by omega⟩
    exact this
  have MUL01 : Hid (∀ w, Calls Tryz.prog 33 #[.int .i64 11, .int .i64 0, .int .i64 1] w fun e w' => e = .returned (.int .i64 0) ∧ Kept [] w w') := fun w => by
    have := fmul_any 11 0 1 w (by omega) (by omega) ⟨by omega, by omega⟩ ⟨by omega, by omega⟩
    exact this
  have SUB00 : Hid (∀ w, Calls Tryz.prog 34 #[.int .i64 11, .int .i64 0, .int .i64 0] w fun e w' => e = .returned (.int .i64 0) ∧ Kept [] w w') := fun w => by
    have := fsub_any 11 0 0 w (by omega) (by omega) ⟨by omega, by omega⟩ ⟨by omega, by omega⟩
    exact this
  have ADD00 : Hid (∀ w, Calls Tryz.prog 32 #[.int .i64 11, .int .i64 0, .int .i64 0] w fun e w' => e = .returned (.int .i64 0) ∧ Kept [] w w') := fun w => by
    have := fadd_any 11 0 0 w (by omega) (by omega) ⟨by omega, by omega⟩ ⟨by omega, by omega⟩
    exact this
  have ADD0D : Hid (∀ w, Calls Tryz.prog 32 #[.int .i64 11, .int .i64 0, .int .i64 d] w fun e w' => e = .returned (.int .i64 d) ∧ Kept [] w w') := fun w => by
    have := fadd_any 11 0 d w (by omega) (by omega) ⟨by omega, by omega⟩ ⟨by omega, by omega⟩
    rwa [add0 d hd11] at this
  have MULDD : Hid (∀ w, Calls Tryz.prog 33 #[.int .i64 11, .int .i64 d, .int .i64 1] w fun e w' => e = .returned (.int .i64 m) ∧ Kept [] w w') := fun w => by
    have := fmul_any 11 d 1 w (by omega) (by omega) ⟨by omega, by omega⟩ ⟨by omega, by omega⟩
    rwa [hm] at this
  have SUBM : Hid (∀ w, Calls Tryz.prog 34 #[.int .i64 11, .int .i64 0, .int .i64 m] w fun e w' => e = .returned (.int .i64 q) ∧ Kept [] w w') := fun w => by
    have := fsub_any 11 0 m w (by omega) (by omega) ⟨by omega, by omega⟩ ⟨by omega, by omega⟩
    rwa [hq] at this
  have ADDR : Hid (∀ w, Calls Tryz.prog 32 #[.int .i64 11, .int .i64 q, .int .i64 y0] w fun e w' => e = .returned (.int .i64 r) ∧ Kept [] w w') := fun w => by
    have := fadd_any 11 q y0 w (by omega) (by omega) ⟨by omega, by omega⟩ ⟨by omega, by omega⟩
    rwa [hr] at this
  have hms := make2
  obtain ⟨i0, hi, hz0, hz1, hz2⟩ := info_parts infoInt
  have HQS := Lib.hid (And.intro hm (And.intro hq hr))
  clear hx hy hs hd hm hq hr
  go_enter Tryz.func35, Tryz.ntmps35
  go_wp2_with (go_at_call 100; refine PX.out.mono ?_)
  rintro e w1 ⟨rfl, hk1⟩
  go_wp2_with fail
  go_loopw [8, 10, 31] (fun vd _ vi wr => ∃ k : Nat, k ≤ 2 ∧ vi = .int .i64 k ∧ wr.ownsRow w1.heap.size 3 1 vd k (ints (([(y0 : Int), (y1 : Int)]).take k)) ∧ Kept [] w1 wr) (fun _ _ vi _ => 2 - (intOf vi).toNat)
  case atStart => exact ⟨0, by omega, rfl, by simpa [ints] using World.ownsRow_nil _ _ _ _, Kept.refl _ _⟩
  case round =>
    obtain ⟨k, hk, rfl, hown, hkr⟩ := hrel
    obtain ⟨ba, oa, rfl, hca⟩ := (HY.out.kept (hk1.trans hkr)).at_ (by omega)
    have hsz := hkr.size
    rcases (by omega : k = 0 ∨ k = 1 ∨ k = 2) with rfl | rfl | rfl
    · have xa : wr.cell? ⟨ba, oa, none⟩ = some (.int .i64 y0) := hca 0 _ rfl
      clear hca
      go_wp2_with (first
        | (go_at_call 98; with_reducible refine (RES.out y0 _ h0).mono ?_; rintro e w' ⟨rfl, rfl⟩)
        | (at_builtin; refine wpList_append_own _ rfl _ _ 24 rfl w1.heap.size 3 i0 (.int .i64 0) 1 8 Tryz.underlying24 hi hz0 hz1 hz2 rfl (by decide) _ _ _ rfl (hown.alloc _) ⟨wr.heap.size, 0, none⟩ 1 1 [.int .i64 y0] rfl rfl (cell_one_new _ _ _) (by intro u hu; rw [List.mem_singleton] at hu; subst hu; rfl) (by unfold maxLen; omega) (by omega) (by simp; omega) ?_; intro v' w3 hown3 hg3 _))
      have hk3 : Kept [] w1 w3 := (hkr.alloc _).grown hg3 (fun k hk => Or.inr (hown.lt k hk).1)
      clear hg3
      go_wp2_with fail
      go_roundw
      case rel => exact ⟨1, by omega, rfl, hown3, hk3⟩
      case measure => simp [intOf]
    · have xa : wr.cell? ⟨ba, oa + 1, none⟩ = some (.int .i64 y1) := hca 1 _ rfl
      clear hca
      go_wp2_with (first
        | (go_at_call 98; with_reducible refine (RES.out y1 _ h1).mono ?_; rintro e w' ⟨rfl, rfl⟩)
        | (at_builtin; refine wpList_append_own _ rfl _ _ 24 rfl w1.heap.size 3 i0 (.int .i64 0) 1 8 Tryz.underlying24 hi hz0 hz1 hz2 rfl (by decide) _ _ _ rfl (hown.alloc _) ⟨wr.heap.size, 0, none⟩ 1 1 [.int .i64 y1] rfl rfl (cell_one_new _ _ _) (by intro u hu; rw [List.mem_singleton] at hu; subst hu; rfl) (by unfold maxLen; omega) (by omega) (by simp; omega) ?_; intro v' w3 hown3 hg3 _))
      have hk3 : Kept [] w1 w3 := (hkr.alloc _).grown hg3 (fun k hk => Or.inr (hown.lt k hk).1)
      clear hg3
      go_wp2_with fail
      go_roundw
      case rel => exact ⟨2, by omega, rfl, hown3, hk3⟩
      case measure => simp [intOf]
    · clear hca
      obtain ⟨g, cap, cur, rfl, hBg, hblk, hcap, hcur⟩ := own_blk hown (by omega)
      have c0 : cur[0]? = some (.int .i64 y0) := hcur 0 _ rfl
      have c1 : cur[1]? = some (.int .i64 y1) := hcur 1 _ rfl
      clear hcur hown
      go_wp2_with fail
      rw [show ((2 : Nat) : Int) = 2 from rfl]
      go_loopw [11, 12, 13, 14] (fun vk _ _ _ wr' => (vk = .int .i64 1 ∧ wr' = wr) ∨ (vk = .int .i64 2 ∧ ∃ cur', cur'[0]? = some (.int .i64 y0) ∧ cur'[1]? = some (.int .i64 d) ∧ Blk wr' g 3 cur' ∧ Kept [g] wr wr')) (fun vk _ _ _ _ => 2 - (intOf vk).toNat)
      case atStart => exact Or.inl ⟨rfl, rfl⟩
      case round =>
        rcases hrel with ⟨rfl, rfl⟩ | ⟨rfl, cur', c0', c1', hblk', hkr'⟩
        · go_wp2_with fail
          go_loopw [12, 13, 14] (fun vi _ _ wr' => (vi = .int .i64 1 ∧ wr' = wr) ∨ (vi = .int .i64 0 ∧ ∃ cur', cur'[0]? = some (.int .i64 y0) ∧ cur'[1]? = some (.int .i64 d) ∧ Blk wr' g 3 cur' ∧ Kept [g] wr wr')) (fun vi _ _ _ => (intOf vi).toNat)
          case atStart => exact Or.inl ⟨rfl, rfl⟩
          case round =>
            rcases hrel with ⟨rfl, rfl⟩ | ⟨rfl, cur', c0', c1', hblk', hkr'⟩
            · obtain ⟨bx, ox, rfl, hcx⟩ := (HX.out.kept (hk1.trans hkr)).at_ (by omega)
              have x0 : ∀ w', Kept [] wr w' → w'.cell? ⟨bx, ox, none⟩ = some (.int .i64 1) := Kept.cellOf (hcx 0 _ rfl)
              have x1 : ∀ w', Kept [] wr w' → w'.cell? ⟨bx, ox + 1, none⟩ = some (.int .i64 2) := Kept.cellOf (hcx 1 _ rfl)
              clear hcx
              have hwr : IntKind.i64.wrap ((1 : Int) - 1) = 0 := by decide
              have hwr' : IntKind.i64.wrap (0 : Int) = 0 := by decide
              go_upto_region 15 with (fail)
              go_region_held3 (fun w' => Kept [] wr w') (first | assumption | exact (Kept.refl _ _).drew | exact Kept.alloc (by assumption) _)
                (first
                  | (go_at_call 34; with_reducible refine (kept_from (W := wr) (by assumption) (SUB21.out _)).mono ?_; rintro e w4 ⟨rfl, hk4⟩)
                  | (go_at_call 31; with_reducible refine (kept_from (W := wr) (by assumption) (inv_one _)).mono ?_; rintro e w5 ⟨rfl, hk5⟩))
              clear x0 x1 hk4
              have hb5 := hblk.kept hk5 (by simp)
              have hgl := hb5.lt
              have f5 := hb5.frozen 1
              have d0 : w5.cell? ⟨g, 0, none⟩ = some (.int .i64 y0) := (hb5.cell 0).trans c0
              have d1 : w5.drew.cell? ⟨g, 1, none⟩ = some (.int .i64 y1) := (hb5.cell 1).trans c1
              go_upto_region 16 with (fail)
              refine wp_region_held_drew (S := fun w' => Kept [g] w5 w' ∧ w'.cell? ⟨g, 0, none⟩ = some (.int .i64 y0)) (by kernel_rfl) ⟨(Kept.refl _ _).drew, d0⟩ (fun hHeld => ?_)
              refine take_of (i := 0) (v := ?v1x0) rfl (by kernel_rfl) (by kernel_rfl) (by kernel_rfl) (fun _ _ _ h => h) (Or.inl ⟨by rfl, ?hy1x0⟩) hHeld ?rest1x0
              case hy1x0 => intro w' hSw; (try dsimp only at hSw); obtain ⟨hSw, hSc⟩ := hSw; go_simp; first | done | with_reducible rfl
              simp only [Act.put, List.setIfInBounds_toArray, List.set_cons_zero, List.set_cons_succ]
              refine take_of (i := 1) (v := ?v1x1) rfl (by kernel_rfl) (by kernel_rfl) (by kernel_rfl) (fun _ _ _ h => h) (Or.inl ⟨by rfl, ?hy1x1⟩) hHeld ?rest1x1
              case hy1x1 => intro w' hSw; (try dsimp only at hSw); obtain ⟨hSw, hSc⟩ := hSw; go_simp; first | done | with_reducible rfl
              simp only [Act.put, List.setIfInBounds_toArray, List.set_cons_zero, List.set_cons_succ]
              refine take_of (i := 2) (v := ?v1x2) rfl (by kernel_rfl) (by kernel_rfl) (by kernel_rfl) (fun _ _ _ h => h) (Or.inl ⟨by rfl, ?hy1x2⟩) hHeld ?rest1x2
              case hy1x2 => intro w' hSw; (try dsimp only at hSw); obtain ⟨hSw, hSc⟩ := hSw; go_simp; first | done | with_reducible rfl
              simp only [Act.put, List.setIfInBounds_toArray, List.set_cons_zero, List.set_cons_succ]
              refine take_of (i := 3) (v := ?v1x3) rfl (by kernel_rfl) (by kernel_rfl) (by kernel_rfl) (fun _ _ _ h => h) (Or.inl ⟨by rfl, ?hy1x3⟩) hHeld ?rest1x3
              case hy1x3 => intro w' hSw; (try dsimp only at hSw); obtain ⟨hSw, hSc⟩ := hSw; go_simp; first | done | with_reducible rfl
              simp only [Act.put, List.setIfInBounds_toArray, List.set_cons_zero, List.set_cons_succ]
              refine take_of (i := 4) (v := ?v1x4) rfl (by kernel_rfl) (by kernel_rfl) (by kernel_rfl) (fun _ _ _ h => h) (Or.inl ⟨by rfl, ?hy1x4⟩) hHeld ?rest1x4
              case hy1x4 => intro w' hSw; (try dsimp only at hSw); obtain ⟨hSw, hSc⟩ := hSw; go_simp; first | done | with_reducible rfl
              simp only [Act.put, List.setIfInBounds_toArray, List.set_cons_zero, List.set_cons_succ]
              refine take_of (i := 5) (v := ?v1x5) rfl (by kernel_rfl) (by kernel_rfl) (by kernel_rfl) (fun _ _ _ h => h) (Or.inl ⟨by rfl, ?hy1x5⟩) hHeld ?rest1x5
              case hy1x5 => intro w' hSw; (try dsimp only at hSw); obtain ⟨hSw, hSc⟩ := hSw; go_simp; first | done | with_reducible rfl
              simp only [Act.put, List.setIfInBounds_toArray, List.set_cons_zero, List.set_cons_succ]
              refine take_of (i := 6) (v := ?v1x6) rfl (by kernel_rfl) (by kernel_rfl) (by kernel_rfl) (fun _ _ _ h => h) (Or.inl ⟨by rfl, ?hy1x6⟩) hHeld ?rest1x6
              case hy1x6 => intro w' hSw; (try dsimp only at hSw); obtain ⟨hSw, hSc⟩ := hSw; go_simp; first | done | with_reducible rfl
              simp only [Act.put, List.setIfInBounds_toArray, List.set_cons_zero, List.set_cons_succ]
              refine take_of (i := 8) (v := ?v1x8) rfl (by kernel_rfl) (by kernel_rfl) (by kernel_rfl) (fun _ _ _ h => h) (Or.inl ⟨by rfl, ?hy1x8⟩) hHeld ?rest1x8
              case hy1x8 => intro w' hSw; (try dsimp only at hSw); obtain ⟨hSw, hSc⟩ := hSw; go_simp; first | done | with_reducible rfl
              simp only [Act.put, List.setIfInBounds_toArray, List.set_cons_zero, List.set_cons_succ]
              refine take_of (i := 9) (v := ?v1x9) rfl (by kernel_rfl) (by kernel_rfl) (by kernel_rfl) (fun _ _ _ h => h) (Or.inl ⟨by rfl, ?hy1x9⟩) hHeld ?rest1x9
              case hy1x9 => intro w' hSw; (try dsimp only at hSw); obtain ⟨hSw, hSc⟩ := hSw; go_simp; first | done | with_reducible rfl
              simp only [Act.put, List.setIfInBounds_toArray, List.set_cons_zero, List.set_cons_succ]
              refine take_of (i := 10) (v := ?v1x10) rfl (by kernel_rfl) (by kernel_rfl) (by kernel_rfl) (fun _ _ _ h => h) (Or.inl ⟨by rfl, ?hy1x10⟩) hHeld ?rest1x10
              case hy1x10 => intro w' hSw; (try dsimp only at hSw); obtain ⟨hSw, hSc⟩ := hSw; go_simp; first | done | with_reducible rfl
              simp only [Act.put, List.setIfInBounds_toArray, List.set_cons_zero, List.set_cons_succ]
              refine take_of (i := 11) (v := ?v1x11) rfl (by kernel_rfl) (by kernel_rfl) (by kernel_rfl) (fun _ _ _ h => h) (Or.inl ⟨by rfl, ?hy1x11⟩) hHeld ?rest1x11
              case hy1x11 => intro w' hSw; (try dsimp only at hSw); obtain ⟨hSw, hSc⟩ := hSw; go_simp; first | done | with_reducible rfl
              simp only [Act.put, List.setIfInBounds_toArray, List.set_cons_zero, List.set_cons_succ]
              refine take_of (i := 12) (v := ?v1x12) rfl (by kernel_rfl) (by kernel_rfl) (by kernel_rfl) (fun _ _ _ h => h) (Or.inl ⟨by rfl, ?hy1x12⟩) hHeld ?rest1x12
              case hy1x12 => intro w' hSw; (try dsimp only at hSw); obtain ⟨hSw, hSc⟩ := hSw; go_simp; first | done | with_reducible rfl
              simp only [Act.put, List.setIfInBounds_toArray, List.set_cons_zero, List.set_cons_succ]
              refine take_of (i := 14) (v := ?v1x14) rfl (by kernel_rfl) (by kernel_rfl) (by kernel_rfl) (fun _ _ _ h => h) (Or.inl ⟨by rfl, ?hy1x14⟩) hHeld ?rest1x14
              case hy1x14 => intro w' hSw; (try dsimp only at hSw); obtain ⟨hSw, hSc⟩ := hSw; go_simp; first | done | with_reducible rfl
              simp only [Act.put, List.setIfInBounds_toArray, List.set_cons_zero, List.set_cons_succ]
              refine wpAnyH_ready (rs := [7]) (by kernel_rfl) (by simp) ?_
              refine AllReadyH.cons rfl (fun K hK => ?_) AllReadyH.nil
              go_simp
              refine hK.out _ _ hHeld (fun _ => ?_)
              clear hK K
              (try simp only [Act.put, List.setIfInBounds_toArray, List.set_cons_zero, List.set_cons_succ])
              refine wpAnyH_ready (rs := [13]) (by kernel_rfl) (by simp) ?_
              refine AllReadyH.cons rfl (fun K hK => ?_) AllReadyH.nil
              go_simp
              refine (SUBY.out _).mono ?_
              rintro e w6 ⟨rfl, hk6⟩
              have hk6' : Kept [] w5 w6 := (Kept.refl [] w5).drew.trans hk6
              refine hK.out _ _ ⟨hk6'.mono (by simp), (hk6'.cell (p := ⟨g, 0, none⟩) hgl (by simp)).trans d0⟩ (fun _ => ?_)
              clear hK K
              (try simp only [Act.put, List.setIfInBounds_toArray, List.set_cons_zero, List.set_cons_succ])
              refine wpAnyH_ready (rs := [15]) (by kernel_rfl) (by simp) ?_
              refine AllReadyH.cons rfl (fun K hK => ?_) AllReadyH.nil
              go_simp
              refine (MULD.out _).mono ?_
              rintro e w7 ⟨rfl, hk7⟩
              have hk7' : Kept [] w5 w7 := hk6'.trans hk7
              refine hK.out _ _ ⟨hk7'.mono (by simp), (hk7'.cell (p := ⟨g, 0, none⟩) hgl (by simp)).trans d0⟩ (fun _ => ?_)
              clear hK K
              (try simp only [Act.put, List.setIfInBounds_toArray, List.set_cons_zero, List.set_cons_succ])
              have hb7 := hb5.kept hk7' (by simp)
              have f7 := hb7.frozen 1
              have d7 : w7.cell? ⟨g, 1, none⟩ = some (.int .i64 y1) := (hb7.cell 1).trans c1
              refine wpAnyH_ready (rs := [16]) (by kernel_rfl) (by simp) ?_
              refine AllReadyH.cons rfl (fun K hK => ?_) AllReadyH.nil
              go_simp
              refine hK.out _ _ ⟨hk7'.mono (by simp), (hk7'.cell (p := ⟨g, 0, none⟩) hgl (by simp)).trans d0⟩ (fun _ => ?_)
              clear hK K
              (try simp only [Act.put, List.setIfInBounds_toArray, List.set_cons_zero, List.set_cons_succ])
              refine wpAnyH_ready (rs := [17]) (by kernel_rfl) (by simp) ?_
              refine AllReadyH.cons rfl (fun K hK => ?_) AllReadyH.nil
              go_simp
              have hkF : Kept [g] w5 (w7.setCell ⟨g, 1, none⟩ (.int .i64 d)) := Kept.setCell (hk7'.mono (S' := [g]) (by simp)) (p := ⟨g, 1, none⟩) (Or.inl (by simp)) _
              have hb8 := hb7.set_ 1 (.int .i64 d)
              have d8 : (w7.setCell ⟨g, 1, none⟩ (.int .i64 d)).cell? ⟨g, 0, none⟩ = some (.int .i64 y0) := (hb8.cell 0).trans (by simpa using c0)
              refine hK.out _ _ ⟨hkF, d8⟩ (fun _ => ?_)
              clear hK K
              (try simp only [Act.put, List.setIfInBounds_toArray, List.set_cons_zero, List.set_cons_succ])
              refine wpAnyH_done (by kernel_rfl) ?_ _
              clear d0 d1 d7 d8 f5 f7 hHeld
              go_wp2_with fail
              go_roundw
              case rel => exact Or.inr ⟨rfl, cur.setIfInBounds 1 (.int .i64 d), by simpa using c0, by simp [(Array.getElem?_eq_some_iff.1 c1).1], hb8, (hk5.mono (S' := [g]) (by simp)).trans hkF⟩
              case measure => simp [intOf]
            · go_wp2_with fail
              go_roundw
              case rel => exact Or.inr ⟨rfl, cur', c0', c1', hblk', hkr'⟩
              case measure => simp [intOf]
        · go_wp2_with fail
          have hgl := hblk'.lt
          have hb0 := Blk.new wr 3 #[.int .i64 0, .int .i64 0]
          obtain ⟨b, hbq⟩ : ∃ b, wr.heap.size = b := ⟨_, rfl⟩
          obtain ⟨W1, hW1⟩ : ∃ W, wr.alloc (.cells #[.int .i64 0, .int .i64 0] 3) = W := ⟨_, rfl⟩
          have hk1W : Kept [] wr W1 := hW1 ▸ (Kept.refl _ _).alloc _
          have hsz1 := hkr'.size
          have hsz2 := hkr.size
          rw [hbq, hW1] at hb0
          rw [hbq] at hgl hsz1 ⊢
          rw [hW1]
          have hgb : g ≠ b := by omega
          have hbW : w1.heap.size ≤ b := by omega
          have hbg1 := hblk'.kept hk1W (by simp)
          have HB0 : Hid (Blk W1 b 3 #[.int .i64 0, .int .i64 0]) := hb0
          have DF0 : Hid (∀ w', Kept [b] W1 w' → w'.cell? ⟨g, 0, none⟩ = some (.int .i64 y0)) := fun w' kk => (kk.cell (p := ⟨g, 0, none⟩) hbg1.lt (by simpa using hgb)).trans ((hbg1.cell 0).trans c0')
          have DF1 : Hid (∀ w', Kept [b] W1 w' → w'.cell? ⟨g, 1, none⟩ = some (.int .i64 d)) := fun w' kk => (kk.cell (p := ⟨g, 1, none⟩) hbg1.lt (by simpa using hgb)).trans ((hbg1.cell 1).trans c1')
          obtain ⟨bx, ox, rfl, hcx⟩ := (HX.out.kept hk1).at_ (by omega)
          have hxl : bx < w1.heap.size := World.block_lt_of_cell? w1 _ (hcx 0 _ rfl)
          have hkxW : Kept [g] w1 W1 := (hkr.mono (S' := [g]) (by simp)).trans (hkr'.trans (hk1W.mono (by simp)))
          have XF0 : Hid (∀ w', Kept [b] W1 w' → w'.cell? ⟨bx, ox, none⟩ = some (.int .i64 1)) := fun w' kk =>
            (kk.cell (p := ⟨bx, ox, none⟩) (by have := hkxW.size; show bx < _; omega) (by simp; omega)).trans ((hkxW.cell (p := ⟨bx, ox, none⟩) hxl (by simp; omega)).trans (hcx 0 _ rfl))
          have XF1 : Hid (∀ w', Kept [b] W1 w' → w'.cell? ⟨bx, ox + 1, none⟩ = some (.int .i64 2)) := fun w' kk =>
            (kk.cell (p := ⟨bx, ox + 1, none⟩) (by have := hkxW.size; show bx < _; omega) (by simp; omega)).trans ((hkxW.cell (p := ⟨bx, ox + 1, none⟩) hxl (by simp; omega)).trans (hcx 1 _ rfl))
          have HK1 := Lib.hid hkxW
          clear hcx hxl hkxW hbg1 c0' c1' hblk' hkr' hk1W hsz1 hsz2 hb0 c0 c1 hblk hW1 hbq
          go_loopw [16, 17] (fun vi _ wr2 => (vi = .int .i64 1 ∧ wr2 = W1) ∨ (vi = .int .i64 0 ∧ Blk wr2 b 3 #[.int .i64 d, .int .i64 0] ∧ Kept [b] W1 wr2) ∨ (vi = .int .i64 (-1) ∧ Blk wr2 b 3 #[.int .i64 r, .int .i64 d] ∧ Kept [b] W1 wr2)) (fun vi _ _ => (intOf vi + 1).toNat)
          case atStart => exact Or.inl ⟨rfl, rfl⟩
          case round =>
            rcases hrel with ⟨rfl, he⟩ | ⟨rfl, hbO, hkO⟩ | ⟨rfl, hbO, hkO⟩
            · have hbO : Blk wr b 3 #[.int .i64 0, .int .i64 0] := he ▸ HB0.out
              have hkO : Kept [b] W1 wr := he ▸ Kept.refl _ _
              clear he
              obtain ⟨wr2, rfl⟩ : ∃ W, W = wr := ⟨_, rfl⟩
              go_wp2_with fail
              go_loopw [17] (fun vn wr3 => (vn = .int .i64 1 ∧ wr3 = wr2) ∨ (vn = .int .i64 0 ∧ Blk wr3 b 3 #[.int .i64 0, .int .i64 0] ∧ Kept [b] W1 wr3) ∨ (vn = .int .i64 (-1) ∧ Blk wr3 b 3 #[.int .i64 0, .int .i64 0] ∧ Kept [b] W1 wr3)) (fun vn _ => (intOf vn + 1).toNat)
              case atStart => exact Or.inl ⟨rfl, rfl⟩
              case round =>
                rcases hrel with ⟨rfl, he⟩ | ⟨rfl, hbO, hkO⟩ | ⟨rfl, hbO, hkO⟩
                · subst he
                  obtain ⟨wr2, rfl⟩ : ∃ W, W = wr := ⟨_, rfl⟩
                  have xF : ∀ w', Kept [b] wr2 w' → w'.cell? ⟨bx, ox + 1, none⟩ = some (.int .i64 2) := fun w' kk => XF1.out w' (hkO.trans kk)
                  go_upto_region 24 with (fail)
                  refine wp_region_held_drew (S := fun w' => Kept [b] wr2 w') (by kernel_rfl) (Kept.refl _ _).drew (fun hHeld => ?_)
                  refine take_of (i := 0) (v := ?v2x0) rfl (by kernel_rfl) (by kernel_rfl) (by kernel_rfl) (fun _ _ _ h => h) (Or.inl ⟨by rfl, ?hy2x0⟩) hHeld ?rest2x0
                  case hy2x0 => intro w' hSw; (try dsimp only at hSw); go_simp; first | done | with_reducible rfl
                  simp only [Act.put, List.setIfInBounds_toArray, List.set_cons_zero, List.set_cons_succ]
                  refine take_of (i := 1) (v := ?v2x1) rfl (by kernel_rfl) (by kernel_rfl) (by kernel_rfl) (fun _ _ _ h => h) (Or.inl ⟨by rfl, ?hy2x1⟩) hHeld ?rest2x1
                  case hy2x1 => intro w' hSw; (try dsimp only at hSw); go_simp; first | done | with_reducible rfl
                  simp only [Act.put, List.setIfInBounds_toArray, List.set_cons_zero, List.set_cons_succ]
                  refine take_of (i := 2) (v := ?v2x2) rfl (by kernel_rfl) (by kernel_rfl) (by kernel_rfl) (fun _ _ _ h => h) (Or.inl ⟨by rfl, ?hy2x2⟩) hHeld ?rest2x2
                  case hy2x2 => intro w' hSw; (try dsimp only at hSw); go_simp; first | done | with_reducible rfl
                  simp only [Act.put, List.setIfInBounds_toArray, List.set_cons_zero, List.set_cons_succ]
                  refine take_of (i := 3) (v := ?v2x3) rfl (by kernel_rfl) (by kernel_rfl) (by kernel_rfl) (fun _ _ _ h => h) (Or.inl ⟨by rfl, ?hy2x3⟩) hHeld ?rest2x3
                  case hy2x3 => intro w' hSw; (try dsimp only at hSw); go_simp; first | done | with_reducible rfl
                  simp only [Act.put, List.setIfInBounds_toArray, List.set_cons_zero, List.set_cons_succ]
                  refine take_of (i := 4) (v := ?v2x4) rfl (by kernel_rfl) (by kernel_rfl) (by kernel_rfl) (fun _ _ _ h => h) (Or.inl ⟨by rfl, ?hy2x4⟩) hHeld ?rest2x4
                  case hy2x4 => intro w' hSw; (try dsimp only at hSw); go_simp; first | done | with_reducible rfl
                  simp only [Act.put, List.setIfInBounds_toArray, List.set_cons_zero, List.set_cons_succ]
                  refine take_of (i := 5) (v := ?v2x5) rfl (by kernel_rfl) (by kernel_rfl) (by kernel_rfl) (fun _ _ _ h => h) (Or.inl ⟨by rfl, ?hy2x5⟩) hHeld ?rest2x5
                  case hy2x5 => intro w' hSw; (try dsimp only at hSw); go_simp; first | done | with_reducible rfl
                  simp only [Act.put, List.setIfInBounds_toArray, List.set_cons_zero, List.set_cons_succ]
                  refine take_of (i := 6) (v := ?v2x6) rfl (by kernel_rfl) (by kernel_rfl) (by kernel_rfl) (fun _ _ _ h => h) (Or.inl ⟨by rfl, ?hy2x6⟩) hHeld ?rest2x6
                  case hy2x6 => intro w' hSw; (try dsimp only at hSw); go_simp; first | done | with_reducible rfl
                  simp only [Act.put, List.setIfInBounds_toArray, List.set_cons_zero, List.set_cons_succ]
                  refine take_of (i := 8) (v := ?v2x8) rfl (by kernel_rfl) (by kernel_rfl) (by kernel_rfl) (fun _ _ _ h => h) (Or.inl ⟨by rfl, ?hy2x8⟩) hHeld ?rest2x8
                  case hy2x8 => intro w' hSw; (try dsimp only at hSw); go_simp; first | done | with_reducible rfl
                  simp only [Act.put, List.setIfInBounds_toArray, List.set_cons_zero, List.set_cons_succ]
                  refine take_of (i := 9) (v := ?v2x9) rfl (by kernel_rfl) (by kernel_rfl) (by kernel_rfl) (fun _ _ _ h => h) (Or.inl ⟨by rfl, ?hy2x9⟩) hHeld ?rest2x9
                  case hy2x9 => intro w' hSw; (try dsimp only at hSw); go_simp; first | done | with_reducible rfl
                  simp only [Act.put, List.setIfInBounds_toArray, List.set_cons_zero, List.set_cons_succ]
                  refine take_of (i := 10) (v := ?v2x10) rfl (by kernel_rfl) (by kernel_rfl) (by kernel_rfl) (fun _ _ _ h => h) (Or.inl ⟨by rfl, ?hy2x10⟩) hHeld ?rest2x10
                  case hy2x10 => intro w' hSw; (try dsimp only at hSw); go_simp; first | done | with_reducible rfl
                  simp only [Act.put, List.setIfInBounds_toArray, List.set_cons_zero, List.set_cons_succ]
                  refine take_of (i := 11) (v := ?v2x11) rfl (by kernel_rfl) (by kernel_rfl) (by kernel_rfl) (fun _ _ _ h => h) (Or.inl ⟨by rfl, ?hy2x11⟩) hHeld ?rest2x11
                  case hy2x11 => intro w' hSw; (try dsimp only at hSw); go_simp; first | done | with_reducible rfl
                  simp only [Act.put, List.setIfInBounds_toArray, List.set_cons_zero, List.set_cons_succ]
                  have ld : wr2.drew.cell? ⟨b, 1, none⟩ = some (.int .i64 0) := hbO.cell 1
                  refine wpAnyH_ready (rs := [7]) (by kernel_rfl) (by simp) ?_
                  refine AllReadyH.cons rfl (fun K hK => ?_) AllReadyH.nil
                  go_simp
                  refine hK.out _ _ hHeld (fun _ => ?_)
                  clear hK K
                  (try simp only [Act.put, List.setIfInBounds_toArray, List.set_cons_zero, List.set_cons_succ])
                  clear ld
                  refine wpAnyH_ready (rs := [12]) (by kernel_rfl) (by simp) ?_
                  refine AllReadyH.cons rfl (fun K hK => ?_) AllReadyH.nil
                  go_simp
                  refine (MUL02.out _).mono ?_
                  rintro e wp ⟨rfl, hcwp⟩
                  have hkwp : Kept [] wr2 wp := (Kept.refl [] wr2).drew.trans hcwp
                  refine hK.out _ _ (hkwp.mono (by simp)) (fun _ => ?_)
                  clear hK K
                  (try simp only [Act.put, List.setIfInBounds_toArray, List.set_cons_zero, List.set_cons_succ])
                  refine wpAnyH_ready (rs := [13]) (by kernel_rfl) (by simp) ?_
                  refine AllReadyH.cons rfl (fun K hK => ?_) AllReadyH.nil
                  go_simp
                  refine (SUB00.out _).mono ?_
                  rintro e wq ⟨rfl, hcwq⟩
                  have hkwq : Kept [] wr2 wq := hkwp.trans hcwq
                  refine hK.out _ _ (hkwq.mono (by simp)) (fun _ => ?_)
                  clear hK K
                  (try simp only [Act.put, List.setIfInBounds_toArray, List.set_cons_zero, List.set_cons_succ])
                  refine wpAnyH_ready (rs := [14]) (by kernel_rfl) (by simp) ?_
                  refine AllReadyH.cons rfl (fun K hK => ?_) AllReadyH.nil
                  go_simp
                  refine hK.out _ _ (hkwq.mono (by simp)) (fun _ => ?_)
                  clear hK K
                  (try simp only [Act.put, List.setIfInBounds_toArray, List.set_cons_zero, List.set_cons_succ])
                  have hbL := hbO.kept hkwq (by simp)
                  have fL := hbL.frozen 1
                  have dL : wq.cell? ⟨b, 1, none⟩ = some (.int .i64 0) := hbL.cell 1
                  refine wpAnyH_ready (rs := [15]) (by kernel_rfl) (by simp) ?_
                  refine AllReadyH.cons rfl (fun K hK => ?_) AllReadyH.nil
                  go_simp
                  have hkF : Kept [b] wr2 (wq.setCell ⟨b, 1, none⟩ (.int .i64 0)) := Kept.setCell (hkwq.mono (S' := [b]) (by simp)) (p := ⟨b, 1, none⟩) (Or.inl (by simp)) _
                  have hbN : Blk (wq.setCell ⟨b, 1, none⟩ (.int .i64 0)) b 3 #[.int .i64 0, .int .i64 0] := hbL.set_ 1 (.int .i64 0)
                  refine hK.out _ _ hkF (fun _ => ?_)
                  clear hK K
                  (try simp only [Act.put, List.setIfInBounds_toArray, List.set_cons_zero, List.set_cons_succ])
                  refine wpAnyH_done (by kernel_rfl) ?_ _
                  obtain ⟨wa, hwo⟩ : ∃ W, wq.setCell ⟨b, 1, none⟩ (.int .i64 0) = W := ⟨_, rfl⟩
                  rw [hwo] at hkF hbN ⊢
                  clear hwo hbL fL dL hHeld hbO hcwp hkwp hcwq hkwq
                  have hbO := hbN
                  clear hbN
                  have hkO2 := hkO.trans hkF
                  clear hkF hkO xF
                  have hkO := hkO2
                  clear hkO2
                  have e0 : wa.cell? ⟨b, 0, none⟩ = some (.int .i64 0) := hbO.cell 0
                  have hwr : IntKind.i64.wrap ((1 : Int) - 1) = 0 := by decide
                  have hwr' : IntKind.i64.wrap (0 : Int) = 0 := by decide
                  go_upto_region 26 with (fail)
                  refine wp_region_held_drew (S := fun w' => Kept [b] wa w' ∧ w'.cell? ⟨b, 0, none⟩ = some (.int .i64 0)) (by kernel_rfl) ⟨(Kept.refl _ _).drew, e0⟩ (fun hHeld => ?_)
                  refine take_of (i := 0) (v := ?v3x0) rfl (by kernel_rfl) (by kernel_rfl) (by kernel_rfl) (fun _ _ _ h => h) (Or.inl ⟨by rfl, ?hy3x0⟩) hHeld ?rest3x0
                  case hy3x0 => intro w' hSw; (try dsimp only at hSw); obtain ⟨hSw, hSc⟩ := hSw; go_simp; first | done | with_reducible rfl
                  simp only [Act.put, List.setIfInBounds_toArray, List.set_cons_zero, List.set_cons_succ]
                  refine take_of (i := 1) (v := ?v3x1) rfl (by kernel_rfl) (by kernel_rfl) (by kernel_rfl) (fun _ _ _ h => h) (Or.inl ⟨by rfl, ?hy3x1⟩) hHeld ?rest3x1
                  case hy3x1 => intro w' hSw; (try dsimp only at hSw); obtain ⟨hSw, hSc⟩ := hSw; go_simp; first | done | with_reducible rfl
                  simp only [Act.put, List.setIfInBounds_toArray, List.set_cons_zero, List.set_cons_succ]
                  refine take_of (i := 2) (v := ?v3x2) rfl (by kernel_rfl) (by kernel_rfl) (by kernel_rfl) (fun _ _ _ h => h) (Or.inl ⟨by rfl, ?hy3x2⟩) hHeld ?rest3x2
                  case hy3x2 => intro w' hSw; (try dsimp only at hSw); obtain ⟨hSw, hSc⟩ := hSw; go_simp; first | done | with_reducible rfl
                  simp only [Act.put, List.setIfInBounds_toArray, List.set_cons_zero, List.set_cons_succ]
                  refine take_of (i := 3) (v := ?v3x3) rfl (by kernel_rfl) (by kernel_rfl) (by kernel_rfl) (fun _ _ _ h => h) (Or.inl ⟨by rfl, ?hy3x3⟩) hHeld ?rest3x3
                  case hy3x3 => intro w' hSw; (try dsimp only at hSw); obtain ⟨hSw, hSc⟩ := hSw; go_simp; first | done | with_reducible rfl
                  simp only [Act.put, List.setIfInBounds_toArray, List.set_cons_zero, List.set_cons_succ]
                  refine take_of (i := 4) (v := ?v3x4) rfl (by kernel_rfl) (by kernel_rfl) (by kernel_rfl) (fun _ _ _ h => h) (Or.inl ⟨by rfl, ?hy3x4⟩) hHeld ?rest3x4
                  case hy3x4 => intro w' hSw; (try dsimp only at hSw); obtain ⟨hSw, hSc⟩ := hSw; go_simp; first | done | with_reducible rfl
                  simp only [Act.put, List.setIfInBounds_toArray, List.set_cons_zero, List.set_cons_succ]
                  refine take_of (i := 5) (v := ?v3x5) rfl (by kernel_rfl) (by kernel_rfl) (by kernel_rfl) (fun _ _ _ h => h) (Or.inl ⟨by rfl, ?hy3x5⟩) hHeld ?rest3x5
                  case hy3x5 => intro w' hSw; (try dsimp only at hSw); obtain ⟨hSw, hSc⟩ := hSw; go_simp; first | done | with_reducible rfl
                  simp only [Act.put, List.setIfInBounds_toArray, List.set_cons_zero, List.set_cons_succ]
                  refine take_of (i := 7) (v := ?v3x7) rfl (by kernel_rfl) (by kernel_rfl) (by kernel_rfl) (fun _ _ _ h => h) (Or.inl ⟨by rfl, ?hy3x7⟩) hHeld ?rest3x7
                  case hy3x7 => intro w' hSw; (try dsimp only at hSw); obtain ⟨hSw, hSc⟩ := hSw; go_simp; first | done | with_reducible rfl
                  simp only [Act.put, List.setIfInBounds_toArray, List.set_cons_zero, List.set_cons_succ]
                  refine take_of (i := 8) (v := ?v3x8) rfl (by kernel_rfl) (by kernel_rfl) (by kernel_rfl) (fun _ _ _ h => h) (Or.inl ⟨by rfl, ?hy3x8⟩) hHeld ?rest3x8
                  case hy3x8 => intro w' hSw; (try dsimp only at hSw); obtain ⟨hSw, hSc⟩ := hSw; go_simp; first | done | with_reducible rfl
                  simp only [Act.put, List.setIfInBounds_toArray, List.set_cons_zero, List.set_cons_succ]
                  refine take_of (i := 9) (v := ?v3x9) rfl (by kernel_rfl) (by kernel_rfl) (by kernel_rfl) (fun _ _ _ h => h) (Or.inl ⟨by rfl, ?hy3x9⟩) hHeld ?rest3x9
                  case hy3x9 => intro w' hSw; (try dsimp only at hSw); obtain ⟨hSw, hSc⟩ := hSw; go_simp; first | done | with_reducible rfl
                  simp only [Act.put, List.setIfInBounds_toArray, List.set_cons_zero, List.set_cons_succ]
                  refine take_of (i := 10) (v := ?v3x10) rfl (by kernel_rfl) (by kernel_rfl) (by kernel_rfl) (fun _ _ _ h => h) (Or.inl ⟨by rfl, ?hy3x10⟩) hHeld ?rest3x10
                  case hy3x10 => intro w' hSw; (try dsimp only at hSw); obtain ⟨hSw, hSc⟩ := hSw; go_simp; first | done | with_reducible rfl
                  simp only [Act.put, List.setIfInBounds_toArray, List.set_cons_zero, List.set_cons_succ]
                  refine take_of (i := 11) (v := ?v3x11) rfl (by kernel_rfl) (by kernel_rfl) (by kernel_rfl) (fun _ _ _ h => h) (Or.inl ⟨by rfl, ?hy3x11⟩) hHeld ?rest3x11
                  case hy3x11 => intro w' hSw; (try dsimp only at hSw); obtain ⟨hSw, hSc⟩ := hSw; go_simp; first | done | with_reducible rfl
                  simp only [Act.put, List.setIfInBounds_toArray, List.set_cons_zero, List.set_cons_succ]
                  have ld : wa.drew.cell? ⟨b, 1, none⟩ = some (.int .i64 0) := hbO.cell 1
                  refine wpAnyH_ready (rs := [6]) (by kernel_rfl) (by simp) ?_
                  refine AllReadyH.cons rfl (fun K hK => ?_) AllReadyH.nil
                  go_simp
                  refine hK.out _ _ hHeld (fun _ => ?_)
                  clear hK K
                  (try simp only [Act.put, List.setIfInBounds_toArray, List.set_cons_zero, List.set_cons_succ])
                  clear ld
                  refine wpAnyH_ready (rs := [12]) (by kernel_rfl) (by simp) ?_
                  refine AllReadyH.cons rfl (fun K hK => ?_) AllReadyH.nil
                  go_simp
                  refine (ADD00.out _).mono ?_
                  rintro e wp ⟨rfl, hcwp⟩
                  have hkwp : Kept [] wa wp := (Kept.refl [] wa).drew.trans hcwp
                  refine hK.out _ _ ⟨hkwp.mono (by simp), (hkwp.cell (p := ⟨b, 0, none⟩) hbO.lt (by simp)).trans e0⟩ (fun _ => ?_)
                  clear hK K
                  (try simp only [Act.put, List.setIfInBounds_toArray, List.set_cons_zero, List.set_cons_succ])
                  refine wpAnyH_ready (rs := [13]) (by kernel_rfl) (by simp) ?_
                  refine AllReadyH.cons rfl (fun K hK => ?_) AllReadyH.nil
                  go_simp
                  refine hK.out _ _ ⟨hkwp.mono (by simp), (hkwp.cell (p := ⟨b, 0, none⟩) hbO.lt (by simp)).trans e0⟩ (fun _ => ?_)
                  clear hK K
                  (try simp only [Act.put, List.setIfInBounds_toArray, List.set_cons_zero, List.set_cons_succ])
                  have hbL := hbO.kept hkwp (by simp)
                  have fL := hbL.frozen 1
                  have dL : wp.cell? ⟨b, 1, none⟩ = some (.int .i64 0) := hbL.cell 1
                  refine wpAnyH_ready (rs := [14]) (by kernel_rfl) (by simp) ?_
                  refine AllReadyH.cons rfl (fun K hK => ?_) AllReadyH.nil
                  go_simp
                  have hkF : Kept [b] wa (wp.setCell ⟨b, 1, none⟩ (.int .i64 0)) := Kept.setCell (hkwp.mono (S' := [b]) (by simp)) (p := ⟨b, 1, none⟩) (Or.inl (by simp)) _
                  have hbN : Blk (wp.setCell ⟨b, 1, none⟩ (.int .i64 0)) b 3 #[.int .i64 0, .int .i64 0] := hbL.set_ 1 (.int .i64 0)
                  refine hK.out _ _ ⟨hkF, hbN.cell 0⟩ (fun _ => ?_)
                  clear hK K
                  (try simp only [Act.put, List.setIfInBounds_toArray, List.set_cons_zero, List.set_cons_succ])
                  refine wpAnyH_done (by kernel_rfl) ?_ _
                  obtain ⟨wb, hwo⟩ : ∃ W, wp.setCell ⟨b, 1, none⟩ (.int .i64 0) = W := ⟨_, rfl⟩
                  rw [hwo] at hkF hbN ⊢
                  clear hwo hbL fL dL hHeld hbO hcwp hkwp
                  have hbO := hbN
                  clear hbN
                  clear e0 hwr hwr'
                  go_wp2_with fail
                  go_roundw
                  case rel => exact Or.inr (Or.inl ⟨rfl, hbO, hkO.trans hkF⟩)
                  case measure => simp [intOf]
                · obtain ⟨wr3, rfl⟩ : ∃ W, W = wr := ⟨_, rfl⟩
                  have xF : ∀ w', Kept [b] wr3 w' → w'.cell? ⟨bx, ox + 1, none⟩ = some (.int .i64 2) := fun w' kk => XF1.out w' (hkO.trans kk)
                  go_upto_region 24 with (fail)
                  refine wp_region_held_drew (S := fun w' => Kept [b] wr3 w') (by kernel_rfl) (Kept.refl _ _).drew (fun hHeld => ?_)
                  refine take_of (i := 0) (v := ?v4x0) rfl (by kernel_rfl) (by kernel_rfl) (by kernel_rfl) (fun _ _ _ h => h) (Or.inl ⟨by rfl, ?hy4x0⟩) hHeld ?rest4x0
                  case hy4x0 => intro w' hSw; (try dsimp only at hSw); go_simp; first | done | with_reducible rfl
                  simp only [Act.put, List.setIfInBounds_toArray, List.set_cons_zero, List.set_cons_succ]
                  refine take_of (i := 1) (v := ?v4x1) rfl (by kernel_rfl) (by kernel_rfl) (by kernel_rfl) (fun _ _ _ h => h) (Or.inl ⟨by rfl, ?hy4x1⟩) hHeld ?rest4x1
                  case hy4x1 => intro w' hSw; (try dsimp only at hSw); go_simp; first | done | with_reducible rfl
                  simp only [Act.put, List.setIfInBounds_toArray, List.set_cons_zero, List.set_cons_succ]
                  refine take_of (i := 2) (v := ?v4x2) rfl (by kernel_rfl) (by kernel_rfl) (by kernel_rfl) (fun _ _ _ h => h) (Or.inl ⟨by rfl, ?hy4x2⟩) hHeld ?rest4x2
                  case hy4x2 => intro w' hSw; (try dsimp only at hSw); go_simp; first | done | with_reducible rfl
                  simp only [Act.put, List.setIfInBounds_toArray, List.set_cons_zero, List.set_cons_succ]
                  refine take_of (i := 3) (v := ?v4x3) rfl (by kernel_rfl) (by kernel_rfl) (by kernel_rfl) (fun _ _ _ h => h) (Or.inl ⟨by rfl, ?hy4x3⟩) hHeld ?rest4x3
                  case hy4x3 => intro w' hSw; (try dsimp only at hSw); go_simp; first | done | with_reducible rfl
                  simp only [Act.put, List.setIfInBounds_toArray, List.set_cons_zero, List.set_cons_succ]
                  refine take_of (i := 4) (v := ?v4x4) rfl (by kernel_rfl) (by kernel_rfl) (by kernel_rfl) (fun _ _ _ h => h) (Or.inl ⟨by rfl, ?hy4x4⟩) hHeld ?rest4x4
                  case hy4x4 => intro w' hSw; (try dsimp only at hSw); go_simp; first | done | with_reducible rfl
                  simp only [Act.put, List.setIfInBounds_toArray, List.set_cons_zero, List.set_cons_succ]
                  refine take_of (i := 5) (v := ?v4x5) rfl (by kernel_rfl) (by kernel_rfl) (by kernel_rfl) (fun _ _ _ h => h) (Or.inl ⟨by rfl, ?hy4x5⟩) hHeld ?rest4x5
                  case hy4x5 => intro w' hSw; (try dsimp only at hSw); go_simp; first | done | with_reducible rfl
                  simp only [Act.put, List.setIfInBounds_toArray, List.set_cons_zero, List.set_cons_succ]
                  refine take_of (i := 6) (v := ?v4x6) rfl (by kernel_rfl) (by kernel_rfl) (by kernel_rfl) (fun _ _ _ h => h) (Or.inl ⟨by rfl, ?hy4x6⟩) hHeld ?rest4x6
                  case hy4x6 => intro w' hSw; (try dsimp only at hSw); go_simp; first | done | with_reducible rfl
                  simp only [Act.put, List.setIfInBounds_toArray, List.set_cons_zero, List.set_cons_succ]
                  refine take_of (i := 8) (v := ?v4x8) rfl (by kernel_rfl) (by kernel_rfl) (by kernel_rfl) (fun _ _ _ h => h) (Or.inl ⟨by rfl, ?hy4x8⟩) hHeld ?rest4x8
                  case hy4x8 => intro w' hSw; (try dsimp only at hSw); go_simp; first | done | with_reducible rfl
                  simp only [Act.put, List.setIfInBounds_toArray, List.set_cons_zero, List.set_cons_succ]
                  refine take_of (i := 9) (v := ?v4x9) rfl (by kernel_rfl) (by kernel_rfl) (by kernel_rfl) (fun _ _ _ h => h) (Or.inl ⟨by rfl, ?hy4x9⟩) hHeld ?rest4x9
                  case hy4x9 => intro w' hSw; (try dsimp only at hSw); go_simp; first | done | with_reducible rfl
                  simp only [Act.put, List.setIfInBounds_toArray, List.set_cons_zero, List.set_cons_succ]
                  refine take_of (i := 10) (v := ?v4x10) rfl (by kernel_rfl) (by kernel_rfl) (by kernel_rfl) (fun _ _ _ h => h) (Or.inl ⟨by rfl, ?hy4x10⟩) hHeld ?rest4x10
                  case hy4x10 => intro w' hSw; (try dsimp only at hSw); go_simp; first | done | with_reducible rfl
                  simp only [Act.put, List.setIfInBounds_toArray, List.set_cons_zero, List.set_cons_succ]
                  refine take_of (i := 11) (v := ?v4x11) rfl (by kernel_rfl) (by kernel_rfl) (by kernel_rfl) (fun _ _ _ h => h) (Or.inl ⟨by rfl, ?hy4x11⟩) hHeld ?rest4x11
                  case hy4x11 => intro w' hSw; (try dsimp only at hSw); go_simp; first | done | with_reducible rfl
                  simp only [Act.put, List.setIfInBounds_toArray, List.set_cons_zero, List.set_cons_succ]
                  have ld : wr3.drew.cell? ⟨b, 0, none⟩ = some (.int .i64 0) := hbO.cell 0
                  refine wpAnyH_ready (rs := [7]) (by kernel_rfl) (by simp) ?_
                  refine AllReadyH.cons rfl (fun K hK => ?_) AllReadyH.nil
                  go_simp
                  refine hK.out _ _ hHeld (fun _ => ?_)
                  clear hK K
                  (try simp only [Act.put, List.setIfInBounds_toArray, List.set_cons_zero, List.set_cons_succ])
                  clear ld
                  refine wpAnyH_ready (rs := [12]) (by kernel_rfl) (by simp) ?_
                  refine AllReadyH.cons rfl (fun K hK => ?_) AllReadyH.nil
                  go_simp
                  refine (MUL02.out _).mono ?_
                  rintro e wp ⟨rfl, hcwp⟩
                  have hkwp : Kept [] wr3 wp := (Kept.refl [] wr3).drew.trans hcwp
                  refine hK.out _ _ (hkwp.mono (by simp)) (fun _ => ?_)
                  clear hK K
                  (try simp only [Act.put, List.setIfInBounds_toArray, List.set_cons_zero, List.set_cons_succ])
                  refine wpAnyH_ready (rs := [13]) (by kernel_rfl) (by simp) ?_
                  refine AllReadyH.cons rfl (fun K hK => ?_) AllReadyH.nil
                  go_simp
                  refine (SUB00.out _).mono ?_
                  rintro e wq ⟨rfl, hcwq⟩
                  have hkwq : Kept [] wr3 wq := hkwp.trans hcwq
                  refine hK.out _ _ (hkwq.mono (by simp)) (fun _ => ?_)
                  clear hK K
                  (try simp only [Act.put, List.setIfInBounds_toArray, List.set_cons_zero, List.set_cons_succ])
                  refine wpAnyH_ready (rs := [14]) (by kernel_rfl) (by simp) ?_
                  refine AllReadyH.cons rfl (fun K hK => ?_) AllReadyH.nil
                  go_simp
                  refine hK.out _ _ (hkwq.mono (by simp)) (fun _ => ?_)
                  clear hK K
                  (try simp only [Act.put, List.setIfInBounds_toArray, List.set_cons_zero, List.set_cons_succ])
                  have hbL := hbO.kept hkwq (by simp)
                  have fL := hbL.frozen 0
                  have dL : wq.cell? ⟨b, 0, none⟩ = some (.int .i64 0) := hbL.cell 0
                  refine wpAnyH_ready (rs := [15]) (by kernel_rfl) (by simp) ?_
                  refine AllReadyH.cons rfl (fun K hK => ?_) AllReadyH.nil
                  go_simp
                  have hkF : Kept [b] wr3 (wq.setCell ⟨b, 0, none⟩ (.int .i64 0)) := Kept.setCell (hkwq.mono (S' := [b]) (by simp)) (p := ⟨b, 0, none⟩) (Or.inl (by simp)) _
                  have hbN : Blk (wq.setCell ⟨b, 0, none⟩ (.int .i64 0)) b 3 #[.int .i64 0, .int .i64 0] := hbL.set_ 0 (.int .i64 0)
                  refine hK.out _ _ hkF (fun _ => ?_)
                  clear hK K
                  (try simp only [Act.put, List.setIfInBounds_toArray, List.set_cons_zero, List.set_cons_succ])
                  refine wpAnyH_done (by kernel_rfl) ?_ _
                  obtain ⟨wa, hwo⟩ : ∃ W, wq.setCell ⟨b, 0, none⟩ (.int .i64 0) = W := ⟨_, rfl⟩
                  rw [hwo] at hkF hbN ⊢
                  clear hwo hbL fL dL hHeld hbO hcwp hkwp hcwq hkwq
                  have hbO := hbN
                  clear hbN
                  go_wp2_with fail
                  go_roundw
                  case rel => exact Or.inr (Or.inr ⟨rfl, hbO, hkO.trans hkF⟩)
                  case measure => simp [intOf]
                · obtain ⟨wr3, rfl⟩ : ∃ W, W = wr := ⟨_, rfl⟩
                  have dF : ∀ w', Kept [b] wr3 w' → w'.cell? ⟨g, 1, none⟩ = some (.int .i64 d) := fun w' kk => DF1.out w' (hkO.trans kk)
                  go_upto_region 27 with (fail)
                  refine wp_region_held_drew (S := fun w' => Kept [b] wr3 w') (by kernel_rfl) (Kept.refl _ _).drew (fun hHeld => ?_)
                  refine take_of (i := 0) (v := ?v5x0) rfl (by kernel_rfl) (by kernel_rfl) (by kernel_rfl) (fun _ _ _ h => h) (Or.inl ⟨by rfl, ?hy5x0⟩) hHeld ?rest5x0
                  case hy5x0 => intro w' hSw; (try dsimp only at hSw); go_simp; first | done | with_reducible rfl
                  simp only [Act.put, List.setIfInBounds_toArray, List.set_cons_zero, List.set_cons_succ]
                  refine take_of (i := 1) (v := ?v5x1) rfl (by kernel_rfl) (by kernel_rfl) (by kernel_rfl) (fun _ _ _ h => h) (Or.inl ⟨by rfl, ?hy5x1⟩) hHeld ?rest5x1
                  case hy5x1 => intro w' hSw; (try dsimp only at hSw); go_simp; first | done | with_reducible rfl
                  simp only [Act.put, List.setIfInBounds_toArray, List.set_cons_zero, List.set_cons_succ]
                  refine take_of (i := 2) (v := ?v5x2) rfl (by kernel_rfl) (by kernel_rfl) (by kernel_rfl) (fun _ _ _ h => h) (Or.inl ⟨by rfl, ?hy5x2⟩) hHeld ?rest5x2
                  case hy5x2 => intro w' hSw; (try dsimp only at hSw); go_simp; first | done | with_reducible rfl
                  simp only [Act.put, List.setIfInBounds_toArray, List.set_cons_zero, List.set_cons_succ]
                  refine take_of (i := 3) (v := ?v5x3) rfl (by kernel_rfl) (by kernel_rfl) (by kernel_rfl) (fun _ _ _ h => h) (Or.inl ⟨by rfl, ?hy5x3⟩) hHeld ?rest5x3
                  case hy5x3 => intro w' hSw; (try dsimp only at hSw); go_simp; first | done | with_reducible rfl
                  simp only [Act.put, List.setIfInBounds_toArray, List.set_cons_zero, List.set_cons_succ]
                  refine take_of (i := 5) (v := ?v5x5) rfl (by kernel_rfl) (by kernel_rfl) (by kernel_rfl) (fun _ _ _ h => h) (Or.inl ⟨by rfl, ?hy5x5⟩) hHeld ?rest5x5
                  case hy5x5 => intro w' hSw; (try dsimp only at hSw); go_simp; first | done | with_reducible rfl
                  simp only [Act.put, List.setIfInBounds_toArray, List.set_cons_zero, List.set_cons_succ]
                  refine take_of (i := 6) (v := ?v5x6) rfl (by kernel_rfl) (by kernel_rfl) (by kernel_rfl) (fun _ _ _ h => h) (Or.inl ⟨by rfl, ?hy5x6⟩) hHeld ?rest5x6
                  case hy5x6 => intro w' hSw; (try dsimp only at hSw); go_simp; first | done | with_reducible rfl
                  simp only [Act.put, List.setIfInBounds_toArray, List.set_cons_zero, List.set_cons_succ]
                  refine take_of (i := 7) (v := ?v5x7) rfl (by kernel_rfl) (by kernel_rfl) (by kernel_rfl) (fun _ _ _ h => h) (Or.inl ⟨by rfl, ?hy5x7⟩) hHeld ?rest5x7
                  case hy5x7 => intro w' hSw; (try dsimp only at hSw); go_simp; first | done | with_reducible rfl
                  simp only [Act.put, List.setIfInBounds_toArray, List.set_cons_zero, List.set_cons_succ]
                  refine take_of (i := 8) (v := ?v5x8) rfl (by kernel_rfl) (by kernel_rfl) (by kernel_rfl) (fun _ _ _ h => h) (Or.inl ⟨by rfl, ?hy5x8⟩) hHeld ?rest5x8
                  case hy5x8 => intro w' hSw; (try dsimp only at hSw); go_simp; first | done | with_reducible rfl
                  simp only [Act.put, List.setIfInBounds_toArray, List.set_cons_zero, List.set_cons_succ]
                  have ld : wr3.drew.cell? ⟨b, 0, none⟩ = some (.int .i64 0) := hbO.cell 0
                  refine wpAnyH_ready (rs := [4]) (by kernel_rfl) (by simp) ?_
                  refine AllReadyH.cons rfl (fun K hK => ?_) AllReadyH.nil
                  go_simp
                  refine hK.out _ _ hHeld (fun _ => ?_)
                  clear hK K
                  (try simp only [Act.put, List.setIfInBounds_toArray, List.set_cons_zero, List.set_cons_succ])
                  clear ld
                  refine wpAnyH_ready (rs := [9]) (by kernel_rfl) (by simp) ?_
                  refine AllReadyH.cons rfl (fun K hK => ?_) AllReadyH.nil
                  go_simp
                  refine (ADD0D.out _).mono ?_
                  rintro e wp ⟨rfl, hcwp⟩
                  have hkwp : Kept [] wr3 wp := (Kept.refl [] wr3).drew.trans hcwp
                  refine hK.out _ _ (hkwp.mono (by simp)) (fun _ => ?_)
                  clear hK K
                  (try simp only [Act.put, List.setIfInBounds_toArray, List.set_cons_zero, List.set_cons_succ])
                  refine wpAnyH_ready (rs := [10]) (by kernel_rfl) (by simp) ?_
                  refine AllReadyH.cons rfl (fun K hK => ?_) AllReadyH.nil
                  go_simp
                  refine hK.out _ _ (hkwp.mono (by simp)) (fun _ => ?_)
                  clear hK K
                  (try simp only [Act.put, List.setIfInBounds_toArray, List.set_cons_zero, List.set_cons_succ])
                  have hbL := hbO.kept hkwp (by simp)
                  have fL := hbL.frozen 0
                  have dL : wp.cell? ⟨b, 0, none⟩ = some (.int .i64 0) := hbL.cell 0
                  refine wpAnyH_ready (rs := [11]) (by kernel_rfl) (by simp) ?_
                  refine AllReadyH.cons rfl (fun K hK => ?_) AllReadyH.nil
                  go_simp
                  have hkF : Kept [b] wr3 (wp.setCell ⟨b, 0, none⟩ (.int .i64 d)) := Kept.setCell (hkwp.mono (S' := [b]) (by simp)) (p := ⟨b, 0, none⟩) (Or.inl (by simp)) _
                  have hbN : Blk (wp.setCell ⟨b, 0, none⟩ (.int .i64 d)) b 3 #[.int .i64 d, .int .i64 0] := hbL.set_ 0 (.int .i64 d)
                  refine hK.out _ _ hkF (fun _ => ?_)
                  clear hK K
                  (try simp only [Act.put, List.setIfInBounds_toArray, List.set_cons_zero, List.set_cons_succ])
                  refine wpAnyH_done (by kernel_rfl) ?_ _
                  obtain ⟨wa, hwo⟩ : ∃ W, wp.setCell ⟨b, 0, none⟩ (.int .i64 d) = W := ⟨_, rfl⟩
                  rw [hwo] at hkF hbN ⊢
                  clear hwo hbL fL dL hHeld hbO hcwp hkwp
                  have hbO := hbN
                  clear hbN
                  clear dF
                  go_wp2_with fail
                  go_roundw
                  case rel => exact Or.inr (Or.inl ⟨rfl, hbO, hkO.trans hkF⟩)
                  case measure => simp [intOf]
            · obtain ⟨wr2, rfl⟩ : ∃ W, W = wr := ⟨_, rfl⟩
              go_wp2_with fail
              go_loopw [17] (fun vn wr3 => (vn = .int .i64 1 ∧ wr3 = wr2) ∨ (vn = .int .i64 0 ∧ Blk wr3 b 3 #[.int .i64 d, .int .i64 d] ∧ Kept [b] W1 wr3) ∨ (vn = .int .i64 (-1) ∧ Blk wr3 b 3 #[.int .i64 q, .int .i64 d] ∧ Kept [b] W1 wr3)) (fun vn _ => (intOf vn + 1).toNat)
              case atStart => exact Or.inl ⟨rfl, rfl⟩
              case round =>
                rcases hrel with ⟨rfl, he⟩ | ⟨rfl, hbO, hkO⟩ | ⟨rfl, hbO, hkO⟩
                · subst he
                  obtain ⟨wr2, rfl⟩ : ∃ W, W = wr := ⟨_, rfl⟩
                  have xF : ∀ w', Kept [b] wr2 w' → w'.cell? ⟨bx, ox, none⟩ = some (.int .i64 1) := fun w' kk => XF0.out w' (hkO.trans kk)
                  go_upto_region 24 with (fail)
                  refine wp_region_held_drew (S := fun w' => Kept [b] wr2 w') (by kernel_rfl) (Kept.refl _ _).drew (fun hHeld => ?_)
                  refine take_of (i := 0) (v := ?v6x0) rfl (by kernel_rfl) (by kernel_rfl) (by kernel_rfl) (fun _ _ _ h => h) (Or.inl ⟨by rfl, ?hy6x0⟩) hHeld ?rest6x0
                  case hy6x0 => intro w' hSw; (try dsimp only at hSw); go_simp; first | done | with_reducible rfl
                  simp only [Act.put, List.setIfInBounds_toArray, List.set_cons_zero, List.set_cons_succ]
                  refine take_of (i := 1) (v := ?v6x1) rfl (by kernel_rfl) (by kernel_rfl) (by kernel_rfl) (fun _ _ _ h => h) (Or.inl ⟨by rfl, ?hy6x1⟩) hHeld ?rest6x1
                  case hy6x1 => intro w' hSw; (try dsimp only at hSw); go_simp; first | done | with_reducible rfl
                  simp only [Act.put, List.setIfInBounds_toArray, List.set_cons_zero, List.set_cons_succ]
                  refine take_of (i := 2) (v := ?v6x2) rfl (by kernel_rfl) (by kernel_rfl) (by kernel_rfl) (fun _ _ _ h => h) (Or.inl ⟨by rfl, ?hy6x2⟩) hHeld ?rest6x2
                  case hy6x2 => intro w' hSw; (try dsimp only at hSw); go_simp; first | done | with_reducible rfl
                  simp only [Act.put, List.setIfInBounds_toArray, List.set_cons_zero, List.set_cons_succ]
                  refine take_of (i := 3) (v := ?v6x3) rfl (by kernel_rfl) (by kernel_rfl) (by kernel_rfl) (fun _ _ _ h => h) (Or.inl ⟨by rfl, ?hy6x3⟩) hHeld ?rest6x3
                  case hy6x3 => intro w' hSw; (try dsimp only at hSw); go_simp; first | done | with_reducible rfl
                  simp only [Act.put, List.setIfInBounds_toArray, List.set_cons_zero, List.set_cons_succ]
                  refine take_of (i := 4) (v := ?v6x4) rfl (by kernel_rfl) (by kernel_rfl) (by kernel_rfl) (fun _ _ _ h => h) (Or.inl ⟨by rfl, ?hy6x4⟩) hHeld ?rest6x4
                  case hy6x4 => intro w' hSw; (try dsimp only at hSw); go_simp; first | done | with_reducible rfl
                  simp only [Act.put, List.setIfInBounds_toArray, List.set_cons_zero, List.set_cons_succ]
                  refine take_of (i := 5) (v := ?v6x5) rfl (by kernel_rfl) (by kernel_rfl) (by kernel_rfl) (fun _ _ _ h => h) (Or.inl ⟨by rfl, ?hy6x5⟩) hHeld ?rest6x5
                  case hy6x5 => intro w' hSw; (try dsimp only at hSw); go_simp; first | done | with_reducible rfl
                  simp only [Act.put, List.setIfInBounds_toArray, List.set_cons_zero, List.set_cons_succ]
                  refine take_of (i := 6) (v := ?v6x6) rfl (by kernel_rfl) (by kernel_rfl) (by kernel_rfl) (fun _ _ _ h => h) (Or.inl ⟨by rfl, ?hy6x6⟩) hHeld ?rest6x6
                  case hy6x6 => intro w' hSw; (try dsimp only at hSw); go_simp; first | done | with_reducible rfl
                  simp only [Act.put, List.setIfInBounds_toArray, List.set_cons_zero, List.set_cons_succ]
                  refine take_of (i := 8) (v := ?v6x8) rfl (by kernel_rfl) (by kernel_rfl) (by kernel_rfl) (fun _ _ _ h => h) (Or.inl ⟨by rfl, ?hy6x8⟩) hHeld ?rest6x8
                  case hy6x8 => intro w' hSw; (try dsimp only at hSw); go_simp; first | done | with_reducible rfl
                  simp only [Act.put, List.setIfInBounds_toArray, List.set_cons_zero, List.set_cons_succ]
                  refine take_of (i := 9) (v := ?v6x9) rfl (by kernel_rfl) (by kernel_rfl) (by kernel_rfl) (fun _ _ _ h => h) (Or.inl ⟨by rfl, ?hy6x9⟩) hHeld ?rest6x9
                  case hy6x9 => intro w' hSw; (try dsimp only at hSw); go_simp; first | done | with_reducible rfl
                  simp only [Act.put, List.setIfInBounds_toArray, List.set_cons_zero, List.set_cons_succ]
                  refine take_of (i := 10) (v := ?v6x10) rfl (by kernel_rfl) (by kernel_rfl) (by kernel_rfl) (fun _ _ _ h => h) (Or.inl ⟨by rfl, ?hy6x10⟩) hHeld ?rest6x10
                  case hy6x10 => intro w' hSw; (try dsimp only at hSw); go_simp; first | done | with_reducible rfl
                  simp only [Act.put, List.setIfInBounds_toArray, List.set_cons_zero, List.set_cons_succ]
                  refine take_of (i := 11) (v := ?v6x11) rfl (by kernel_rfl) (by kernel_rfl) (by kernel_rfl) (fun _ _ _ h => h) (Or.inl ⟨by rfl, ?hy6x11⟩) hHeld ?rest6x11
                  case hy6x11 => intro w' hSw; (try dsimp only at hSw); go_simp; first | done | with_reducible rfl
                  simp only [Act.put, List.setIfInBounds_toArray, List.set_cons_zero, List.set_cons_succ]
                  have ld : wr2.drew.cell? ⟨b, 1, none⟩ = some (.int .i64 0) := hbO.cell 1
                  refine wpAnyH_ready (rs := [7]) (by kernel_rfl) (by simp) ?_
                  refine AllReadyH.cons rfl (fun K hK => ?_) AllReadyH.nil
                  go_simp
                  refine hK.out _ _ hHeld (fun _ => ?_)
                  clear hK K
                  (try simp only [Act.put, List.setIfInBounds_toArray, List.set_cons_zero, List.set_cons_succ])
                  clear ld
                  refine wpAnyH_ready (rs := [12]) (by kernel_rfl) (by simp) ?_
                  refine AllReadyH.cons rfl (fun K hK => ?_) AllReadyH.nil
                  go_simp
                  refine (MUL01.out _).mono ?_
                  rintro e wp ⟨rfl, hcwp⟩
                  have hkwp : Kept [] wr2 wp := (Kept.refl [] wr2).drew.trans hcwp
                  refine hK.out _ _ (hkwp.mono (by simp)) (fun _ => ?_)
                  clear hK K
                  (try simp only [Act.put, List.setIfInBounds_toArray, List.set_cons_zero, List.set_cons_succ])
                  refine wpAnyH_ready (rs := [13]) (by kernel_rfl) (by simp) ?_
                  refine AllReadyH.cons rfl (fun K hK => ?_) AllReadyH.nil
                  go_simp
                  refine (SUB00.out _).mono ?_
                  rintro e wq ⟨rfl, hcwq⟩
                  have hkwq : Kept [] wr2 wq := hkwp.trans hcwq
                  refine hK.out _ _ (hkwq.mono (by simp)) (fun _ => ?_)
                  clear hK K
                  (try simp only [Act.put, List.setIfInBounds_toArray, List.set_cons_zero, List.set_cons_succ])
                  refine wpAnyH_ready (rs := [14]) (by kernel_rfl) (by simp) ?_
                  refine AllReadyH.cons rfl (fun K hK => ?_) AllReadyH.nil
                  go_simp
                  refine hK.out _ _ (hkwq.mono (by simp)) (fun _ => ?_)
                  clear hK K
                  (try simp only [Act.put, List.setIfInBounds_toArray, List.set_cons_zero, List.set_cons_succ])
                  have hbL := hbO.kept hkwq (by simp)
                  have fL := hbL.frozen 1
                  have dL : wq.cell? ⟨b, 1, none⟩ = some (.int .i64 0) := hbL.cell 1
                  refine wpAnyH_ready (rs := [15]) (by kernel_rfl) (by simp) ?_
                  refine AllReadyH.cons rfl (fun K hK => ?_) AllReadyH.nil
                  go_simp
                  have hkF : Kept [b] wr2 (wq.setCell ⟨b, 1, none⟩ (.int .i64 0)) := Kept.setCell (hkwq.mono (S' := [b]) (by simp)) (p := ⟨b, 1, none⟩) (Or.inl (by simp)) _
                  have hbN : Blk (wq.setCell ⟨b, 1, none⟩ (.int .i64 0)) b 3 #[.int .i64 d, .int .i64 0] := hbL.set_ 1 (.int .i64 0)
                  refine hK.out _ _ hkF (fun _ => ?_)
                  clear hK K
                  (try simp only [Act.put, List.setIfInBounds_toArray, List.set_cons_zero, List.set_cons_succ])
                  refine wpAnyH_done (by kernel_rfl) ?_ _
                  obtain ⟨wa, hwo⟩ : ∃ W, wq.setCell ⟨b, 1, none⟩ (.int .i64 0) = W := ⟨_, rfl⟩
                  rw [hwo] at hkF hbN ⊢
                  clear hwo hbL fL dL hHeld hbO hcwp hkwp hcwq hkwq
                  have hbO := hbN
                  clear hbN
                  have hkO2 := hkO.trans hkF
                  clear hkF hkO xF
                  have hkO := hkO2
                  clear hkO2
                  have e0 : wa.cell? ⟨b, 0, none⟩ = some (.int .i64 d) := hbO.cell 0
                  have hwr : IntKind.i64.wrap ((1 : Int) - 1) = 0 := by decide
                  have hwr' : IntKind.i64.wrap (0 : Int) = 0 := by decide
                  go_upto_region 26 with (fail)
                  refine wp_region_held_drew (S := fun w' => Kept [b] wa w' ∧ w'.cell? ⟨b, 0, none⟩ = some (.int .i64 d)) (by kernel_rfl) ⟨(Kept.refl _ _).drew, e0⟩ (fun hHeld => ?_)
                  refine take_of (i := 0) (v := ?v7x0) rfl (by kernel_rfl) (by kernel_rfl) (by kernel_rfl) (fun _ _ _ h => h) (Or.inl ⟨by rfl, ?hy7x0⟩) hHeld ?rest7x0
                  case hy7x0 => intro w' hSw; (try dsimp only at hSw); obtain ⟨hSw, hSc⟩ := hSw; go_simp; first | done | with_reducible rfl
                  simp only [Act.put, List.setIfInBounds_toArray, List.set_cons_zero, List.set_cons_succ]
                  refine take_of (i := 1) (v := ?v7x1) rfl (by kernel_rfl) (by kernel_rfl) (by kernel_rfl) (fun _ _ _ h => h) (Or.inl ⟨by rfl, ?hy7x1⟩) hHeld ?rest7x1
                  case hy7x1 => intro w' hSw; (try dsimp only at hSw); obtain ⟨hSw, hSc⟩ := hSw; go_simp; first | done | with_reducible rfl
                  simp only [Act.put, List.setIfInBounds_toArray, List.set_cons_zero, List.set_cons_succ]
                  refine take_of (i := 2) (v := ?v7x2) rfl (by kernel_rfl) (by kernel_rfl) (by kernel_rfl) (fun _ _ _ h => h) (Or.inl ⟨by rfl, ?hy7x2⟩) hHeld ?rest7x2
                  case hy7x2 => intro w' hSw; (try dsimp only at hSw); obtain ⟨hSw, hSc⟩ := hSw; go_simp; first | done | with_reducible rfl
                  simp only [Act.put, List.setIfInBounds_toArray, List.set_cons_zero, List.set_cons_succ]
                  refine take_of (i := 3) (v := ?v7x3) rfl (by kernel_rfl) (by kernel_rfl) (by kernel_rfl) (fun _ _ _ h => h) (Or.inl ⟨by rfl, ?hy7x3⟩) hHeld ?rest7x3
                  case hy7x3 => intro w' hSw; (try dsimp only at hSw); obtain ⟨hSw, hSc⟩ := hSw; go_simp; first | done | with_reducible rfl
                  simp only [Act.put, List.setIfInBounds_toArray, List.set_cons_zero, List.set_cons_succ]
                  refine take_of (i := 4) (v := ?v7x4) rfl (by kernel_rfl) (by kernel_rfl) (by kernel_rfl) (fun _ _ _ h => h) (Or.inl ⟨by rfl, ?hy7x4⟩) hHeld ?rest7x4
                  case hy7x4 => intro w' hSw; (try dsimp only at hSw); obtain ⟨hSw, hSc⟩ := hSw; go_simp; first | done | with_reducible rfl
                  simp only [Act.put, List.setIfInBounds_toArray, List.set_cons_zero, List.set_cons_succ]
                  refine take_of (i := 5) (v := ?v7x5) rfl (by kernel_rfl) (by kernel_rfl) (by kernel_rfl) (fun _ _ _ h => h) (Or.inl ⟨by rfl, ?hy7x5⟩) hHeld ?rest7x5
                  case hy7x5 => intro w' hSw; (try dsimp only at hSw); obtain ⟨hSw, hSc⟩ := hSw; go_simp; first | done | with_reducible rfl
                  simp only [Act.put, List.setIfInBounds_toArray, List.set_cons_zero, List.set_cons_succ]
                  refine take_of (i := 7) (v := ?v7x7) rfl (by kernel_rfl) (by kernel_rfl) (by kernel_rfl) (fun _ _ _ h => h) (Or.inl ⟨by rfl, ?hy7x7⟩) hHeld ?rest7x7
                  case hy7x7 => intro w' hSw; (try dsimp only at hSw); obtain ⟨hSw, hSc⟩ := hSw; go_simp; first | done | with_reducible rfl
                  simp only [Act.put, List.setIfInBounds_toArray, List.set_cons_zero, List.set_cons_succ]
                  refine take_of (i := 8) (v := ?v7x8) rfl (by kernel_rfl) (by kernel_rfl) (by kernel_rfl) (fun _ _ _ h => h) (Or.inl ⟨by rfl, ?hy7x8⟩) hHeld ?rest7x8
                  case hy7x8 => intro w' hSw; (try dsimp only at hSw); obtain ⟨hSw, hSc⟩ := hSw; go_simp; first | done | with_reducible rfl
                  simp only [Act.put, List.setIfInBounds_toArray, List.set_cons_zero, List.set_cons_succ]
                  refine take_of (i := 9) (v := ?v7x9) rfl (by kernel_rfl) (by kernel_rfl) (by kernel_rfl) (fun _ _ _ h => h) (Or.inl ⟨by rfl, ?hy7x9⟩) hHeld ?rest7x9
                  case hy7x9 => intro w' hSw; (try dsimp only at hSw); obtain ⟨hSw, hSc⟩ := hSw; go_simp; first | done | with_reducible rfl
                  simp only [Act.put, List.setIfInBounds_toArray, List.set_cons_zero, List.set_cons_succ]
                  refine take_of (i := 10) (v := ?v7x10) rfl (by kernel_rfl) (by kernel_rfl) (by kernel_rfl) (fun _ _ _ h => h) (Or.inl ⟨by rfl, ?hy7x10⟩) hHeld ?rest7x10
                  case hy7x10 => intro w' hSw; (try dsimp only at hSw); obtain ⟨hSw, hSc⟩ := hSw; go_simp; first | done | with_reducible rfl
                  simp only [Act.put, List.setIfInBounds_toArray, List.set_cons_zero, List.set_cons_succ]
                  refine take_of (i := 11) (v := ?v7x11) rfl (by kernel_rfl) (by kernel_rfl) (by kernel_rfl) (fun _ _ _ h => h) (Or.inl ⟨by rfl, ?hy7x11⟩) hHeld ?rest7x11
                  case hy7x11 => intro w' hSw; (try dsimp only at hSw); obtain ⟨hSw, hSc⟩ := hSw; go_simp; first | done | with_reducible rfl
                  simp only [Act.put, List.setIfInBounds_toArray, List.set_cons_zero, List.set_cons_succ]
                  have ld : wa.drew.cell? ⟨b, 1, none⟩ = some (.int .i64 0) := hbO.cell 1
                  refine wpAnyH_ready (rs := [6]) (by kernel_rfl) (by simp) ?_
                  refine AllReadyH.cons rfl (fun K hK => ?_) AllReadyH.nil
                  go_simp
                  refine hK.out _ _ hHeld (fun _ => ?_)
                  clear hK K
                  (try simp only [Act.put, List.setIfInBounds_toArray, List.set_cons_zero, List.set_cons_succ])
                  clear ld
                  refine wpAnyH_ready (rs := [12]) (by kernel_rfl) (by simp) ?_
                  refine AllReadyH.cons rfl (fun K hK => ?_) AllReadyH.nil
                  go_simp
                  refine (ADD0D.out _).mono ?_
                  rintro e wp ⟨rfl, hcwp⟩
                  have hkwp : Kept [] wa wp := (Kept.refl [] wa).drew.trans hcwp
                  refine hK.out _ _ ⟨hkwp.mono (by simp), (hkwp.cell (p := ⟨b, 0, none⟩) hbO.lt (by simp)).trans e0⟩ (fun _ => ?_)
                  clear hK K
                  (try simp only [Act.put, List.setIfInBounds_toArray, List.set_cons_zero, List.set_cons_succ])
                  refine wpAnyH_ready (rs := [13]) (by kernel_rfl) (by simp) ?_
                  refine AllReadyH.cons rfl (fun K hK => ?_) AllReadyH.nil
                  go_simp
                  refine hK.out _ _ ⟨hkwp.mono (by simp), (hkwp.cell (p := ⟨b, 0, none⟩) hbO.lt (by simp)).trans e0⟩ (fun _ => ?_)
                  clear hK K
                  (try simp only [Act.put, List.setIfInBounds_toArray, List.set_cons_zero, List.set_cons_succ])
                  have hbL := hbO.kept hkwp (by simp)
                  have fL := hbL.frozen 1
                  have dL : wp.cell? ⟨b, 1, none⟩ = some (.int .i64 0) := hbL.cell 1
                  refine wpAnyH_ready (rs := [14]) (by kernel_rfl) (by simp) ?_
                  refine AllReadyH.cons rfl (fun K hK => ?_) AllReadyH.nil
                  go_simp
                  have hkF : Kept [b] wa (wp.setCell ⟨b, 1, none⟩ (.int .i64 d)) := Kept.setCell (hkwp.mono (S' := [b]) (by simp)) (p := ⟨b, 1, none⟩) (Or.inl (by simp)) _
                  have hbN : Blk (wp.setCell ⟨b, 1, none⟩ (.int .i64 d)) b 3 #[.int .i64 d, .int .i64 d] := hbL.set_ 1 (.int .i64 d)
                  refine hK.out _ _ ⟨hkF, hbN.cell 0⟩ (fun _ => ?_)
                  clear hK K
                  (try simp only [Act.put, List.setIfInBounds_toArray, List.set_cons_zero, List.set_cons_succ])
                  refine wpAnyH_done (by kernel_rfl) ?_ _
                  obtain ⟨wb, hwo⟩ : ∃ W, wp.setCell ⟨b, 1, none⟩ (.int .i64 d) = W := ⟨_, rfl⟩
                  rw [hwo] at hkF hbN ⊢
                  clear hwo hbL fL dL hHeld hbO hcwp hkwp
                  have hbO := hbN
                  clear hbN
                  clear e0 hwr hwr'
                  go_wp2_with fail
                  go_roundw
                  case rel => exact Or.inr (Or.inl ⟨rfl, hbO, hkO.trans hkF⟩)
                  case measure => simp [intOf]
                · obtain ⟨wr3, rfl⟩ : ∃ W, W = wr := ⟨_, rfl⟩
                  have xF : ∀ w', Kept [b] wr3 w' → w'.cell? ⟨bx, ox, none⟩ = some (.int .i64 1) := fun w' kk => XF0.out w' (hkO.trans kk)
                  go_upto_region 24 with (fail)
                  refine wp_region_held_drew (S := fun w' => Kept [b] wr3 w') (by kernel_rfl) (Kept.refl _ _).drew (fun hHeld => ?_)
                  refine take_of (i := 0) (v := ?v8x0) rfl (by kernel_rfl) (by kernel_rfl) (by kernel_rfl) (fun _ _ _ h => h) (Or.inl ⟨by rfl, ?hy8x0⟩) hHeld ?rest8x0
                  case hy8x0 => intro w' hSw; (try dsimp only at hSw); go_simp; first | done | with_reducible rfl
                  simp only [Act.put, List.setIfInBounds_toArray, List.set_cons_zero, List.set_cons_succ]
                  refine take_of (i := 1) (v := ?v8x1) rfl (by kernel_rfl) (by kernel_rfl) (by kernel_rfl) (fun _ _ _ h => h) (Or.inl ⟨by rfl, ?hy8x1⟩) hHeld ?rest8x1
                  case hy8x1 => intro w' hSw; (try dsimp only at hSw); go_simp; first | done | with_reducible rfl
                  simp only [Act.put, List.setIfInBounds_toArray, List.set_cons_zero, List.set_cons_succ]
                  refine take_of (i := 2) (v := ?v8x2) rfl (by kernel_rfl) (by kernel_rfl) (by kernel_rfl) (fun _ _ _ h => h) (Or.inl ⟨by rfl, ?hy8x2⟩) hHeld ?rest8x2
                  case hy8x2 => intro w' hSw; (try dsimp only at hSw); go_simp; first | done | with_reducible rfl
                  simp only [Act.put, List.setIfInBounds_toArray, List.set_cons_zero, List.set_cons_succ]
                  refine take_of (i := 3) (v := ?v8x3) rfl (by kernel_rfl) (by kernel_rfl) (by kernel_rfl) (fun _ _ _ h => h) (Or.inl ⟨by rfl, ?hy8x3⟩) hHeld ?rest8x3
                  case hy8x3 => intro w' hSw; (try dsimp only at hSw); go_simp; first | done | with_reducible rfl
                  simp only [Act.put, List.setIfInBounds_toArray, List.set_cons_zero, List.set_cons_succ]
                  refine take_of (i := 4) (v := ?v8x4) rfl (by kernel_rfl) (by kernel_rfl) (by kernel_rfl) (fun _ _ _ h => h) (Or.inl ⟨by rfl, ?hy8x4⟩) hHeld ?rest8x4
                  case hy8x4 => intro w' hSw; (try dsimp only at hSw); go_simp; first | done | with_reducible rfl
                  simp only [Act.put, List.setIfInBounds_toArray, List.set_cons_zero, List.set_cons_succ]
                  refine take_of (i := 5) (v := ?v8x5) rfl (by kernel_rfl) (by kernel_rfl) (by kernel_rfl) (fun _ _ _ h => h) (Or.inl ⟨by rfl, ?hy8x5⟩) hHeld ?rest8x5
                  case hy8x5 => intro w' hSw; (try dsimp only at hSw); go_simp; first | done | with_reducible rfl
                  simp only [Act.put, List.setIfInBounds_toArray, List.set_cons_zero, List.set_cons_succ]
                  refine take_of (i := 6) (v := ?v8x6) rfl (by kernel_rfl) (by kernel_rfl) (by kernel_rfl) (fun _ _ _ h => h) (Or.inl ⟨by rfl, ?hy8x6⟩) hHeld ?rest8x6
                  case hy8x6 => intro w' hSw; (try dsimp only at hSw); go_simp; first | done | with_reducible rfl
                  simp only [Act.put, List.setIfInBounds_toArray, List.set_cons_zero, List.set_cons_succ]
                  refine take_of (i := 8) (v := ?v8x8) rfl (by kernel_rfl) (by kernel_rfl) (by kernel_rfl) (fun _ _ _ h => h) (Or.inl ⟨by rfl, ?hy8x8⟩) hHeld ?rest8x8
                  case hy8x8 => intro w' hSw; (try dsimp only at hSw); go_simp; first | done | with_reducible rfl
                  simp only [Act.put, List.setIfInBounds_toArray, List.set_cons_zero, List.set_cons_succ]
                  refine take_of (i := 9) (v := ?v8x9) rfl (by kernel_rfl) (by kernel_rfl) (by kernel_rfl) (fun _ _ _ h => h) (Or.inl ⟨by rfl, ?hy8x9⟩) hHeld ?rest8x9
                  case hy8x9 => intro w' hSw; (try dsimp only at hSw); go_simp; first | done | with_reducible rfl
                  simp only [Act.put, List.setIfInBounds_toArray, List.set_cons_zero, List.set_cons_succ]
                  refine take_of (i := 10) (v := ?v8x10) rfl (by kernel_rfl) (by kernel_rfl) (by kernel_rfl) (fun _ _ _ h => h) (Or.inl ⟨by rfl, ?hy8x10⟩) hHeld ?rest8x10
                  case hy8x10 => intro w' hSw; (try dsimp only at hSw); go_simp; first | done | with_reducible rfl
                  simp only [Act.put, List.setIfInBounds_toArray, List.set_cons_zero, List.set_cons_succ]
                  refine take_of (i := 11) (v := ?v8x11) rfl (by kernel_rfl) (by kernel_rfl) (by kernel_rfl) (fun _ _ _ h => h) (Or.inl ⟨by rfl, ?hy8x11⟩) hHeld ?rest8x11
                  case hy8x11 => intro w' hSw; (try dsimp only at hSw); go_simp; first | done | with_reducible rfl
                  simp only [Act.put, List.setIfInBounds_toArray, List.set_cons_zero, List.set_cons_succ]
                  have ld : wr3.drew.cell? ⟨b, 0, none⟩ = some (.int .i64 d) := hbO.cell 0
                  refine wpAnyH_ready (rs := [7]) (by kernel_rfl) (by simp) ?_
                  refine AllReadyH.cons rfl (fun K hK => ?_) AllReadyH.nil
                  go_simp
                  refine hK.out _ _ hHeld (fun _ => ?_)
                  clear hK K
                  (try simp only [Act.put, List.setIfInBounds_toArray, List.set_cons_zero, List.set_cons_succ])
                  clear ld
                  refine wpAnyH_ready (rs := [12]) (by kernel_rfl) (by simp) ?_
                  refine AllReadyH.cons rfl (fun K hK => ?_) AllReadyH.nil
                  go_simp
                  refine (MULDD.out _).mono ?_
                  rintro e wp ⟨rfl, hcwp⟩
                  have hkwp : Kept [] wr3 wp := (Kept.refl [] wr3).drew.trans hcwp
                  refine hK.out _ _ (hkwp.mono (by simp)) (fun _ => ?_)
                  clear hK K
                  (try simp only [Act.put, List.setIfInBounds_toArray, List.set_cons_zero, List.set_cons_succ])
                  refine wpAnyH_ready (rs := [13]) (by kernel_rfl) (by simp) ?_
                  refine AllReadyH.cons rfl (fun K hK => ?_) AllReadyH.nil
                  go_simp
                  refine (SUBM.out _).mono ?_
                  rintro e wq ⟨rfl, hcwq⟩
                  have hkwq : Kept [] wr3 wq := hkwp.trans hcwq
                  refine hK.out _ _ (hkwq.mono (by simp)) (fun _ => ?_)
                  clear hK K
                  (try simp only [Act.put, List.setIfInBounds_toArray, List.set_cons_zero, List.set_cons_succ])
                  refine wpAnyH_ready (rs := [14]) (by kernel_rfl) (by simp) ?_
                  refine AllReadyH.cons rfl (fun K hK => ?_) AllReadyH.nil
                  go_simp
                  refine hK.out _ _ (hkwq.mono (by simp)) (fun _ => ?_)
                  clear hK K
                  (try simp only [Act.put, List.setIfInBounds_toArray, List.set_cons_zero, List.set_cons_succ])
                  have hbL := hbO.kept hkwq (by simp)
                  have fL := hbL.frozen 0
                  have dL : wq.cell? ⟨b, 0, none⟩ = some (.int .i64 d) := hbL.cell 0
                  refine wpAnyH_ready (rs := [15]) (by kernel_rfl) (by simp) ?_
                  refine AllReadyH.cons rfl (fun K hK => ?_) AllReadyH.nil
                  go_simp
                  have hkF : Kept [b] wr3 (wq.setCell ⟨b, 0, none⟩ (.int .i64 q)) := Kept.setCell (hkwq.mono (S' := [b]) (by simp)) (p := ⟨b, 0, none⟩) (Or.inl (by simp)) _
                  have hbN : Blk (wq.setCell ⟨b, 0, none⟩ (.int .i64 q)) b 3 #[.int .i64 q, .int .i64 d] := hbL.set_ 0 (.int .i64 q)
                  refine hK.out _ _ hkF (fun _ => ?_)
                  clear hK K
                  (try simp only [Act.put, List.setIfInBounds_toArray, List.set_cons_zero, List.set_cons_succ])
                  refine wpAnyH_done (by kernel_rfl) ?_ _
                  obtain ⟨wa, hwo⟩ : ∃ W, wq.setCell ⟨b, 0, none⟩ (.int .i64 q) = W := ⟨_, rfl⟩
                  rw [hwo] at hkF hbN ⊢
                  clear hwo hbL fL dL hHeld hbO hcwp hkwp hcwq hkwq
                  have hbO := hbN
                  clear hbN
                  go_wp2_with fail
                  go_roundw
                  case rel => exact Or.inr (Or.inr ⟨rfl, hbO, hkO.trans hkF⟩)
                  case measure => simp [intOf]
                · obtain ⟨wr3, rfl⟩ : ∃ W, W = wr := ⟨_, rfl⟩
                  have dF : ∀ w', Kept [b] wr3 w' → w'.cell? ⟨g, 0, none⟩ = some (.int .i64 y0) := fun w' kk => DF0.out w' (hkO.trans kk)
                  go_upto_region 27 with (fail)
                  refine wp_region_held_drew (S := fun w' => Kept [b] wr3 w') (by kernel_rfl) (Kept.refl _ _).drew (fun hHeld => ?_)
                  refine take_of (i := 0) (v := ?v9x0) rfl (by kernel_rfl) (by kernel_rfl) (by kernel_rfl) (fun _ _ _ h => h) (Or.inl ⟨by rfl, ?hy9x0⟩) hHeld ?rest9x0
                  case hy9x0 => intro w' hSw; (try dsimp only at hSw); go_simp; first | done | with_reducible rfl
                  simp only [Act.put, List.setIfInBounds_toArray, List.set_cons_zero, List.set_cons_succ]
                  refine take_of (i := 1) (v := ?v9x1) rfl (by kernel_rfl) (by kernel_rfl) (by kernel_rfl) (fun _ _ _ h => h) (Or.inl ⟨by rfl, ?hy9x1⟩) hHeld ?rest9x1
                  case hy9x1 => intro w' hSw; (try dsimp only at hSw); go_simp; first | done | with_reducible rfl
                  simp only [Act.put, List.setIfInBounds_toArray, List.set_cons_zero, List.set_cons_succ]
                  refine take_of (i := 2) (v := ?v9x2) rfl (by kernel_rfl) (by kernel_rfl) (by kernel_rfl) (fun _ _ _ h => h) (Or.inl ⟨by rfl, ?hy9x2⟩) hHeld ?rest9x2
                  case hy9x2 => intro w' hSw; (try dsimp only at hSw); go_simp; first | done | with_reducible rfl
                  simp only [Act.put, List.setIfInBounds_toArray, List.set_cons_zero, List.set_cons_succ]
                  refine take_of (i := 3) (v := ?v9x3) rfl (by kernel_rfl) (by kernel_rfl) (by kernel_rfl) (fun _ _ _ h => h) (Or.inl ⟨by rfl, ?hy9x3⟩) hHeld ?rest9x3
                  case hy9x3 => intro w' hSw; (try dsimp only at hSw); go_simp; first | done | with_reducible rfl
                  simp only [Act.put, List.setIfInBounds_toArray, List.set_cons_zero, List.set_cons_succ]
                  refine take_of (i := 5) (v := ?v9x5) rfl (by kernel_rfl) (by kernel_rfl) (by kernel_rfl) (fun _ _ _ h => h) (Or.inl ⟨by rfl, ?hy9x5⟩) hHeld ?rest9x5
                  case hy9x5 => intro w' hSw; (try dsimp only at hSw); go_simp; first | done | with_reducible rfl
                  simp only [Act.put, List.setIfInBounds_toArray, List.set_cons_zero, List.set_cons_succ]
                  refine take_of (i := 6) (v := ?v9x6) rfl (by kernel_rfl) (by kernel_rfl) (by kernel_rfl) (fun _ _ _ h => h) (Or.inl ⟨by rfl, ?hy9x6⟩) hHeld ?rest9x6
                  case hy9x6 => intro w' hSw; (try dsimp only at hSw); go_simp; first | done | with_reducible rfl
                  simp only [Act.put, List.setIfInBounds_toArray, List.set_cons_zero, List.set_cons_succ]
                  refine take_of (i := 7) (v := ?v9x7) rfl (by kernel_rfl) (by kernel_rfl) (by kernel_rfl) (fun _ _ _ h => h) (Or.inl ⟨by rfl, ?hy9x7⟩) hHeld ?rest9x7
                  case hy9x7 => intro w' hSw; (try dsimp only at hSw); go_simp; first | done | with_reducible rfl
                  simp only [Act.put, List.setIfInBounds_toArray, List.set_cons_zero, List.set_cons_succ]
                  refine take_of (i := 8) (v := ?v9x8) rfl (by kernel_rfl) (by kernel_rfl) (by kernel_rfl) (fun _ _ _ h => h) (Or.inl ⟨by rfl, ?hy9x8⟩) hHeld ?rest9x8
                  case hy9x8 => intro w' hSw; (try dsimp only at hSw); go_simp; first | done | with_reducible rfl
                  simp only [Act.put, List.setIfInBounds_toArray, List.set_cons_zero, List.set_cons_succ]
                  have ld : wr3.drew.cell? ⟨b, 0, none⟩ = some (.int .i64 q) := hbO.cell 0
                  refine wpAnyH_ready (rs := [4]) (by kernel_rfl) (by simp) ?_
                  refine AllReadyH.cons rfl (fun K hK => ?_) AllReadyH.nil
                  go_simp
                  refine hK.out _ _ hHeld (fun _ => ?_)
                  clear hK K
                  (try simp only [Act.put, List.setIfInBounds_toArray, List.set_cons_zero, List.set_cons_succ])
                  clear ld
                  refine wpAnyH_ready (rs := [9]) (by kernel_rfl) (by simp) ?_
                  refine AllReadyH.cons rfl (fun K hK => ?_) AllReadyH.nil
                  go_simp
                  refine (ADDR.out _).mono ?_
                  rintro e wp ⟨rfl, hcwp⟩
                  have hkwp : Kept [] wr3 wp := (Kept.refl [] wr3).drew.trans hcwp
                  refine hK.out _ _ (hkwp.mono (by simp)) (fun _ => ?_)
                  clear hK K
                  (try simp only [Act.put, List.setIfInBounds_toArray, List.set_cons_zero, List.set_cons_succ])
                  refine wpAnyH_ready (rs := [10]) (by kernel_rfl) (by simp) ?_
                  refine AllReadyH.cons rfl (fun K hK => ?_) AllReadyH.nil
                  go_simp
                  refine hK.out _ _ (hkwp.mono (by simp)) (fun _ => ?_)
                  clear hK K
                  (try simp only [Act.put, List.setIfInBounds_toArray, List.set_cons_zero, List.set_cons_succ])
                  have hbL := hbO.kept hkwp (by simp)
                  have fL := hbL.frozen 0
                  have dL : wp.cell? ⟨b, 0, none⟩ = some (.int .i64 q) := hbL.cell 0
                  refine wpAnyH_ready (rs := [11]) (by kernel_rfl) (by simp) ?_
                  refine AllReadyH.cons rfl (fun K hK => ?_) AllReadyH.nil
                  go_simp
                  have hkF : Kept [b] wr3 (wp.setCell ⟨b, 0, none⟩ (.int .i64 r)) := Kept.setCell (hkwp.mono (S' := [b]) (by simp)) (p := ⟨b, 0, none⟩) (Or.inl (by simp)) _
                  have hbN : Blk (wp.setCell ⟨b, 0, none⟩ (.int .i64 r)) b 3 #[.int .i64 r, .int .i64 d] := hbL.set_ 0 (.int .i64 r)
                  refine hK.out _ _ hkF (fun _ => ?_)
                  clear hK K
                  (try simp only [Act.put, List.setIfInBounds_toArray, List.set_cons_zero, List.set_cons_succ])
                  refine wpAnyH_done (by kernel_rfl) ?_ _
                  obtain ⟨wa, hwo⟩ : ∃ W, wp.setCell ⟨b, 0, none⟩ (.int .i64 r) = W := ⟨_, rfl⟩
                  rw [hwo] at hkF hbN ⊢
                  clear hwo hbL fL dL hHeld hbO hcwp hkwp
                  have hbO := hbN
                  clear hbN
                  clear dF
                  go_wp2_with fail
                  go_roundw
                  case rel => exact Or.inr (Or.inr ⟨rfl, hbO, hkO.trans hkF⟩)
                  case measure => simp [intOf]
            · go_wp2_with fail
              go_ret2
              exact ⟨_, rfl, row_of_blk (cs := [.int .i64 r, .int .i64 d]) hbO rfl (by decide), hk1.trans ((HK1.out.mono0 (by simpa using hBg)).fresh hkO (by simpa using hbW))⟩

end Go.Proofs.YtabiklpemoijcaaGreatDoor
