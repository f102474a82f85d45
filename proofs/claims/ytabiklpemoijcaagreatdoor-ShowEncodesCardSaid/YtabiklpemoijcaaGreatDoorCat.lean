/- Two one-element lists joined: slices.Grow, slices.Concat. -/
import Derived.Test.YtabiklpemoijcaaGreatDoorSet1
import Derived.Lib.AppendZerosOnto
namespace Go.Proofs.YtabiklpemoijcaaGreatDoor
open Go.RowKit

set_option maxRecDepth 100000 in
set_option maxHeartbeats 1000000 in
theorem grow_x (w : World) : Calls Tryz.prog 173 #[.slice none 0 0, .int .i64 2] w fun e w' => ∃ g c, e = .returned (.slice (some ⟨g, 0, none⟩) 0 c) ∧ w'.ownsRow w.heap.size 3 1 (.slice (some ⟨g, 0, none⟩) 0 c) 0 [] ∧ Kept [] w w' := by
  obtain ⟨i0, hi, hz0, hz1, hz2⟩ := info_parts infoInt
  have hG := grownCap_ge w 2 0 3
  have hL := grownCap_le_maxLen w 2 0 3 (by unfold maxLen; omega)
  have hrun := Lib.run_append_grow_zeros w 24 3 24 3 i0 (.int .i64 0) .i64 .i64 Tryz.underlying24 Tryz.underlying3 hi hz0 none 0 0 [] (run_firstCells_none (w := w.drew) i0.size 0 0 0) 2 (by omega) (by omega) (by omega) (by omega)
    (by rw [hz2]; omega) (growslice_fits (by omega) (by rw [hz2]; omega))
  simp only [Nat.zero_add] at hrun
  obtain ⟨G, hGq⟩ : ∃ G, grownCap w 2 0 3 = G := ⟨_, rfl⟩
  rw [hGq] at hrun hG hL
  unfold maxLen at hL
  obtain ⟨cs, hcs⟩ : ∃ cs, (#[] ++ Builtin.zeroCells (Value.int .i64 0).cells 2 ++ Builtin.zeroCells (Value.int .i64 0).cells (G - 2) : Array Value) = cs := ⟨_, rfl⟩
  have hsz : cs.size = G * 1 := by
    rw [← hcs]
    simp [Builtin.zeroCells, Value.cells]
    omega
  have hrun' : ∀ ty, (Builtin.append_ #[24, 3] ty #[.slice none 0 0, .int .i64 2]).run Tryz.prog w = .ok (.slice (some ⟨w.heap.size, 0, none⟩) 2 G) (w.drew.alloc (.cells cs 3)) := by
    intro ty
    rw [← hcs]
    exact hrun
  have hown : (w.drew.alloc (.cells cs 3)).ownsRow w.heap.size 3 1 (.slice (some ⟨w.heap.size, 0, none⟩) 0 G) 0 [] :=
    ⟨rfl, Or.inr ⟨w.heap.size, G, cs, rfl, Nat.le_refl _, heap_alloc_new w.drew _, by omega, by unfold maxLen; omega, hsz, by simp⟩⟩
  have hk : Kept [] w (w.drew.alloc (.cells cs 3)) := (Kept.refl _ _).drew.alloc _
  have hG' : (Question.appendCap 2 0 3).cut (w.tape w.drawn (Question.appendCap 2 0 3)) = G := by rw [← hGq]; rfl
  have hcs' : Builtin.zeroCells #[.int .i64 0] 2 ++ Builtin.zeroCells #[.int .i64 0] (G - 2) = cs := by rw [← hcs]; simp [Value.cells]
  have HGG := Lib.hid hG'
  have HCS := Lib.hid hcs'
  clear hrun hcs hsz hG' hcs' hGq hrun'
  go_enter Tryz.func173, Tryz.ntmps173
  go_wp2
  go_ret
  rw [HGG.out, HCS.out]
  exact ⟨_, _, rfl, hown, hk⟩

/-- [x] and [y] joined -/
def GrowP (w : World) (e : Ending) (w' : World) : Prop := ∃ g c, e = .returned (.slice (some ⟨g, 0, none⟩) 0 c) ∧ w'.ownsRow w.heap.size 3 1 (.slice (some ⟨g, 0, none⟩) 0 c) 0 [] ∧ Kept [] w w'
theorem grow_x' (w : World) : Calls Tryz.prog 173 #[.slice none 0 0, .int .i64 2] w (GrowP w) := grow_x w

set_option maxRecDepth 100000 in
set_option maxHeartbeats 1000000 in
theorem concat_x (x y : Int) (va vb vl : Value) (w : World) (hl : Row w 1 vl 2 [va, vb]) (ha : Row w 1 va 1 (ints [x])) (hb : Row w 1 vb 1 (ints [y])) :
    Calls Tryz.prog 95 #[vl] w fun e w' => ∃ v, e = .returned v ∧ Row w' 1 v 2 (ints [x, y]) ∧ Kept [] w w' := by
  obtain ⟨al, cl, rfl, _, _⟩ := hl.form
  obtain ⟨aa, ca, rfl, _, hca⟩ := ha.form
  obtain ⟨ab, cb, rfl, _, hcb⟩ := hb.form
  obtain ⟨bl, ol, rfl, hcl⟩ := hl.at_ (by omega)
  obtain ⟨ba, oa, rfl, hcla⟩ := ha.at_ (by omega)
  obtain ⟨bb, ob, rfl, hclb⟩ := hb.at_ (by omega)
  have L0 : Hid (∀ w', Kept [] w w' → w'.cell? ⟨bl, ol, none⟩ = some (.slice (some ⟨ba, oa, none⟩) 1 ca)) := Kept.cellOf (hcl 0 _ rfl)
  have L1 : Hid (∀ w', Kept [] w w' → w'.cell? ⟨bl, ol + 1, none⟩ = some (.slice (some ⟨bb, ob, none⟩) 1 cb)) := Kept.cellOf (hcl 1 _ rfl)
  have A0 : Hid (∀ w', Kept [] w w' → w'.cell? ⟨ba, oa, none⟩ = some (.int .i64 x)) := Kept.cellOf (hcla 0 _ rfl)
  have B0 : Hid (∀ w', Kept [] w w' → w'.cell? ⟨bb, ob, none⟩ = some (.int .i64 y)) := Kept.cellOf (hclb 0 _ rfl)
  obtain ⟨i0, hi, hz0, hz1, hz2⟩ := info_parts infoInt
  clear hl ha hb hcl hcla hclb
  go_enter Tryz.func95, Tryz.ntmps95
  go_wp2_with fail
  go_loop [3, 5, 11] (fun vs _ vi => ∃ k : Nat, k ≤ 2 ∧ vi = .int .i64 k ∧ vs = .int .i64 k) (fun _ _ vi => 2 - (intOf vi).toNat)
  case atStart => exact ⟨0, by omega, rfl, rfl⟩
  case round =>
    obtain ⟨k, hk, rfl, rfl⟩ := hrel
    rcases (by omega : k = 0 ∨ k = 1 ∨ k = 2) with rfl | rfl | rfl
    · have l0 := L0.out w (Kept.refl _ _)
      go_wp2_with fail
      go_round
      case rel => exact ⟨1, by omega, rfl, rfl⟩
      case measure => simp [intOf]
    · have l1 := L1.out w (Kept.refl _ _)
      go_wp2_with fail
      go_round
      case rel => exact ⟨2, by omega, rfl, rfl⟩
      case measure => simp [intOf]
    · go_wp2_with (go_at_call 173; refine (grow_x' _).mono ?_)
      rintro e w1 ⟨g, c, rfl, hown, hk1⟩
      go_wp2_with fail
      go_loopw [6, 8, 27] (fun vd _ vi wr => ∃ k : Nat, k ≤ 2 ∧ vi = .int .i64 k ∧ wr.ownsRow w.heap.size 3 1 vd k (ints (([x, y] : List Int).take k)) ∧ Kept [] w wr) (fun _ _ vi _ => 2 - (intOf vi).toNat)
      case atStart => exact ⟨0, by omega, rfl, by simpa [ints] using hown, hk1⟩
      case round =>
        obtain ⟨k, hk, rfl, hown, hkr⟩ := hrel
        have hsz := hkr.size
        rcases (by omega : k = 0 ∨ k = 1 ∨ k = 2) with rfl | rfl | rfl
        · have l0 := L0.out wr hkr
          have a0 := A0.out wr hkr
          go_wp2_with (at_builtin; refine wpList_append_own _ rfl _ _ 24 rfl w.heap.size 3 i0 (.int .i64 0) 1 8 Tryz.underlying24 hi hz0 hz1 hz2 rfl (by decide) _ _ _ rfl hown ⟨ba, oa, none⟩ 1 ca [.int .i64 x] rfl rfl ?c1 (by intro u hu; rw [List.mem_singleton] at hu; subst hu; rfl) (by unfold maxLen; omega) (by omega) (by omega) ?_)
          case c1 => intro j u hu; rcases j with _ | j; exact (by simpa using hu) ▸ a0; simp at hu
          intro v' w3 hown3 hg3 _
          have hk3 : Kept [] w w3 := hkr.grown hg3 (fun k hk => Or.inr (hown.lt k hk).1)
          clear hg3 a0 l0
          go_wp2_with fail
          go_roundw
          case rel => exact ⟨1, by omega, rfl, hown3, hk3⟩
          case measure => simp [intOf]
        · have l1 := L1.out wr hkr
          have b0 := B0.out wr hkr
          go_wp2_with (at_builtin; refine wpList_append_own _ rfl _ _ 24 rfl w.heap.size 3 i0 (.int .i64 0) 1 8 Tryz.underlying24 hi hz0 hz1 hz2 rfl (by decide) _ _ _ rfl hown ⟨bb, ob, none⟩ 1 cb [.int .i64 y] rfl rfl ?c2 (by intro u hu; rw [List.mem_singleton] at hu; subst hu; rfl) (by unfold maxLen; omega) (by omega) (by omega) ?_)
          case c2 => intro j u hu; rcases j with _ | j; exact (by simpa using hu) ▸ b0; simp at hu
          intro v' w3 hown3 hg3 _
          have hk3 : Kept [] w w3 := hkr.grown hg3 (fun k hk => Or.inr (hown.lt k hk).1)
          clear hg3 b0 l1
          go_wp2_with fail
          go_roundw
          case rel => exact ⟨2, by omega, rfl, hown3, hk3⟩
          case measure => simp [intOf]
        · have hrow := Row.of_own hown (by omega)
          obtain ⟨a, c, rfl⟩ := own_form hown
          go_wp2_with fail
          go_ret
          exact ⟨_, rfl, hrow, hkr⟩
end Go.Proofs.YtabiklpemoijcaaGreatDoor
