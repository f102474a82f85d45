/- A juror's vote: its value, and the text that is signed. -/
import Derived.Test.YtpcdfepndmconaaGreatDoorEnc
import Derived.Test.YtpcdfepndmconaaGreatDoorMin
/- JOINED: Nums Pts Ballot -/
/- Small functions on lists of ints: SameNums, total, Min, Max. -/
namespace Go.Proofs.YtpcdfepndmconaaGreatDoor
open Go.RowKit

theorem ints_get {l : List Int} {k : Nat} (h : k < l.length) : (ints l)[k]? = some (.int .i64 l[k]) := by simp [ints, h]

set_option maxHeartbeats 800000 in
theorem sameNums_any (va vb : Value) (a b : List Int) (w : World) (ha : Row w 1 va a.length (ints a)) (hb : Row w 1 vb b.length (ints b)) :
    Calls Tryz.prog 11 #[va, vb] w fun e w' => e = .returned (.bool (decide (a = b))) ∧ Kept [] w w' := by
  obtain ⟨aa, ca, rfl, hla, _⟩ := ha.form
  obtain ⟨ab, cb, rfl, hlb, _⟩ := hb.form
  by_cases hl : a.length = b.length
  · have hlq : ((a.length : Int) != (b.length : Int)) = false := by simp; omega
    have HL := Lib.hid hl
    clear hl
    go_enter Tryz.func11, Tryz.ntmps11
    go_wp2_with fail
    go_loopw [5] (fun i wr => ∃ k : Nat, k ≤ a.length ∧ i = .int .i64 k ∧ (a = b ↔ a.drop k = b.drop k) ∧ Kept [] w wr) (fun i _ => a.length - (intOf i).toNat)
    case atStart => exact ⟨0, Nat.zero_le _, rfl, by simp, Kept.refl _ _⟩
    case round =>
      obtain ⟨k, hk, rfl, hr, hkr⟩ := hrel
      have HR := Lib.hid hr
      clear hr
      by_cases hlt : k < a.length
      · have hltb : k < b.length := by have := HL.out; omega
        obtain ⟨ba, oa, rfl, hca⟩ := (ha.kept hkr).at_ (by omega)
        obtain ⟨bb, ob, rfl, hcb⟩ := (hb.kept hkr).at_ (by omega)
        have xa := hca k _ (ints_get hlt)
        have xb := hcb k _ (ints_get hltb)
        have hda : a.drop k = a[k] :: a.drop (k + 1) := List.drop_eq_getElem_cons hlt
        have hdb : b.drop k = b[k] :: b.drop (k + 1) := List.drop_eq_getElem_cons hltb
        by_cases he : a[k] = b[k]
        · have heq : (a[k] != b[k]) = false := by simp [he]
          have hn : a = b ↔ a.drop (k + 1) = b.drop (k + 1) := by rw [HR.out, hda, hdb, he]; exact ⟨fun h => (List.cons.inj h).2, fun h => by rw [h]⟩
          have HN := Lib.hid hn
          clear hn hda hdb he hca hcb
          go_wp2_with fail
          go_quiet (fail)
          go_wp2_with fail
          go_roundw
          case rel => exact ⟨k + 1, by omega, by go_num, HN.out, hkr.drewN _⟩
          case measure => simp [intOf]; omega
        · have heq : (a[k] != b[k]) = true := by simp [he]
          have hn : ¬ a = b := by rw [HR.out, hda, hdb]; intro h; injection h with h1; exact he h1
          have HN := Lib.hid hn
          clear hn hda hdb he hca hcb
          go_wp2_with fail
          go_quiet (fail)
          go_wp2_with fail
          go_ret
          exact ⟨by rw [decide_eq_false HN.out]; rfl, hkr.drewN _⟩
      · obtain rfl : k = a.length := by omega
        have hn : a = b := by rw [HR.out, List.drop_length, HL.out, List.drop_length]
        have HN := Lib.hid hn
        clear hn
        go_wp2_with fail
        go_ret
        exact ⟨by rw [decide_eq_true HN.out]; rfl, hkr⟩
  · have hlq : ((a.length : Int) != (b.length : Int)) = true := by simp; omega
    have hn : ¬ a = b := fun h => hl (by rw [h])
    have HN := Lib.hid hn
    clear hn hl
    go_enter Tryz.func11, Tryz.ntmps11
    go_wp2_with fail
    go_ret
    exact ⟨by rw [decide_eq_false HN.out]; rfl, Kept.refl _ _⟩

/-- the sum of weights -/
def sumW (l : List Int) : Int := l.foldr (· + ·) 0
theorem sumW_cons (a : Int) (l : List Int) : sumW (a :: l) = a + sumW l := rfl
theorem sumW_bound (l : List Int) (h : ∀ x ∈ l, 0 ≤ x ∧ x ≤ 12) : 0 ≤ sumW l ∧ sumW l ≤ 12 * l.length := by
  induction l with
  | nil => exact ⟨Int.le_refl _, Int.le_refl _⟩
  | cons a l ih =>
    have h1 := h a (by simp)
    have h2 := ih fun x hx => h x (by simp [hx])
    rw [sumW_cons, List.length_cons]
    omega

set_option maxHeartbeats 800000 in
theorem total_any (v : Value) (l : List Int) (w : World) (hv : Row w 1 v l.length (ints l)) (hb : ∀ x ∈ l, 0 ≤ x ∧ x ≤ 12) (hl : l.length ≤ 1000) :
    Calls Tryz.prog 52 #[v] w fun e w' => e = .returned (.int .i64 (sumW l)) ∧ w = w' := by
  obtain ⟨aa, ca, rfl, hla, _⟩ := hv.form
  have hsb := sumW_bound l hb
  go_enter Tryz.func52, Tryz.ntmps52
  go_wp2_with fail
  go_loop [3, 5, 8] (fun s _ i => ∃ (k : Nat) (t : Int), k ≤ l.length ∧ i = .int .i64 k ∧ s = .int .i64 t ∧ sumW l = t + sumW (l.drop k) ∧ 0 ≤ t) (fun _ _ i => l.length - (intOf i).toNat)
  case atStart => exact ⟨0, 0, Nat.zero_le _, rfl, rfl, by simp, by omega⟩
  case round =>
    obtain ⟨k, t, hk, rfl, rfl, hr, ht⟩ := hrel
    by_cases hlt : k < l.length
    · obtain ⟨ba, oa, rfl, hca⟩ := hv.at_ (by omega)
      have xa := hca k _ (ints_get hlt)
      have hx := hb l[k] (List.getElem_mem hlt)
      have hd : l.drop k = l[k] :: l.drop (k + 1) := List.drop_eq_getElem_cons hlt
      have hsd := sumW_bound (l.drop (k + 1)) (fun x hx => hb x (List.mem_of_mem_drop hx))
      have hn : sumW l = (t + l[k]) + sumW (l.drop (k + 1)) := by rw [hr, hd, sumW_cons]; omega
      have hle : t + l[k] ≤ 12000 := by omega
      have HN := Lib.hid hn
      clear hr hn hd hca hsd
      go_wp2_with fail
      go_round
      case rel => exact ⟨k + 1, t + l[k], by omega, by go_num, rfl, HN.out, by omega⟩
      case measure => simp [intOf]; omega
    · obtain rfl : k = l.length := by omega
      have hn : sumW l = t := by rw [hr]; simp [sumW]
      have HN := Lib.hid hn
      clear hr hn
      go_wp2_with fail
      go_ret
      exact ⟨by rw [HN.out]; rfl, rfl⟩
end Go.Proofs.YtpcdfepndmconaaGreatDoor
/- Lists of points: SamePoints. -/
namespace Go.Proofs.YtpcdfepndmconaaGreatDoor
open Go.RowKit

/-- three of a list's numbers at a point's place -/
theorem drop3 {l : List Int} {n k : Nat} (hl : l.length = n * 3) (hk : k < n) :
    ∃ x y z, (ints l)[k * 3]? = some (.int .i64 x) ∧ (ints l)[k * 3 + 1]? = some (.int .i64 y) ∧ (ints l)[k * 3 + 2]? = some (.int .i64 z) ∧ l.drop (k * 3) = x :: y :: z :: l.drop ((k + 1) * 3) := by
  have h0 : k * 3 < l.length := by omega
  have h1 : k * 3 + 1 < l.length := by omega
  have h2 : k * 3 + 2 < l.length := by omega
  refine ⟨l[k * 3], l[k * 3 + 1], l[k * 3 + 2], ints_get h0, ints_get h1, ints_get h2, ?_⟩
  rw [List.drop_eq_getElem_cons h0, List.drop_eq_getElem_cons h1, List.drop_eq_getElem_cons h2, show (k + 1) * 3 = k * 3 + 1 + 1 + 1 by omega]

set_option maxHeartbeats 2000000 in
theorem samePoints_any (va vb : Value) (na nb : Nat) (a b : List Int) (w : World) (ha : Row w 3 va na (ints a)) (hb : Row w 3 vb nb (ints b)) :
    Calls Tryz.prog 38 #[va, vb] w fun e w' => e = .returned (.bool (decide (a = b))) ∧ Kept [] w w' := by
  have hal : a.length = na * 3 := by simpa [ints] using ha.1
  have hbl : b.length = nb * 3 := by simpa [ints] using hb.1
  obtain ⟨aa, ca, rfl, hla, _⟩ := ha.form
  obtain ⟨ab, cb, rfl, hlb, _⟩ := hb.form
  by_cases hl : na = nb
  · subst hl
    have HAL := Lib.hid hal
    have HBL := Lib.hid hbl
    clear hal hbl
    have hlq : ((na : Int) != (na : Int)) = false := by simp
    go_enter Tryz.func38, Tryz.ntmps38
    go_wp2_with fail
    go_loopw [5] (fun i wr => ∃ k : Nat, k ≤ na ∧ i = .int .i64 k ∧ (a = b ↔ a.drop (k * 3) = b.drop (k * 3)) ∧ Kept [] w wr) (fun i _ => na - (intOf i).toNat)
    case atStart => exact ⟨0, Nat.zero_le _, rfl, by simp, Kept.refl _ _⟩
    case round =>
      obtain ⟨k, hk, rfl, hr, hkr⟩ := hrel
      have HR := Lib.hid hr
      clear hr
      by_cases hlt : k < na
      · obtain ⟨ba, oa, rfl, hca⟩ := (ha.kept hkr).at_ (by omega)
        obtain ⟨bb, ob, rfl, hcb⟩ := (hb.kept hkr).at_ (by omega)
        obtain ⟨x0, x1, x2, g0, g1, g2, hda⟩ := drop3 HAL.out hlt
        obtain ⟨y0, y1, y2, i0, i1, i2, hdb⟩ := drop3 HBL.out hlt
        have xa0 := hca _ _ g0
        have xa1 := hca _ _ g1
        have xa2 := hca _ _ g2
        have xb0 := hcb _ _ i0
        have xb1 := hcb _ _ i1
        have xb2 := hcb _ _ i2
        rw [← Nat.add_assoc] at xa1 xa2 xb1 xb2
        have hn : a = b ↔ (x0 = y0 ∧ x1 = y1 ∧ x2 = y2 ∧ a.drop ((k + 1) * 3) = b.drop ((k + 1) * 3)) := by rw [HR.out, hda, hdb]; simp
        have HN := Lib.hid hn
        clear hn hda hdb hca hcb g0 g1 g2 i0 i1 i2
        cases e0 : (x0 != y0)
        · cases e1 : (x1 != y1)
          · cases e2 : (x2 != y2)
            · have hnx : a = b ↔ a.drop ((k + 1) * 3) = b.drop ((k + 1) * 3) := by
                have q0 : x0 = y0 := by simpa using e0
                have q1 : x1 = y1 := by simpa using e1
                have q2 : x2 = y2 := by simpa using e2
                rw [HN.out]; simp [q0, q1, q2]
              have HX := Lib.hid hnx
              clear hnx
              go_wp2_with fail
              go_quiet (fail)
              go_wp2_with fail
              go_roundw
              case rel => exact ⟨k + 1, by omega, by go_num, HX.out, hkr.drewN _⟩
              case measure => simp [intOf]; omega
            · have hno : ¬ a = b := by rw [HN.out]; simp at e2; intro h; exact e2 h.2.2.1
              have HX := Lib.hid hno
              clear hno
              go_wp2_with fail
              go_quiet (fail)
              go_wp2_with fail
              go_ret
              exact ⟨by rw [decide_eq_false HX.out]; rfl, hkr.drewN _⟩
          · have hno : ¬ a = b := by rw [HN.out]; simp at e1; intro h; exact e1 h.2.1
            have HX := Lib.hid hno
            clear hno
            go_wp2_with fail
            go_quiet (fail)
            go_wp2_with fail
            go_ret
            exact ⟨by rw [decide_eq_false HX.out]; rfl, hkr.drewN _⟩
        · have hno : ¬ a = b := by rw [HN.out]; simp at e0; intro h; exact e0 h.1
          have HX := Lib.hid hno
          clear hno
          go_wp2_with fail
          go_quiet (fail)
          go_wp2_with fail
          go_ret
          exact ⟨by rw [decide_eq_false HX.out]; rfl, hkr.drewN _⟩
      · obtain rfl : k = na := by omega
        have hn : a = b := by rw [HR.out, ← HAL.out, List.drop_length, HAL.out, ← HBL.out, List.drop_length]
        have HX := Lib.hid hn
        clear hn
        go_wp2_with fail
        go_ret
        exact ⟨by rw [decide_eq_true HX.out]; rfl, hkr⟩
  · have hlq : ((na : Int) != (nb : Int)) = true := by simp; omega
    have hn : ¬ a = b := fun h => hl (by rw [h] at hal; omega)
    have HN := Lib.hid hn
    clear hn hl hal hbl
    go_enter Tryz.func38, Tryz.ntmps38
    go_wp2_with fail
    go_ret
    exact ⟨by rw [decide_eq_false HN.out]; rfl, Kept.refl _ _⟩
end Go.Proofs.YtpcdfepndmconaaGreatDoor
namespace Go.Proofs.YtpcdfepndmconaaGreatDoor
open Go.RowKit

structure Vote where
  juror : Int
  version : Int
  gate : Int
  no : Int
  reason : List UInt8
  pts : List Int

structure VoteV (w : World) (v : Value) (x : Vote) : Prop where
  form : ∃ ps n c s, v = .agg #[.int .i64 x.juror, .int .i64 x.version, .int .i64 x.gate, .int .i64 x.no, .string ⟨x.reason.toArray⟩, ps, .int .i64 c, .int .i64 s] ∧ Row w 3 ps n (ints x.pts)
  h0 : Wire.I64 x.juror
  h1 : Wire.I64 x.version
  h2 : Wire.I64 x.gate
  h3 : Wire.I64 x.no
  hp : ∀ n ∈ x.pts, Wire.I64 n

theorem VoteV.kept {w w' : World} {v : Value} {x : Vote} (h : VoteV w v x) (k : Kept [] w w') : VoteV w' v x := by
  obtain ⟨⟨ps, n, c, s, hv, hr⟩, a, b, c', d, e⟩ := h
  exact ⟨⟨ps, n, c, s, hv, hr.kept k⟩, a, b, c', d, e⟩

def ballotE (x : Vote) : List UInt8 := Wire.numsE [x.juror, x.version, x.gate, x.no] ++ (Wire.textE x.reason ++ Wire.numsE x.pts)

theorem row4 (w : World) (x y z u : Int) (T : TypeId) : Row (w.alloc (.cells #[.int .i64 x, .int .i64 y, .int .i64 z, .int .i64 u] T)) 1 (.slice (some ⟨w.heap.size, 0, none⟩) 4 4) 4 (ints [x, y, z, u]) := by
  refine ⟨rfl, by omega, _, _, rfl, by omega, fun _ => ⟨_, _, rfl, fun k v hv => ?_⟩⟩
  rw [Nat.zero_add]
  have := (Blk.new w T #[.int .i64 x, .int .i64 y, .int .i64 z, .int .i64 u]).cell k
  rw [this]
  simpa [ints] using hv

theorem cell_three_new (w : World) (x y z : Value) (t : TypeId) : ∀ j u, [x, y, z][j]? = some u → (w.alloc (.cells #[x, y, z] t)).cell? ((⟨w.heap.size, 0, none⟩ : Addr).add j) = some u := by
  intro j u hj
  match j, hj with
  | 0, hj => simp at hj; subst hj; simp [Addr.add]
  | 1, hj => simp at hj; subst hj; simp [Addr.add]
  | 2, hj => simp at hj; subst hj; simp [Addr.add]

/-- the loop's relation -/
def PtsRel (W : World) (n : Nat) (l : List Int) (v i : Value) (wr : World) : Prop :=
  ∃ k : Nat, k ≤ n ∧ i = .int .i64 k ∧ wr.ownsRow W.heap.size 3 1 v (k * 3) (ints (l.take (k * 3))) ∧ Kept [] W wr

theorem take3 {l : List Int} {k : Nat} {x y z : Int} {r : List Int} (h : l.drop (k * 3) = x :: y :: z :: r) : l.take ((k + 1) * 3) = l.take (k * 3) ++ [x, y, z] := by
  rw [show (k + 1) * 3 = k * 3 + 3 by omega, List.take_add, h]
  rfl

set_option maxRecDepth 100000 in
set_option maxHeartbeats 2000000 in
theorem ballot_any (v : Value) (x : Vote) (w : World) (h : VoteV w v x) (hE : Env w) (hr : x.reason.length ≤ 100000000) (hp : x.pts.length ≤ 900000) :
    Calls Tryz.prog 22 #[v] w fun e w' => e = .returned (.string ⟨(ballotE x).toArray⟩) ∧ Kept [] w w' := by
  obtain ⟨ps, n, c, s, rfl, hrow⟩ := h.form
  have hpl : x.pts.length = n * 3 := by simpa [ints] using hrow.1
  obtain ⟨pa, pc, rfl, hl1, hl2⟩ := hrow.form
  obtain ⟨W, hW⟩ : ∃ W, w.alloc (.cells #[.int .i64 x.juror, .int .i64 x.version, .int .i64 x.gate, .int .i64 x.no, .string ⟨x.reason.toArray⟩, .slice pa n pc, .int .i64 c, .int .i64 s] 35) = W := ⟨_, rfl⟩
  have hkW : Kept [] w W := hW ▸ (Kept.refl _ _).alloc _
  have hb : Blk W w.heap.size 35 #[.int .i64 x.juror, .int .i64 x.version, .int .i64 x.gate, .int .i64 x.no, .string ⟨x.reason.toArray⟩, .slice pa n pc, .int .i64 c, .int .i64 s] := hW ▸ Blk.new w _ _
  have k0 : Hid (∀ w', Kept [] W w' → w'.cell? ⟨w.heap.size, 0, none⟩ = some (.int .i64 x.juror)) := Kept.cellOf (hb.cell 0)
  have k1 : Hid (∀ w', Kept [] W w' → w'.cell? ⟨w.heap.size, 1, none⟩ = some (.int .i64 x.version)) := Kept.cellOf (hb.cell 1)
  have k2 : Hid (∀ w', Kept [] W w' → w'.cell? ⟨w.heap.size, 2, none⟩ = some (.int .i64 x.gate)) := Kept.cellOf (hb.cell 2)
  have k3 : Hid (∀ w', Kept [] W w' → w'.cell? ⟨w.heap.size, 3, none⟩ = some (.int .i64 x.no)) := Kept.cellOf (hb.cell 3)
  have k4 : Hid (∀ w', Kept [] W w' → w'.cell? ⟨w.heap.size, 4, none⟩ = some (.string ⟨x.reason.toArray⟩)) := Kept.cellOf (hb.cell 4)
  have k5 : W.cell? ⟨w.heap.size, 5, none⟩ = some (.slice pa n pc) := hb.cell 5
  have hsz : W.heap.size = w.heap.size + 1 := by rw [← hW]; simp
  have HW := Lib.hid hW
  have HSZ := Lib.hid hsz
  have HPL := Lib.hid hpl
  have HROW := Lib.hid (hrow.kept hkW)
  have HX := Lib.hid h
  have HE := Lib.hid (hE.kept0 hkW)
  obtain ⟨i0, hi, hz0, hz1, hz2⟩ := info_parts infoInt
  have hn3 : n * 3 ≤ 900000 := by rw [← hpl]; exact hp
  clear hW hsz hpl hrow h hE hb
  go_enter Tryz.func22, Tryz.ntmps22
  go_wp2_with fail
  have hW' : w.alloc (.cells #[.int .i64 x.juror, .int .i64 x.version, .int .i64 x.gate, .int .i64 x.no, .string ⟨x.reason.toArray⟩, .slice pa n pc, .int .i64 c, .int .i64 s] 35) = W := HW.out
  rw [hW']
  clear hW'
  go_wp2_with fail
  go_loopw [3, 9] (fun v i wr => PtsRel W n x.pts v i wr) (fun _ i _ => n - (intOf i).toNat)
  case atStart => exact ⟨0, Nat.zero_le _, rfl, by simpa [ints] using World.ownsRow_nil _ _ _ _, Kept.refl _ _⟩
  case round =>
    obtain ⟨k, hkn, rfl, hown, hkr⟩ := hrel
    by_cases hlt : k < n
    · obtain ⟨ba, oa, rfl, hca⟩ := (HROW.out.kept hkr).at_ (by omega)
      obtain ⟨x0, x1, x2, g0, g1, g2, hda⟩ := drop3 HPL.out hlt
      have xa0 := hca _ _ g0
      have xa1 := hca _ _ g1
      have xa2 := hca _ _ g2
      rw [← Nat.add_assoc] at xa1 xa2
      have HT := Lib.hid (take3 hda)
      clear hca g0 g1 g2 hda
      go_wp2_with (at_builtin; refine wpList_append_own _ rfl _ _ 24 rfl W.heap.size 3 i0 (.int .i64 0) 1 8 Tryz.underlying24 hi hz0 hz1 hz2 rfl (by decide) _ _ _ rfl ((hown.alloc _).alloc _) ⟨wr.heap.size + 1, 0, none⟩ 3 3 [.int .i64 x0, .int .i64 x1, .int .i64 x2] rfl rfl ?c1 ?c2 ?c3 ?c4 ?c5 ?_)
      case c1 =>
        have h := cell_three_new (wr.alloc (.cells #[.int .i64 x0, .int .i64 x1, .int .i64 x2] 78)) (.int .i64 x0) (.int .i64 x1) (.int .i64 x2) 3
        rw [World.size_alloc] at h
        exact h
      case c2 => intro u hu; simp at hu; rcases hu with rfl | rfl | rfl <;> rfl
      case c3 => unfold maxLen; omega
      case c4 => omega
      case c5 => have := hkr.size; simp; omega
      intro v' w3 hown3 hg3 _
      have hk3 : Kept [] W w3 := ((hkr.alloc _).alloc _).grown hg3 (fun k hk => Or.inr (hown.lt k hk).1)
      have e3 : ints (x.pts.take (k * 3)) ++ [.int .i64 x0, .int .i64 x1, .int .i64 x2] = ints (x.pts.take ((k + 1) * 3)) := by rw [HT.out]; simp [ints]
      rw [e3, show k * 3 + 3 = (k + 1) * 3 by omega] at hown3
      clear e3 hg3 hown xa0 xa1 xa2
      go_wp2
      go_roundw
      case rel => exact ⟨k + 1, by omega, by go_num, hown3, hk3⟩
      case measure => simp [intOf]; omega
    · obtain rfl : k = n := by omega
      rw [← HPL.out, List.take_length] at hown
      have hrv := Row.of_own hown (by omega)
      obtain ⟨va, vc, rfl, _⟩ := hrv.form
      have HRV := Lib.hid hrv
      have h4 : ∀ n ∈ [x.juror, x.version, x.gate, x.no], Wire.I64 n := by
        intro n hn
        simp only [List.mem_cons, List.not_mem_nil, or_false] at hn
        rcases hn with rfl | rfl | rfl | rfl
        · exact HX.out.h0
        · exact HX.out.h1
        · exact HX.out.h2
        · exact HX.out.h3
      have H4 := Lib.hid h4
      have l0 := numsE_len [x.juror, x.version, x.gate, x.no] h4 (by simp)
      have l1 := textE_len x.reason hr
      have l2 := numsE_len x.pts HX.out.hp (by omega)
      have s1 : ¬ 9223372036854775807 < (Wire.numsE [x.juror, x.version, x.gate, x.no]).length + (Wire.textE x.reason).length := by omega
      have s2 : ¬ 9223372036854775807 < (Wire.numsE [x.juror, x.version, x.gate, x.no]).length + (Wire.textE x.reason).length + (Wire.numsE x.pts).length := by omega
      have hcat := bcat
      have c0 : ∀ w', Kept [] wr w' → w'.cell? ⟨w.heap.size, 0, none⟩ = some (.int .i64 x.juror) := fun w' k => k0.out w' (hkr.trans k)
      have c1 : ∀ w', Kept [] wr w' → w'.cell? ⟨w.heap.size, 1, none⟩ = some (.int .i64 x.version) := fun w' k => k1.out w' (hkr.trans k)
      have c2 : ∀ w', Kept [] wr w' → w'.cell? ⟨w.heap.size, 2, none⟩ = some (.int .i64 x.gate) := fun w' k => k2.out w' (hkr.trans k)
      have c3 : ∀ w', Kept [] wr w' → w'.cell? ⟨w.heap.size, 3, none⟩ = some (.int .i64 x.no) := fun w' k => k3.out w' (hkr.trans k)
      have c4 : ∀ w', Kept [] wr w' → w'.cell? ⟨w.heap.size, 4, none⟩ = some (.string ⟨x.reason.toArray⟩) := fun w' k => k4.out w' (hkr.trans k)
      have hEr := HE.out.kept0 hkr
      have hp1 : x.pts.length ≤ 100000001 := by omega
      have HP := Lib.hid HX.out.hp
      clear l0 l1 l2 h4 hown hrv k5
      go_wp2_with fail
      go_region_held3 (fun w' => Kept [] wr w') (repeat (first | (with_reducible assumption) | (with_reducible exact Kept.refl _ _) | (with_reducible refine Kept.drew ?_) | (with_reducible refine Kept.alloc ?_ _)))
        (first
          | (go_at_call_of 71 (Value.slice va x.pts.length vc); refine (kept_from (W := wr) (by assumption) (nums_any (.slice va x.pts.length vc) x.pts _ (by exact HRV.out.kept (by assumption)) (by exact hEr.kept0 (by assumption)) hp1 HP.out)).mono ?_; rintro e w2 ⟨rfl, hk2⟩)
          | (go_at_call 71; refine (kept_from (W := wr) (by assumption) (nums_any _ [x.juror, x.version, x.gate, x.no] _ (by exact (row4 _ _ _ _ _ _).drew) (by exact hEr.kept0 (by assumption)) (by simp) (by exact H4.out))).mono ?_; rintro e w2 ⟨rfl, hk2⟩)
          | (go_at_call 72; refine (kept_from (W := wr) (by assumption) (text_any x.reason _ hr (by exact hEr.kept0 (by assumption)))).mono ?_; rintro e w2 ⟨rfl, hk2⟩))
      rename_i hHeld
      go_wp2
      go_ret
      exact ⟨by simp [ballotE], hkW.trans (hkr.trans hHeld)⟩
end Go.Proofs.YtpcdfepndmconaaGreatDoor
