/- Records that are equal compare as equal: SameRecord. -/
import Derived.Test.YtpcdfepndmconaaGreatDoorSameS
import Derived.Test.YtpcdfepndmconaaGreatDoorEncM
namespace Go.Proofs.YtpcdfepndmconaaGreatDoor
open Go.RowKit Tape

theorem RowOf.atk {α : Type} {R : World → List Value → α → Prop} {w : World} {a : Option Addr} {n c m : Nat} {l : List α} (h : RowOf R m w (.slice a n c) l) (k : Nat) (hk : k < l.length) :
    ∃ b off cs, a = some ⟨b, off, none⟩ ∧ R w cs l[k] ∧ ∀ (j : Nat) v, j < m → cs[j]? = some v → w.cell? ⟨b, off + k * m + j, none⟩ = some v := by
  obtain ⟨b, off, rfl, hc⟩ := h.at_ (by omega)
  obtain ⟨cs, h1, h2, h3⟩ := hc k _ (List.getElem?_eq_getElem hk)
  exact ⟨b, off, cs, rfl, h2, fun j v hj hv => by rw [Nat.add_assoc]; exact h3 j v hj hv⟩


set_option maxRecDepth 100000 in
set_option maxHeartbeats 4000000 in
theorem sameTickets_eq (va vb : Value) (l : List Tick) (w : World) (ha : RowOf TickR 6 w va l) (hb : RowOf TickR 6 w vb l) :
    Calls Tryz.prog 127 #[va, vb] w fun e w' => e = .returned (.bool true) ∧ Kept [] w w' := by
  obtain ⟨aa, ca, rfl, hla, _⟩ := ha.form
  obtain ⟨ab, cb, rfl, hlb, _⟩ := hb.form
  have HA := Lib.hid ha
  have HB := Lib.hid hb
  have hlq : ((l.length : Int) != (l.length : Int)) = false := by simp
  clear ha hb
  go_enter Tryz.func127, Tryz.ntmps127
  go_wp2_with fail
  go_loopw [5] (fun i wr => ∃ k : Nat, k ≤ l.length ∧ i = .int .i64 k ∧ Kept [] w wr) (fun i _ => l.length - (intOf i).toNat)
  case atStart => exact ⟨0, Nat.zero_le _, rfl, Kept.refl _ _⟩
  case round =>
    obtain ⟨k, hk, rfl, hkr⟩ := hrel
    by_cases hlt : k < l.length
    · obtain ⟨ba, oa, csa, rfl, ra, xa⟩ := HA.out.atk k hlt
      obtain ⟨bb, ob, csb, rfl, rb, xb⟩ := HB.out.atk k hlt
      obtain ⟨t, ht⟩ : ∃ t, l[k] = t := ⟨_, rfl⟩
      rw [ht] at ra rb
      obtain ⟨t1, t2, t3, t4, t5, t6⟩ := t
      replace ra : csa = tickC (t1, t2, t3, t4, t5, t6) := ra
      replace rb : csb = tickC (t1, t2, t3, t4, t5, t6) := rb
      subst ra rb
      have HT : Hid (∀ w', Kept [] wr w' → Calls Tryz.prog 112 #[.agg #[.int .i64 t1, .int .i64 t2, .int .i64 t3, .int .i64 t4, .int .i64 t5, .int .i64 t6]] w' (RowRet (tickE (t1, t2, t3, t4, t5, t6)) w')) := fun w' _ => ticket06_any (t1, t2, t3, t4, t5, t6) w'
      have ya0 : ∀ w', Kept [] wr w' → w'.cell? ⟨ba, oa + k * 6, none⟩ = some (.int .i64 t1) := fun w' q => Kept.cellOf (xa 0 _ (by omega) rfl) w' (hkr.trans q)
      have ya1 : ∀ w', Kept [] wr w' → w'.cell? ⟨ba, oa + k * 6 + 1, none⟩ = some (.int .i64 t2) := fun w' q => Kept.cellOf (xa 1 _ (by omega) rfl) w' (hkr.trans q)
      have ya2 : ∀ w', Kept [] wr w' → w'.cell? ⟨ba, oa + k * 6 + 2, none⟩ = some (.int .i64 t3) := fun w' q => Kept.cellOf (xa 2 _ (by omega) rfl) w' (hkr.trans q)
      have ya3 : ∀ w', Kept [] wr w' → w'.cell? ⟨ba, oa + k * 6 + 3, none⟩ = some (.int .i64 t4) := fun w' q => Kept.cellOf (xa 3 _ (by omega) rfl) w' (hkr.trans q)
      have ya4 : ∀ w', Kept [] wr w' → w'.cell? ⟨ba, oa + k * 6 + 4, none⟩ = some (.int .i64 t5) := fun w' q => Kept.cellOf (xa 4 _ (by omega) rfl) w' (hkr.trans q)
      have ya5 : ∀ w', Kept [] wr w' → w'.cell? ⟨ba, oa + k * 6 + 5, none⟩ = some (.int .i64 t6) := fun w' q => Kept.cellOf (xa 5 _ (by omega) rfl) w' (hkr.trans q)
      have yb0 : ∀ w', Kept [] wr w' → w'.cell? ⟨bb, ob + k * 6, none⟩ = some (.int .i64 t1) := fun w' q => Kept.cellOf (xb 0 _ (by omega) rfl) w' (hkr.trans q)
      have yb1 : ∀ w', Kept [] wr w' → w'.cell? ⟨bb, ob + k * 6 + 1, none⟩ = some (.int .i64 t2) := fun w' q => Kept.cellOf (xb 1 _ (by omega) rfl) w' (hkr.trans q)
      have yb2 : ∀ w', Kept [] wr w' → w'.cell? ⟨bb, ob + k * 6 + 2, none⟩ = some (.int .i64 t3) := fun w' q => Kept.cellOf (xb 2 _ (by omega) rfl) w' (hkr.trans q)
      have yb3 : ∀ w', Kept [] wr w' → w'.cell? ⟨bb, ob + k * 6 + 3, none⟩ = some (.int .i64 t4) := fun w' q => Kept.cellOf (xb 3 _ (by omega) rfl) w' (hkr.trans q)
      have yb4 : ∀ w', Kept [] wr w' → w'.cell? ⟨bb, ob + k * 6 + 4, none⟩ = some (.int .i64 t5) := fun w' q => Kept.cellOf (xb 4 _ (by omega) rfl) w' (hkr.trans q)
      have yb5 : ∀ w', Kept [] wr w' → w'.cell? ⟨bb, ob + k * 6 + 5, none⟩ = some (.int .i64 t6) := fun w' q => Kept.cellOf (xb 5 _ (by omega) rfl) w' (hkr.trans q)
      clear xa xb ht
      go_upto_region 6 with (fail)
      go_region_held3 (fun w' => Kept [] wr w') (repeat (first | (with_reducible assumption) | (with_reducible exact Kept.refl _ _) | (with_reducible refine Kept.drew ?_) | (with_reducible refine Kept.alloc ?_ _)))
        (first
            | ((go_at_call 112; refine (HT.out _ (by (repeat (first | (with_reducible assumption) | (with_reducible exact Kept.refl _ _) | (with_reducible refine Kept.drew ?_) | (with_reducible refine Kept.alloc ?_ _))))).mono ?_; rintro e wN ⟨vN, rfl, hvN, hkN⟩; obtain ⟨aN, cN, rfl, _, _⟩ := hvN.form; have htN : Kept [] wr wN := Kept.trans (by (repeat (first | (with_reducible assumption) | (with_reducible exact Kept.refl _ _) | (with_reducible refine Kept.drew ?_) | (with_reducible refine Kept.alloc ?_ _)))) hkN))
            | ((go_at_call 37; refine (kept_from (W := wr) (by (repeat (first | (with_reducible assumption) | (with_reducible exact Kept.refl _ _) | (with_reducible refine Kept.drew ?_) | (with_reducible refine Kept.alloc ?_ _)))) (sameInts_eq (l := tickE (t1, t2, t3, t4, t5, t6)) (by (first | (with_reducible assumption) | (exact Row.kept (by with_reducible assumption) (by with_reducible assumption)) | (exact Row.kept (by with_reducible assumption) (Kept.drew (by with_reducible assumption))))) (by (first | (with_reducible assumption) | (exact Row.kept (by with_reducible assumption) (by with_reducible assumption)) | (exact Row.kept (by with_reducible assumption) (Kept.drew (by with_reducible assumption))))))).mono ?_; rintro e wS ⟨rfl, hkS⟩)))
      all_goals rename_i hHeld
      all_goals (go_wp2_with fail)
      all_goals go_roundw
      all_goals first | exact ⟨k + 1, by omega, by go_num, hkr.trans hHeld⟩ | (simp [intOf]; omega)
    · obtain rfl : k = l.length := by omega
      go_wp2_with fail
      go_ret
      exact ⟨rfl, hkr⟩

set_option maxRecDepth 100000 in
set_option maxHeartbeats 16000000 in
theorem sameRecord_eq (va vb : Value) (r : Rec) (w : World) (ha : RecV w va r) (hb : RecV w vb r) (hB : EncB r) :
    Calls Tryz.prog 47 #[va, vb] w fun e w' => e = .returned (.bool true) ∧ Kept [] w w' := by
  obtain ⟨_, _, _, _, _, _, _, _, _, rfl, htk, hsp, hlk, hcm, hch, hbt, hes, hda, han⟩ := ha
  obtain ⟨_, _, _, _, _, _, _, _, _, rfl, gtk, gsp, glk, gcm, gch, gbt, ges, gda, gan⟩ := hb
  obtain ⟨s0, d0, rfl, _, _⟩ := htk.form
  obtain ⟨t0, e0, rfl, _, _⟩ := gtk.form
  obtain ⟨s1, d1, rfl, _, _⟩ := hsp.form
  obtain ⟨t1, e1, rfl, _, _⟩ := gsp.form
  obtain ⟨s2, d2, rfl, _, _⟩ := hlk.form
  obtain ⟨t2, e2, rfl, _, _⟩ := glk.form
  obtain ⟨s3, d3, rfl, _, _⟩ := hcm.form
  obtain ⟨t3, e3, rfl, _, _⟩ := gcm.form
  obtain ⟨s4, d4, rfl, _, _⟩ := hch.form
  obtain ⟨t4, e4, rfl, _, _⟩ := gch.form
  obtain ⟨s5, d5, rfl, _, _⟩ := hbt.form
  obtain ⟨t5, e5, rfl, _, _⟩ := gbt.form
  obtain ⟨s6, d6, rfl, _, _⟩ := hes.form
  obtain ⟨t6, e6, rfl, _, _⟩ := ges.form
  obtain ⟨s7, d7, rfl, _, _⟩ := hda.form
  obtain ⟨t7, e7, rfl, _, _⟩ := gda.form
  obtain ⟨s8, d8, rfl, _, _⟩ := han.form
  obtain ⟨t8, e8, rfl, _, _⟩ := gan.form
  obtain ⟨W1, hW1⟩ : ∃ W, w.alloc (.cells #[.slice s0 r.tickets.length d0, .slice s1 r.spends.length d1, .slice s2 r.links.length d2, .slice s3 r.commits.length d3, .slice s4 r.chain.length d4, .slice s5 r.bits.length d5, .slice s6 r.escrow.length d6, .slice s7 r.proof.dares.length d7, .slice s8 r.proof.answers.length d8] 67) = W := ⟨_, rfl⟩
  obtain ⟨W, hW⟩ : ∃ W, W1.alloc (.cells #[.slice t0 r.tickets.length e0, .slice t1 r.spends.length e1, .slice t2 r.links.length e2, .slice t3 r.commits.length e3, .slice t4 r.chain.length e4, .slice t5 r.bits.length e5, .slice t6 r.escrow.length e6, .slice t7 r.proof.dares.length e7, .slice t8 r.proof.answers.length e8] 67) = W := ⟨_, rfl⟩
  have hs1 : W1.heap.size = w.heap.size + 1 := by rw [← hW1]; simp only [World.size_alloc]
  have b1 : Blk W1 w.heap.size 67 #[.slice s0 r.tickets.length d0, .slice s1 r.spends.length d1, .slice s2 r.links.length d2, .slice s3 r.commits.length d3, .slice s4 r.chain.length d4, .slice s5 r.bits.length d5, .slice s6 r.escrow.length d6, .slice s7 r.proof.dares.length d7, .slice s8 r.proof.answers.length d8] := hW1 ▸ Blk.new _ _ _
  have b2 : Blk W W1.heap.size 67 #[.slice t0 r.tickets.length e0, .slice t1 r.spends.length e1, .slice t2 r.links.length e2, .slice t3 r.commits.length e3, .slice t4 r.chain.length e4, .slice t5 r.bits.length e5, .slice t6 r.escrow.length e6, .slice t7 r.proof.dares.length e7, .slice t8 r.proof.answers.length e8] := hW ▸ Blk.new _ _ _
  have b1 : Blk W w.heap.size 67 #[.slice s0 r.tickets.length d0, .slice s1 r.spends.length d1, .slice s2 r.links.length d2, .slice s3 r.commits.length d3, .slice s4 r.chain.length d4, .slice s5 r.bits.length d5, .slice s6 r.escrow.length d6, .slice s7 r.proof.dares.length d7, .slice s8 r.proof.answers.length d8] := hW ▸ b1.alloc _
  rw [hs1] at b2
  have hk1 : Kept [] w W1 := hW1 ▸ (Kept.refl _ _).alloc _
  have hkW : Kept [] w W := hk1.trans (hW ▸ (Kept.refl _ _).alloc _)
  have KA0 : Hid (∀ w', Kept [] W w' → w'.cell? ⟨w.heap.size, 0, none⟩ = some (.slice s0 r.tickets.length d0)) := Kept.cellOf (b1.cell 0)
  have KB0 : Hid (∀ w', Kept [] W w' → w'.cell? ⟨w.heap.size + 1, 0, none⟩ = some (.slice t0 r.tickets.length e0)) := Kept.cellOf (b2.cell 0)
  have KA1 : Hid (∀ w', Kept [] W w' → w'.cell? ⟨w.heap.size, 1, none⟩ = some (.slice s1 r.spends.length d1)) := Kept.cellOf (b1.cell 1)
  have KB1 : Hid (∀ w', Kept [] W w' → w'.cell? ⟨w.heap.size + 1, 1, none⟩ = some (.slice t1 r.spends.length e1)) := Kept.cellOf (b2.cell 1)
  have KA2 : Hid (∀ w', Kept [] W w' → w'.cell? ⟨w.heap.size, 2, none⟩ = some (.slice s2 r.links.length d2)) := Kept.cellOf (b1.cell 2)
  have KB2 : Hid (∀ w', Kept [] W w' → w'.cell? ⟨w.heap.size + 1, 2, none⟩ = some (.slice t2 r.links.length e2)) := Kept.cellOf (b2.cell 2)
  have KA3 : Hid (∀ w', Kept [] W w' → w'.cell? ⟨w.heap.size, 3, none⟩ = some (.slice s3 r.commits.length d3)) := Kept.cellOf (b1.cell 3)
  have KB3 : Hid (∀ w', Kept [] W w' → w'.cell? ⟨w.heap.size + 1, 3, none⟩ = some (.slice t3 r.commits.length e3)) := Kept.cellOf (b2.cell 3)
  have KA4 : Hid (∀ w', Kept [] W w' → w'.cell? ⟨w.heap.size, 4, none⟩ = some (.slice s4 r.chain.length d4)) := Kept.cellOf (b1.cell 4)
  have KB4 : Hid (∀ w', Kept [] W w' → w'.cell? ⟨w.heap.size + 1, 4, none⟩ = some (.slice t4 r.chain.length e4)) := Kept.cellOf (b2.cell 4)
  have KA5 : Hid (∀ w', Kept [] W w' → w'.cell? ⟨w.heap.size, 5, none⟩ = some (.slice s5 r.bits.length d5)) := Kept.cellOf (b1.cell 5)
  have KB5 : Hid (∀ w', Kept [] W w' → w'.cell? ⟨w.heap.size + 1, 5, none⟩ = some (.slice t5 r.bits.length e5)) := Kept.cellOf (b2.cell 5)
  have KA6 : Hid (∀ w', Kept [] W w' → w'.cell? ⟨w.heap.size, 6, none⟩ = some (.slice s6 r.escrow.length d6)) := Kept.cellOf (b1.cell 6)
  have KB6 : Hid (∀ w', Kept [] W w' → w'.cell? ⟨w.heap.size + 1, 6, none⟩ = some (.slice t6 r.escrow.length e6)) := Kept.cellOf (b2.cell 6)
  have KA7 : Hid (∀ w', Kept [] W w' → w'.cell? ⟨w.heap.size, 7, none⟩ = some (.slice s7 r.proof.dares.length d7)) := Kept.cellOf (b1.cell 7)
  have KB7 : Hid (∀ w', Kept [] W w' → w'.cell? ⟨w.heap.size + 1, 7, none⟩ = some (.slice t7 r.proof.dares.length e7)) := Kept.cellOf (b2.cell 7)
  have KA8 : Hid (∀ w', Kept [] W w' → w'.cell? ⟨w.heap.size, 8, none⟩ = some (.slice s8 r.proof.answers.length d8)) := Kept.cellOf (b1.cell 8)
  have KB8 : Hid (∀ w', Kept [] W w' → w'.cell? ⟨w.heap.size + 1, 8, none⟩ = some (.slice t8 r.proof.answers.length e8)) := Kept.cellOf (b2.cell 8)
  have HA0 : Hid (RowOf TickR 6 W (.slice s0 r.tickets.length d0) r.tickets) := RowOf.kept htk (fun _ _ x => x) hkW
  have HB0 : Hid (RowOf TickR 6 W (.slice t0 r.tickets.length e0) r.tickets) := RowOf.kept gtk (fun _ _ x => x) hkW
  have HA1 : Hid (RowOf SpndR 2 W (.slice s1 r.spends.length d1) r.spends) := RowOf.kept hsp (fun _ _ x => SpndR.kept x hkW) hkW
  have HB1 : Hid (RowOf SpndR 2 W (.slice t1 r.spends.length e1) r.spends) := RowOf.kept gsp (fun _ _ x => SpndR.kept x hkW) hkW
  have HA2 : Hid (RowOf LnksR 1 W (.slice s2 r.links.length d2) r.links) := RowOf.kept hlk (fun _ _ x => LnksR.kept x hkW) hkW
  have HB2 : Hid (RowOf LnksR 1 W (.slice t2 r.links.length e2) r.links) := RowOf.kept glk (fun _ _ x => LnksR.kept x hkW) hkW
  have HA3 := Lib.hid (hcm.kept hkW)
  have HB3 := Lib.hid (gcm.kept hkW)
  have HA4 := Lib.hid (hch.kept hkW)
  have HB4 := Lib.hid (gch.kept hkW)
  have HA5 : Hid (RowOf ListR 1 W (.slice s5 r.bits.length d5) r.bits) := RowOf.kept hbt (fun _ _ x => ListR.kept x hkW) hkW
  have HB5 : Hid (RowOf ListR 1 W (.slice t5 r.bits.length e5) r.bits) := RowOf.kept gbt (fun _ _ x => ListR.kept x hkW) hkW
  have HA6 := Lib.hid (hes.kept hkW)
  have HB6 := Lib.hid (ges.kept hkW)
  have HA7 : Hid (RowOf ListR 1 W (.slice s7 r.proof.dares.length d7) r.proof.dares) := RowOf.kept hda (fun _ _ x => ListR.kept x hkW) hkW
  have HB7 : Hid (RowOf ListR 1 W (.slice t7 r.proof.dares.length e7) r.proof.dares) := RowOf.kept gda (fun _ _ x => ListR.kept x hkW) hkW
  have HA8 : Hid (RowOf ListsR 1 W (.slice s8 r.proof.answers.length d8) r.proof.answers) := RowOf.kept han (fun _ _ x => ListsR.kept x hkW) hkW
  have HB8 : Hid (RowOf ListsR 1 W (.slice t8 r.proof.answers.length e8) r.proof.answers) := RowOf.kept gan (fun _ _ x => ListsR.kept x hkW) hkW
  have HWW : Hid ((w.alloc (.cells #[.slice s0 r.tickets.length d0, .slice s1 r.spends.length d1, .slice s2 r.links.length d2, .slice s3 r.commits.length d3, .slice s4 r.chain.length d4, .slice s5 r.bits.length d5, .slice s6 r.escrow.length d6, .slice s7 r.proof.dares.length d7, .slice s8 r.proof.answers.length d8] 67)).alloc (.cells #[.slice t0 r.tickets.length e0, .slice t1 r.spends.length e1, .slice t2 r.links.length e2, .slice t3 r.commits.length e3, .slice t4 r.chain.length e4, .slice t5 r.bits.length e5, .slice t6 r.escrow.length e6, .slice t7 r.proof.dares.length e7, .slice t8 r.proof.answers.length e8] 67) = W) := by show _ = _; rw [hW1, hW]
  have hn1 : ((r.spends.length : Int) != (r.spends.length : Int)) = false := by simp
  have hn2 : ((r.links.length : Int) != (r.links.length : Int)) = false := by simp
  have HBB := Lib.hid hB
  clear hW hW1 b1 b2 hs1 hk1 hB htk gtk hsp gsp hlk glk hcm gcm hch gch hbt gbt hes ges hda gda han gan
  have ST := Lib.hid (sameTickets_eq _ _ _ W HA0.out HB0.out)
  have a0 := KA0.out W (Kept.refl _ _)
  have b0 := KB0.out W (Kept.refl _ _)
  go_enter Tryz.func47, Tryz.ntmps47
  go_upto_region 1 with (fail)
  rw [HWW.out]
  go_wp2_with (go_at_call 127; refine ST.out.mono ?_)
  rintro e w1 ⟨rfl, hk1⟩
  clear a0 b0
  have a1 := KA1.out w1 hk1
  have b1 := KB1.out w1 hk1
  have a2 := KA2.out w1 hk1
  have b2 := KB2.out w1 hk1
  go_wp2_with fail
  clear a1 b1 a2 b2
  go_loopw [5] (fun i wr => ∃ k : Nat, k ≤ r.spends.length ∧ i = .int .i64 k ∧ Kept [] W wr) (fun i _ => r.spends.length - (intOf i).toNat)
  case atStart => exact ⟨0, Nat.zero_le _, rfl, hk1⟩
  case round =>
    obtain ⟨k, hk, rfl, hkr⟩ := hrel
    have a1 := KA1.out wr hkr
    by_cases hlt : k < r.spends.length
    · obtain ⟨ba, oa, csa, rfl, ⟨ua, rfl, ra⟩, xa⟩ := HA1.out.atk k hlt
      obtain ⟨bb, ob, csb, rfl, ⟨ub, rfl, rb⟩, xb⟩ := HB1.out.atk k hlt
      have hfx := HBB.out.ok.l7
      have hspl : (r.spends[k]).2.length ≤ 100000000 := by
        have h1 := mid_len' (S1 r) spndE r.spends k hlt
        have h2 := (slens HBB.out.ok.l7).l2
        have h3 : (spndE r.spends[k]).length = (r.spends[k]).2.length + 2 := by simp [spndE, listE]
        unfold S2 at h2
        omega
      obtain ⟨x, hx⟩ : ∃ x, r.spends[k] = x := ⟨_, rfl⟩
      rw [hx] at ra rb xa xb hspl
      obtain ⟨dare, ans⟩ := x
      replace ra : Row W 1 ua ans.length (ints ans) := ra
      replace rb : Row W 1 ub ans.length (ints ans) := rb
      replace hspl : ans.length ≤ 100000000 := hspl
      obtain ⟨pa, ma, rfl, _, _⟩ := ra.form
      obtain ⟨pb, mb, rfl, _, _⟩ := rb.form
      have HTA : Hid (∀ w', Kept [] wr w' → Calls Tryz.prog 113 #[.agg #[.int .i64 dare, .slice pa ans.length ma]] w' (RowRet (spndE (dare, ans)) w')) := fun w' q => spend06_any (dare, ans) _ w' (ra.kept (hkr.trans q)) hspl
      have HTB : Hid (∀ w', Kept [] wr w' → Calls Tryz.prog 113 #[.agg #[.int .i64 dare, .slice pb ans.length mb]] w' (RowRet (spndE (dare, ans)) w')) := fun w' q => spend06_any (dare, ans) _ w' (rb.kept (hkr.trans q)) hspl
      have qa : ∀ w', Kept [] wr w' → w'.cell? ⟨w.heap.size, 1, none⟩ = some (.slice (some ⟨ba, oa, none⟩) r.spends.length d1) := fun w' q => KA1.out w' (hkr.trans q)
      have qb : ∀ w', Kept [] wr w' → w'.cell? ⟨w.heap.size + 1, 1, none⟩ = some (.slice (some ⟨bb, ob, none⟩) r.spends.length e1) := fun w' q => KB1.out w' (hkr.trans q)
      have ya0 : ∀ w', Kept [] wr w' → w'.cell? ⟨ba, oa + k * 2, none⟩ = some (.int .i64 dare) := fun w' q => Kept.cellOf (xa 0 _ (by omega) rfl) w' (hkr.trans q)
      have ya1 : ∀ w', Kept [] wr w' → w'.cell? ⟨ba, oa + k * 2 + 1, none⟩ = some (.slice pa ans.length ma) := fun w' q => Kept.cellOf (xa 1 _ (by omega) rfl) w' (hkr.trans q)
      have yb0 : ∀ w', Kept [] wr w' → w'.cell? ⟨bb, ob + k * 2, none⟩ = some (.int .i64 dare) := fun w' q => Kept.cellOf (xb 0 _ (by omega) rfl) w' (hkr.trans q)
      have yb1 : ∀ w', Kept [] wr w' → w'.cell? ⟨bb, ob + k * 2 + 1, none⟩ = some (.slice pb ans.length mb) := fun w' q => Kept.cellOf (xb 1 _ (by omega) rfl) w' (hkr.trans q)
      clear xa xb hx ra rb hspl hfx
      go_upto_region 6 with (fail)
      clear a1
      go_region_held3 (fun w' => Kept [] wr w') (repeat (first | (with_reducible assumption) | (with_reducible exact Kept.refl _ _) | (with_reducible refine Kept.drew ?_) | (with_reducible refine Kept.alloc ?_ _)))
        (first
            | ((go_at_call_of 113 (Value.agg #[Value.int IntKind.i64 dare, Value.slice pa ans.length ma]); refine (HTA.out _ (by (repeat (first | (with_reducible assumption) | (with_reducible exact Kept.refl _ _) | (with_reducible refine Kept.drew ?_) | (with_reducible refine Kept.alloc ?_ _))))).mono ?_; rintro e wN ⟨vN, rfl, hvN, hkN⟩; obtain ⟨aN, cN, rfl, _, _⟩ := hvN.form; have htN : Kept [] wr wN := Kept.trans (by (repeat (first | (with_reducible assumption) | (with_reducible exact Kept.refl _ _) | (with_reducible refine Kept.drew ?_) | (with_reducible refine Kept.alloc ?_ _)))) hkN))
            | ((go_at_call 113; refine (HTB.out _ (by (repeat (first | (with_reducible assumption) | (with_reducible exact Kept.refl _ _) | (with_reducible refine Kept.drew ?_) | (with_reducible refine Kept.alloc ?_ _))))).mono ?_; rintro e wN ⟨vN, rfl, hvN, hkN⟩; obtain ⟨aN, cN, rfl, _, _⟩ := hvN.form; have htN : Kept [] wr wN := Kept.trans (by (repeat (first | (with_reducible assumption) | (with_reducible exact Kept.refl _ _) | (with_reducible refine Kept.drew ?_) | (with_reducible refine Kept.alloc ?_ _)))) hkN))
            | ((go_at_call 37; refine (kept_from (W := wr) (by (repeat (first | (with_reducible assumption) | (with_reducible exact Kept.refl _ _) | (with_reducible refine Kept.drew ?_) | (with_reducible refine Kept.alloc ?_ _)))) (sameInts_eq (l := spndE (dare, ans)) (by (first | (with_reducible assumption) | (exact Row.kept (by with_reducible assumption) (by with_reducible assumption)) | (exact Row.kept (by with_reducible assumption) (Kept.drew (by with_reducible assumption))))) (by (first | (with_reducible assumption) | (exact Row.kept (by with_reducible assumption) (by with_reducible assumption)) | (exact Row.kept (by with_reducible assumption) (Kept.drew (by with_reducible assumption))))))).mono ?_; rintro e wS ⟨rfl, hkS⟩)))
      all_goals rename_i hHeld
      all_goals (go_wp2_with fail)
      all_goals go_roundw
      all_goals first | exact ⟨k + 1, by omega, by go_num, hkr.trans hHeld⟩ | (simp [intOf]; omega)
    · obtain rfl : k = r.spends.length := by omega
      have a2 := KA2.out wr hkr
      go_wp2_with fail
      clear a1 a2
      go_loopw [6, 7, 8, 9] (fun i _ _ _ wr => ∃ k : Nat, k ≤ r.links.length ∧ i = .int .i64 k ∧ Kept [] W wr) (fun i _ _ _ _ => r.links.length - (intOf i).toNat)
      case atStart => exact ⟨0, Nat.zero_le _, rfl, hkr⟩
      case round =>
        clear hkr hk1
        obtain ⟨k, hk, rfl, hkr⟩ := hrel
        have a2 := KA2.out wr hkr
        by_cases hlt : k < r.links.length
        · obtain ⟨ba, oa, ua, rfl, xa, v1, f1, hva⟩ := HA2.out.one k hlt
          obtain ⟨bb, ob, ub, rfl, xb, v2, f2, hvb⟩ := HB2.out.one k hlt
          injection f1 with f1
          injection f2 with f2
          subst f1 f2
          have hmem : ∀ x ∈ r.links[k], x.1.2.2.length ≤ 100000000 := fun x hx => by
            have h1 := mid_len' (S2 r) (manyE lnkE) (strip r.links) k (by unfold strip; rw [List.length_map]; exact hlt)
            have h2 := (slens HBB.out.ok.l7).l3
            have h3 : (strip r.links)[k]'(by unfold strip; rw [List.length_map]; exact hlt) = r.links[k].map Prod.fst := by show (r.links.map (List.map Prod.fst))[k]'(by simpa using hlt) = _; exact List.getElem_map _
            rw [h3] at h1
            have h4 : (lnkE x.1).length ≤ ((r.links[k].map Prod.fst).flatMap lnkE).length := by
              have := List.mem_map_of_mem (f := Prod.fst) hx
              obtain ⟨i, hi, he⟩ := List.getElem_of_mem this
              have h5 := take_flat_len lnkE (r.links[k].map Prod.fst) (i + 1)
              rw [take_flat _ _ _ hi, List.length_append, he] at h5
              omega
            have h6 : (lnkE x.1).length = x.1.2.2.length + 8 := by
              obtain ⟨⟨⟨_, _, _, _, _, _⟩, _, _⟩, _⟩ := x
              simp [lnkE, tickE, spndE, listE]
            unfold S3 at h2
            unfold manyE at h1
            simp only [List.length_cons] at h1
            unfold manyE at h2
            omega
          obtain ⟨X, hX⟩ : ∃ X, r.links[k] = X := ⟨_, rfl⟩
          rw [hX] at hva hvb hmem
          obtain ⟨pa, ma, rfl, _, _⟩ := hva.form
          obtain ⟨pb, mb, rfl, _, _⟩ := hvb.form
          have hne : ((X.length : Int) != (X.length : Int)) = false := by simp
          have YA : Hid (∀ w', Kept [] W w' → w'.cell? ⟨ba, oa + k, none⟩ = some (.slice pa X.length ma)) := Kept.cellOf xa
          have YB : Hid (∀ w', Kept [] W w' → w'.cell? ⟨bb, ob + k, none⟩ = some (.slice pb X.length mb)) := Kept.cellOf xb
          have HVA := Lib.hid hva
          have HVB := Lib.hid hvb
          have HME := Lib.hid hmem
          have b2 := KB2.out wr hkr
          have ya := YA.out wr hkr
          have yb := YB.out wr hkr
          clear hX hva hvb hmem xa xb
          go_upto_region 11 with (fail)
          go_quiet (fail)
          go_wp2_with fail
          clear a2 b2 ya yb hne
          go_loopw [7, 8, 9] (fun i _ _ wr => ∃ m : Nat, m ≤ X.length ∧ i = .int .i64 m ∧ Kept [] W wr) (fun i _ _ _ => X.length - (intOf i).toNat)
          case atStart => exact ⟨0, Nat.zero_le _, rfl, hkr.drewN _⟩
          case round =>
            clear hkr
            obtain ⟨m, hm, rfl, hkr⟩ := hrel
            have a2 := KA2.out wr hkr
            have ya := YA.out wr hkr
            by_cases hml : m < X.length
            · obtain ⟨b3, o3, csa, rfl, ⟨ua, rfl, ra⟩, xa⟩ := HVA.out.atk m hml
              obtain ⟨b4, o4, csb, rfl, ⟨ub, rfl, rb⟩, xb⟩ := HVB.out.atk m hml
              have hal := HME.out X[m] (List.getElem_mem hml)
              obtain ⟨x, hx⟩ : ∃ x, X[m] = x := ⟨_, rfl⟩
              rw [hx] at ra rb xa xb hal
              obtain ⟨⟨⟨t1, t2, t3, t4, t5, t6⟩, dare, ans⟩, term⟩ := x
              replace ra : Row W 1 ua ans.length (ints ans) := ra
              replace rb : Row W 1 ub ans.length (ints ans) := rb
              replace hal : ans.length ≤ 100000000 := hal
              obtain ⟨qa, na, rfl, _, _⟩ := ra.form
              obtain ⟨qb, nb, rfl, _, _⟩ := rb.form
              have c0 : wr.cell? ⟨b3, o3 + m * 9, none⟩ = some (.int .i64 t1) := Kept.cellOf (xa 0 _ (by omega) rfl) wr hkr
              have c1 : wr.cell? ⟨b3, o3 + m * 9 + 1, none⟩ = some (.int .i64 t2) := Kept.cellOf (xa 1 _ (by omega) rfl) wr hkr
              have c2 : wr.cell? ⟨b3, o3 + m * 9 + 2, none⟩ = some (.int .i64 t3) := Kept.cellOf (xa 2 _ (by omega) rfl) wr hkr
              have c3 : wr.cell? ⟨b3, o3 + m * 9 + 3, none⟩ = some (.int .i64 t4) := Kept.cellOf (xa 3 _ (by omega) rfl) wr hkr
              have c4 : wr.cell? ⟨b3, o3 + m * 9 + 4, none⟩ = some (.int .i64 t5) := Kept.cellOf (xa 4 _ (by omega) rfl) wr hkr
              have c5 : wr.cell? ⟨b3, o3 + m * 9 + 5, none⟩ = some (.int .i64 t6) := Kept.cellOf (xa 5 _ (by omega) rfl) wr hkr
              have c6 : wr.cell? ⟨b3, o3 + m * 9 + 6, none⟩ = some (.int .i64 dare) := Kept.cellOf (xa 6 _ (by omega) rfl) wr hkr
              have c7 : wr.cell? ⟨b3, o3 + m * 9 + 7, none⟩ = some (.slice qa ans.length na) := Kept.cellOf (xa 7 _ (by omega) rfl) wr hkr
              have c8 : wr.cell? ⟨b3, o3 + m * 9 + 8, none⟩ = some (.string ⟨term.toArray⟩) := Kept.cellOf (xa 8 _ (by omega) rfl) wr hkr
              go_upto_region 17 with (fail)
              clear c0 c1 c2 c3 c4 c5 c6 c7 c8 a2 ya
              obtain ⟨Y, hY⟩ : ∃ Y, wr.alloc (.cells #[.int .i64 t1, .int .i64 t2, .int .i64 t3, .int .i64 t4, .int .i64 t5, .int .i64 t6, .int .i64 dare, .slice qa ans.length na, .string ⟨term.toArray⟩] 138) = Y := ⟨_, rfl⟩
              obtain ⟨bx, hbx⟩ : ∃ b, wr.heap.size = b := ⟨_, rfl⟩
              have BX : Hid (Blk Y bx 138 #[.int .i64 t1, .int .i64 t2, .int .i64 t3, .int .i64 t4, .int .i64 t5, .int .i64 t6, .int .i64 dare, .slice qa ans.length na, .string ⟨term.toArray⟩]) := by show Blk _ _ _ _; rw [← hY, ← hbx]; exact Blk.new _ _ _
              have hkY : Kept [] W Y := hY ▸ hkr.alloc _
              rw [hY, hbx]
              have b2 := KB2.out Y hkY
              have yb := YB.out Y hkY
              have c0 : Y.cell? ⟨b4, o4 + m * 9, none⟩ = some (.int .i64 t1) := Kept.cellOf (xb 0 _ (by omega) rfl) Y hkY
              have c1 : Y.cell? ⟨b4, o4 + m * 9 + 1, none⟩ = some (.int .i64 t2) := Kept.cellOf (xb 1 _ (by omega) rfl) Y hkY
              have c2 : Y.cell? ⟨b4, o4 + m * 9 + 2, none⟩ = some (.int .i64 t3) := Kept.cellOf (xb 2 _ (by omega) rfl) Y hkY
              have c3 : Y.cell? ⟨b4, o4 + m * 9 + 3, none⟩ = some (.int .i64 t4) := Kept.cellOf (xb 3 _ (by omega) rfl) Y hkY
              have c4 : Y.cell? ⟨b4, o4 + m * 9 + 4, none⟩ = some (.int .i64 t5) := Kept.cellOf (xb 4 _ (by omega) rfl) Y hkY
              have c5 : Y.cell? ⟨b4, o4 + m * 9 + 5, none⟩ = some (.int .i64 t6) := Kept.cellOf (xb 5 _ (by omega) rfl) Y hkY
              have c6 : Y.cell? ⟨b4, o4 + m * 9 + 6, none⟩ = some (.int .i64 dare) := Kept.cellOf (xb 6 _ (by omega) rfl) Y hkY
              have c7 : Y.cell? ⟨b4, o4 + m * 9 + 7, none⟩ = some (.slice qb ans.length nb) := Kept.cellOf (xb 7 _ (by omega) rfl) Y hkY
              have c8 : Y.cell? ⟨b4, o4 + m * 9 + 8, none⟩ = some (.string ⟨term.toArray⟩) := Kept.cellOf (xb 8 _ (by omega) rfl) Y hkY
              clear hY hbx
              go_upto_region 18 with (fail)
              clear c0 c1 c2 c3 c4 c5 c6 c7 c8 b2 yb xa xb hx
              obtain ⟨Z, hZ⟩ : ∃ Z, Y.alloc (.cells #[.int .i64 t1, .int .i64 t2, .int .i64 t3, .int .i64 t4, .int .i64 t5, .int .i64 t6, .int .i64 dare, .slice qb ans.length nb, .string ⟨term.toArray⟩] 138) = Z := ⟨_, rfl⟩
              obtain ⟨by_, hby⟩ : ∃ b, Y.heap.size = b := ⟨_, rfl⟩
              have BY : Hid (Blk Z by_ 138 #[.int .i64 t1, .int .i64 t2, .int .i64 t3, .int .i64 t4, .int .i64 t5, .int .i64 t6, .int .i64 dare, .slice qb ans.length nb, .string ⟨term.toArray⟩]) := by show Blk _ _ _ _; rw [← hZ, ← hby]; exact Blk.new _ _ _
              have hkZ : Kept [] W Z := hZ ▸ hkY.alloc _
              replace BX : Hid (Blk Z bx 138 #[.int .i64 t1, .int .i64 t2, .int .i64 t3, .int .i64 t4, .int .i64 t5, .int .i64 t6, .int .i64 dare, .slice qa ans.length na, .string ⟨term.toArray⟩]) := by show Blk _ _ _ _; rw [← hZ]; exact BX.out.alloc _
              rw [hZ, hby]
              clear hZ hby hkY
              have ca0 : ∀ w', Kept [] Z w' → w'.cell? ⟨bx, 0, none⟩ = some (.int .i64 t1) := Kept.cellOf (BX.out.cell 0)
              have ca1 : ∀ w', Kept [] Z w' → w'.cell? ⟨bx, 1, none⟩ = some (.int .i64 t2) := Kept.cellOf (BX.out.cell 1)
              have ca2 : ∀ w', Kept [] Z w' → w'.cell? ⟨bx, 2, none⟩ = some (.int .i64 t3) := Kept.cellOf (BX.out.cell 2)
              have ca3 : ∀ w', Kept [] Z w' → w'.cell? ⟨bx, 3, none⟩ = some (.int .i64 t4) := Kept.cellOf (BX.out.cell 3)
              have ca4 : ∀ w', Kept [] Z w' → w'.cell? ⟨bx, 4, none⟩ = some (.int .i64 t5) := Kept.cellOf (BX.out.cell 4)
              have ca5 : ∀ w', Kept [] Z w' → w'.cell? ⟨bx, 5, none⟩ = some (.int .i64 t6) := Kept.cellOf (BX.out.cell 5)
              have ca6 : ∀ w', Kept [] Z w' → w'.cell? ⟨bx, 6, none⟩ = some (.int .i64 dare) := Kept.cellOf (BX.out.cell 6)
              have ca7 : ∀ w', Kept [] Z w' → w'.cell? ⟨bx, 7, none⟩ = some (.slice qa ans.length na) := Kept.cellOf (BX.out.cell 7)
              have ca8 : ∀ w', Kept [] Z w' → w'.cell? ⟨bx, 8, none⟩ = some (.string ⟨term.toArray⟩) := Kept.cellOf (BX.out.cell 8)
              have cb0 : ∀ w', Kept [] Z w' → w'.cell? ⟨by_, 0, none⟩ = some (.int .i64 t1) := Kept.cellOf (BY.out.cell 0)
              have cb1 : ∀ w', Kept [] Z w' → w'.cell? ⟨by_, 1, none⟩ = some (.int .i64 t2) := Kept.cellOf (BY.out.cell 1)
              have cb2 : ∀ w', Kept [] Z w' → w'.cell? ⟨by_, 2, none⟩ = some (.int .i64 t3) := Kept.cellOf (BY.out.cell 2)
              have cb3 : ∀ w', Kept [] Z w' → w'.cell? ⟨by_, 3, none⟩ = some (.int .i64 t4) := Kept.cellOf (BY.out.cell 3)
              have cb4 : ∀ w', Kept [] Z w' → w'.cell? ⟨by_, 4, none⟩ = some (.int .i64 t5) := Kept.cellOf (BY.out.cell 4)
              have cb5 : ∀ w', Kept [] Z w' → w'.cell? ⟨by_, 5, none⟩ = some (.int .i64 t6) := Kept.cellOf (BY.out.cell 5)
              have cb6 : ∀ w', Kept [] Z w' → w'.cell? ⟨by_, 6, none⟩ = some (.int .i64 dare) := Kept.cellOf (BY.out.cell 6)
              have cb7 : ∀ w', Kept [] Z w' → w'.cell? ⟨by_, 7, none⟩ = some (.slice qb ans.length nb) := Kept.cellOf (BY.out.cell 7)
              have cb8 : ∀ w', Kept [] Z w' → w'.cell? ⟨by_, 8, none⟩ = some (.string ⟨term.toArray⟩) := Kept.cellOf (BY.out.cell 8)
              have HT : Hid (∀ w', Kept [] Z w' → Calls Tryz.prog 112 #[.agg #[.int .i64 t1, .int .i64 t2, .int .i64 t3, .int .i64 t4, .int .i64 t5, .int .i64 t6]] w' (RowRet (tickE (t1, t2, t3, t4, t5, t6)) w')) := fun w' _ => ticket06_any (t1, t2, t3, t4, t5, t6) w'
              have HTA : Hid (∀ w', Kept [] Z w' → Calls Tryz.prog 113 #[.agg #[.int .i64 dare, .slice qa ans.length na]] w' (RowRet (spndE (dare, ans)) w')) := fun w' q => spend06_any (dare, ans) _ w' (ra.kept (hkZ.trans q)) hal
              have HTB : Hid (∀ w', Kept [] Z w' → Calls Tryz.prog 113 #[.agg #[.int .i64 dare, .slice qb ans.length nb]] w' (RowRet (spndE (dare, ans)) w')) := fun w' q => spend06_any (dare, ans) _ w' (rb.kept (hkZ.trans q)) hal
              clear ra rb hal BX BY
              go_region_held3 (fun w' => Kept [] Z w') (repeat (first | (with_reducible assumption) | (with_reducible exact Kept.refl _ _) | (with_reducible refine Kept.drew ?_) | (with_reducible refine Kept.alloc ?_ _)))
                (first
                  | ((go_at_call 112; refine (HT.out _ (by (repeat (first | (with_reducible assumption) | (with_reducible exact Kept.refl _ _) | (with_reducible refine Kept.drew ?_) | (with_reducible refine Kept.alloc ?_ _))))).mono ?_; rintro e wN ⟨vN, rfl, hvN, hkN⟩; obtain ⟨aN, cN, rfl, _, _⟩ := hvN.form; have htN : Kept [] Z wN := Kept.trans (by (repeat (first | (with_reducible assumption) | (with_reducible exact Kept.refl _ _) | (with_reducible refine Kept.drew ?_) | (with_reducible refine Kept.alloc ?_ _)))) hkN))
                  | ((go_at_call_of 113 (Value.agg #[Value.int IntKind.i64 dare, Value.slice qa ans.length na]); refine (HTA.out _ (by (repeat (first | (with_reducible assumption) | (with_reducible exact Kept.refl _ _) | (with_reducible refine Kept.drew ?_) | (with_reducible refine Kept.alloc ?_ _))))).mono ?_; rintro e wN ⟨vN, rfl, hvN, hkN⟩; obtain ⟨aN, cN, rfl, _, _⟩ := hvN.form; have htN : Kept [] Z wN := Kept.trans (by (repeat (first | (with_reducible assumption) | (with_reducible exact Kept.refl _ _) | (with_reducible refine Kept.drew ?_) | (with_reducible refine Kept.alloc ?_ _)))) hkN))
                  | ((go_at_call 113; refine (HTB.out _ (by (repeat (first | (with_reducible assumption) | (with_reducible exact Kept.refl _ _) | (with_reducible refine Kept.drew ?_) | (with_reducible refine Kept.alloc ?_ _))))).mono ?_; rintro e wN ⟨vN, rfl, hvN, hkN⟩; obtain ⟨aN, cN, rfl, _, _⟩ := hvN.form; have htN : Kept [] Z wN := Kept.trans (by (repeat (first | (with_reducible assumption) | (with_reducible exact Kept.refl _ _) | (with_reducible refine Kept.drew ?_) | (with_reducible refine Kept.alloc ?_ _)))) hkN))
                  | ((go_at_call 37; refine (kept_from (W := Z) (by (repeat (first | (with_reducible assumption) | (with_reducible exact Kept.refl _ _) | (with_reducible refine Kept.drew ?_) | (with_reducible refine Kept.alloc ?_ _)))) (sameInts_eq (l := tickE (t1, t2, t3, t4, t5, t6)) (by (first | (with_reducible assumption) | (exact Row.kept (by with_reducible assumption) (by with_reducible assumption)) | (exact Row.kept (by with_reducible assumption) (Kept.drew (by with_reducible assumption))))) (by (first | (with_reducible assumption) | (exact Row.kept (by with_reducible assumption) (by with_reducible assumption)) | (exact Row.kept (by with_reducible assumption) (Kept.drew (by with_reducible assumption))))))).mono ?_; rintro e wS ⟨rfl, hkS⟩))
                  | ((go_at_call 37; refine (kept_from (W := Z) (by (repeat (first | (with_reducible assumption) | (with_reducible exact Kept.refl _ _) | (with_reducible refine Kept.drew ?_) | (with_reducible refine Kept.alloc ?_ _)))) (sameInts_eq (l := spndE (dare, ans)) (by (first | (with_reducible assumption) | (exact Row.kept (by with_reducible assumption) (by with_reducible assumption)) | (exact Row.kept (by with_reducible assumption) (Kept.drew (by with_reducible assumption))))) (by (first | (with_reducible assumption) | (exact Row.kept (by with_reducible assumption) (by with_reducible assumption)) | (exact Row.kept (by with_reducible assumption) (Kept.drew (by with_reducible assumption))))))).mono ?_; rintro e wS ⟨rfl, hkS⟩)))
              all_goals rename_i hHeld
              all_goals (go_wp2_with fail)
              all_goals go_roundw
              all_goals first | exact ⟨m + 1, by omega, by go_num, hkZ.trans hHeld⟩ | (simp [intOf]; omega)
            · obtain rfl : m = X.length := by omega
              go_wp2_with fail
              go_roundw
              case rel => exact ⟨k + 1, by omega, by go_num, hkr⟩
              case measure => simp [intOf]; omega
        · obtain rfl : k = r.links.length := by omega
          have a3 := KA3.out wr hkr
          have b3 := KB3.out wr hkr
          have C3 := Lib.hid (sameInts_eq (HA3.out.kept hkr) (HB3.out.kept hkr))
          go_wp2_with (go_at_call 37; refine C3.out.mono ?_)
          rintro e y1 ⟨rfl, hy1⟩
          clear a3 b3 a2
          replace hy1 := hkr.trans hy1
          have a4 := KA4.out y1 hy1
          have b4 := KB4.out y1 hy1
          have C4 := Lib.hid (sameInts_eq (HA4.out.kept hy1) (HB4.out.kept hy1))
          go_wp2_with (go_at_call 37; refine C4.out.mono ?_)
          rintro e y2 ⟨rfl, hy2⟩
          clear a4 b4
          replace hy2 := hy1.trans hy2
          have a5 := KA5.out y2 hy2
          have b5 := KB5.out y2 hy2
          have C5 := Lib.hid (sameLists_eq _ _ _ _ (RowOf.kept HA5.out (fun _ _ x => ListR.kept x hy2) hy2) (RowOf.kept HB5.out (fun _ _ x => ListR.kept x hy2) hy2))
          go_wp2_with (go_at_call 128; refine C5.out.mono ?_)
          rintro e y3 ⟨rfl, hy3⟩
          clear a5 b5
          replace hy3 := hy2.trans hy3
          have a6 := KA6.out y3 hy3
          have b6 := KB6.out y3 hy3
          have C6 := Lib.hid (sameInts_eq (HA6.out.kept hy3) (HB6.out.kept hy3))
          go_wp2_with (go_at_call 37; refine C6.out.mono ?_)
          rintro e y4 ⟨rfl, hy4⟩
          clear a6 b6
          replace hy4 := hy3.trans hy4
          have a7 := KA7.out y4 hy4
          have b7 := KB7.out y4 hy4
          have a8 := KA8.out y4 hy4
          have b8 := KB8.out y4 hy4
          have C7 := Lib.hid (sameProof_eq _ _ _ _ r.proof y4 (RowOf.kept HA7.out (fun _ _ x => ListR.kept x hy4) hy4) (RowOf.kept HA8.out (fun _ _ x => ListsR.kept x hy4) hy4) (RowOf.kept HB7.out (fun _ _ x => ListR.kept x hy4) hy4) (RowOf.kept HB8.out (fun _ _ x => ListsR.kept x hy4) hy4))
          go_wp2_with (go_at_call 129; refine C7.out.mono ?_)
          rintro e y5 ⟨rfl, hy5⟩
          go_wp2_with fail
          go_ret
          exact ⟨rfl, hkW.trans (hy4.trans hy5)⟩
end Go.Proofs.YtpcdfepndmconaaGreatDoor
