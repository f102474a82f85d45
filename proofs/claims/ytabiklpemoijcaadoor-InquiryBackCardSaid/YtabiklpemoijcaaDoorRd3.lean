/- The reader's Text, Int, Done; OpenReader. -/
import Derived.Test.YtabiklpemoijcaaDoorRd2
namespace Go.Proofs.YtabiklpemoijcaaDoor
open Go.RowKit

/-- a reader's state fits memory -/
def Fits (r : Wire.Rd) : Prop := r.rest.length ≤ 1000000

theorem rd_number' {n : Int} {r1 : Wire.Rd} (b : Nat) (r : Wire.Rd) (e : UInt8) (least : Int) (hq : Wire.number e least r = (n, r1)) (w : World) (h : RdAt w b r) (hE : Env w) (hs : Fits r) :
    Calls Tryd.prog 86 #[.pointer (some ⟨b, 0, none⟩), .int .u8 (e.toNat : Int), .int .i64 least] w fun en w' =>
      en = .returned (.int .i64 n) ∧ RdAt w' b r1 ∧ Kept [b] w w' := by
  have := rd_number b r e least w h hE (by unfold Fits at hs; omega)
  rw [hq] at this
  exact this

theorem Env.keptR {w w' : World} {b : Nat} {r : Wire.Rd} (hE : Env w) (h : RdAt w b r) (k : Kept [b] w w') : Env w' :=
  hE.kept k (by intro x hx; rw [List.mem_singleton] at hx; subst hx; exact h.1)

set_option maxHeartbeats 400000 in
theorem rd_text_long (b : Nat) (r r1 : Wire.Rd) (n : Int) (hq : Hid (Wire.number 58 0 r = (n, r1))) (hlt : decide ((r1.rest.length : Int) < n) = true) (w : World) (h : RdAt w b r) (hE : Env w) (hs : Fits r) :
    Calls Tryd.prog 65 #[.pointer (some ⟨b, 0, none⟩)] w fun en w' => en = .returned (.string ⟨#[]⟩) ∧ RdAt w' b Wire.failed ∧ Kept [b] w w' := by
  go_enter Tryd.func65, Tryd.ntmps65
  go_wp2_with (go_at_call 86; refine (rd_number' b r 58 0 hq.out _ h hE hs).mono ?_)
  rintro e w1 ⟨rfl, h1, hk1⟩
  have c0 := h1.c0
  go_wp2_with (go_at_call 87; refine (rd_fail b r1 _ h1).mono ?_; rintro e w2 ⟨rfl, h2, hk2⟩)
  go_ret
  exact ⟨rfl, h2, hk1.trans hk2⟩

def txt (bd : Bool) (l : List UInt8) : ByteArray := if bd then ⟨#[]⟩ else ⟨l.toArray⟩

set_option maxHeartbeats 400000 in
theorem rd_text_bad (b : Nat) (r r1 r2 : Wire.Rd) (m : Nat) (hq : Hid (Wire.number 58 0 r = ((m : Int), r1))) (hm : m ≤ r1.rest.length) (_hf1 : Fits r1)
    (hc : Hid (Wire.close [44] ⟨r1.rest.drop m, r1.bad⟩ = r2)) (w : World) (h : RdAt w b r) (hE : Env w) (hs : Fits r) :
    Calls Tryd.prog 65 #[.pointer (some ⟨b, 0, none⟩)] w fun en w' => en = .returned (.string (txt r2.bad (r1.rest.take m))) ∧ RdAt w' b r2 ∧ Kept [b] w w' := by
  have hlt : decide ((r1.rest.length : Int) < (m : Int)) = false := by simp; omega
  have hx := pre_eq r1.rest m
  have hy := post_eq r1.rest m
  unfold Fits at _hf1
  go_enter Tryd.func65, Tryd.ntmps65
  go_wp2_with (go_at_call 86; refine (rd_number' b r 58 0 hq.out _ h hE hs).mono ?_)
  rintro e w1 ⟨rfl, h1, hk1⟩
  have c0 := h1.c0
  have f0 := h1.2.frozen 0
  go_wp2_with (go_at_call 88; refine (rd_close b ⟨r1.rest.drop m, r1.bad⟩ [44] _ (h1.set1 _)).mono ?_)
  rintro e w2 ⟨rfl, h2, hk2⟩
  rw [hc.out] at h2
  have d1 := h2.c1
  cases hb : r2.bad
  · rw [hb] at d1
    go_wp2
    go_ret
    exact ⟨by rw [hb]; rfl, h2, (hk1.setCell (by simp) _).trans hk2⟩
  · rw [hb] at d1
    go_wp2
    go_ret
    exact ⟨by rw [hb]; rfl, h2, (hk1.setCell (by simp) _).trans hk2⟩

theorem fits_number {e : UInt8} {least n : Int} {r r1 : Wire.Rd} (hq : Wire.number e least r = (n, r1)) (hs : Fits r) : Fits r1 := by
  have := Wire.number_rest_le e least r
  rw [hq] at this
  unfold Fits at *
  simp only at this
  omega
theorem fits_close {e : List UInt8} {r : Wire.Rd} (hs : Fits r) : Fits (Wire.close e r) := by
  have := Wire.close_rest_le e r
  unfold Fits at *
  omega

theorem rd_text (b : Nat) (r : Wire.Rd) (w : World) (h : RdAt w b r) (hE : Env w) (hs : Fits r) :
    Calls Tryd.prog 65 #[.pointer (some ⟨b, 0, none⟩)] w fun en w' =>
      en = .returned (.string ⟨(Wire.text r).1.toArray⟩) ∧ RdAt w' b (Wire.text r).2 ∧ Kept [b] w w' := by
  obtain ⟨n, r1, hq⟩ : ∃ n r1, Wire.number 58 0 r = (n, r1) := ⟨_, _, rfl⟩
  have hn0 : 0 ≤ n := by have := Wire.number_least 58 0 (by omega) r; rw [hq] at this; exact this
  obtain ⟨m, rfl⟩ := Int.eq_ofNat_of_zero_le hn0
  by_cases hlt : (r1.rest.length : Int) < (m : Int)
  · have e1 : Wire.text r = ([], Wire.failed) := by unfold Wire.text; rw [hq]; simp only; rw [if_pos hlt]
    rw [e1]
    exact rd_text_long b r r1 _ hq (by simpa using hlt) w h hE hs
  · refine (rd_text_bad b r r1 _ m hq (by omega) (fits_number hq hs) rfl w h hE hs).mono ?_
    rintro e w' ⟨rfl, h2, hk⟩
    have e1 : Wire.text r = (if (Wire.close [44] ⟨r1.rest.drop m, r1.bad⟩).bad then [] else r1.rest.take m, Wire.close [44] ⟨r1.rest.drop m, r1.bad⟩) := by
      unfold Wire.text; rw [hq]; simp only [Int.toNat_natCast]; rw [if_neg hlt]; split <;> rfl
    rw [e1]
    refine ⟨?_, h2, hk⟩
    unfold txt
    split <;> rfl

theorem fits_text {r : Wire.Rd} (hs : Fits r) : Fits (Wire.text r).2 ∧ Fits ⟨(Wire.text r).1, false⟩ := by
  obtain ⟨n, r1, hq⟩ : ∃ n r1, Wire.number 58 0 r = (n, r1) := ⟨_, _, rfl⟩
  have h1 := fits_number hq hs
  have h2 : Fits ⟨r1.rest.drop n.toNat, r1.bad⟩ := by unfold Fits at *; simp only [List.length_drop]; omega
  have h3 := fits_close (e := [44]) h2
  unfold Wire.text
  rw [hq]
  simp only
  split
  · exact ⟨by simp [Fits, Wire.failed], by simp [Fits]⟩
  · split
    · exact ⟨h3, by simp [Fits]⟩
    · exact ⟨h3, by unfold Fits at *; simp only [List.length_take]; omega⟩

set_option maxHeartbeats 400000 in
theorem rd_int (b : Nat) (r : Wire.Rd) (w : World) (h : RdAt w b r) (hE : Env w) (hs : Fits r) :
    Calls Tryd.prog 66 #[.pointer (some ⟨b, 0, none⟩)] w fun en w' =>
      en = .returned (.int .i64 (Wire.number 59 (-9223372036854775808) r).1) ∧ RdAt w' b (Wire.number 59 (-9223372036854775808) r).2 ∧ Kept [b] w w' := by
  obtain ⟨n, r1, hq⟩ : ∃ n r1, Wire.number 59 (-9223372036854775808) r = (n, r1) := ⟨_, _, rfl⟩
  rw [hq]
  have H := Lib.hid hq
  clear hq
  go_enter Tryd.func66, Tryd.ntmps66
  go_wp2_with (go_at_call 86; refine (rd_number' b r 59 _ H.out _ h hE hs).mono ?_)
  rintro e w1 ⟨rfl, h1, hk1⟩
  go_wp2
  go_ret
  exact ⟨rfl, h1, hk1⟩

set_option maxHeartbeats 400000 in
theorem rd_done (b : Nat) (r : Wire.Rd) (w : World) (h : RdAt w b r) :
    Calls Tryd.prog 67 #[.pointer (some ⟨b, 0, none⟩)] w fun en w' =>
      en = .returned (.bool (!r.bad && r.rest.isEmpty)) ∧ Kept [] w w' := by
  have c0 := h.c0
  have c1 := h.c1
  cases hb : r.bad
  · rw [hb] at c1
    go_enter Tryd.func67, Tryd.ntmps67
    go_wp2
    go_ret
    exact ⟨by simp, Kept.refl _ _⟩
  · rw [hb] at c1
    go_enter Tryd.func67, Tryd.ntmps67
    go_wp2
    go_ret
    exact ⟨by simp, Kept.refl _ _⟩

set_option maxHeartbeats 400000 in
theorem rd_open (s : List UInt8) (w : World) (hE : Env w) :
    Calls Tryd.prog 63 #[.string ⟨s.toArray⟩] w fun en w' =>
      en = .returned (.pointer (some ⟨w.heap.size, 0, none⟩)) ∧ RdAt w' w.heap.size ⟨s, false⟩ ∧ Kept [] w w' := by
  go_enter Tryd.func63, Tryd.ntmps63
  go_wp2
  go_ret
  exact ⟨rfl, ⟨hE.size, Blk.new _ _ _⟩, (Kept.refl _ _).alloc _⟩
end Go.Proofs.YtabiklpemoijcaaDoor
