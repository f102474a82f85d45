/- The encoding of an entry: body and Encode. -/
import Derived.Test.YtcidfldeiklcjaaGreatDoorSr4
import Derived.Test.YtcidfldeiklcjaaGreatDoorShaP
import Derived.Test.YtcidfldeiklcjaaGreatDoorRdS
import Derived.Deep.RegionHeld3
import Derived.Test.YtcidfldeiklcjaaGreatDoorKnu
/- JOINED: Num Rnum Seats Min Gov Gov2 Few Same Sane Sg1 Ebd -/
/- A number out of a hash: the program's and the reference's way. -/
namespace Go.Proofs.YtcidfldeiklcjaaGreatDoor
open Go.RowKit ShaP

theorem sha_length (s : List UInt8) : (sha s).length = 32 := by unfold sha; rw [flat_len4]; rfl
/-- the number of the first k bytes -/
def numK (N : Nat) (bs : List UInt8) : Nat → Nat
  | 0 => 0
  | k + 1 => addN N ((mulN N (numK N bs k : Nat) 256 : Nat) : Int) ((bs.getD k 0).toNat : Int)
theorem numK_lt (N : Nat) (bs : List UInt8) (k : Nat) (h : 1 ≤ N) : numK N bs k < N := by
  cases k with
  | zero => exact h
  | succ k => exact Nat.mod_lt _ (by omega)
theorem numMul_lt (N : Nat) (a b : Int) (h : 1 ≤ N) : mulN N a b < N := Nat.mod_lt _ (by omega)
def numN (N : Nat) (s : List UInt8) : Nat := numK N (sha s) 32

set_option maxRecDepth 100000 in
set_option maxHeartbeats 1600000 in
theorem number_any (N : Nat) (s : List UInt8) (w : World) (h1 : 1 ≤ N) (h2 : N < 2305843009213693952) (hl : s.length ≤ 100000000) :
    Calls Tryz.prog 56 #[.string ⟨s.toArray⟩, .int .i64 N] w fun e w' => e = .returned (.int .i64 (numN N s : Nat)) ∧ Kept [] w w' := by
  have V := Lib.hid (fvalid_any N w h1 h2)
  have HS := Lib.hid (sha_any s w hl)
  go_enter Tryz.func56, Tryz.ntmps56
  go_upto_region 4 with (go_at_call 91; refine V.out.mono ?_; rintro e w0 ⟨rfl, rfl⟩)
  go_wp2_with (go_at_call 92; refine HS.out.mono ?_)
  rintro e w1 ⟨rfl, k1⟩
  have hL := sha_length s
  obtain ⟨bs, hbs⟩ : ∃ b, sha s = b := ⟨_, rfl⟩
  rw [hbs] at hL ⊢
  have hcv := Lib.run_convert_string_bytes (P := Tryz.prog) w1 9 144 5 ⟨bs.toArray⟩ Tryz.underlying9 Tryz.underlying144 Tryz.underlying5
  have A0 := Lib.hid (Ap.conv w1 bs (by omega))
  have K0 : Hid (Kept [] w1 (Lib.bytesWorld w1 5 ⟨bs.toArray⟩)) := Kept.of_below (Lib.bytesWorld_below _ _ _)
  have HB := Lib.hid hbs
  have HL := Lib.hid hL
  clear hbs hL
  go_upto_region 5 with (fail)
  obtain ⟨W1, hW1⟩ : ∃ W1, Lib.bytesWorld w1 5 ⟨bs.toArray⟩ = W1 := ⟨_, rfl⟩
  rw [hW1] at A0 K0 ⊢
  clear hW1 hcv
  have KW := Lib.hid (k1.trans K0.out)
  obtain ⟨b, c, hv, _, hbl, hlc, hcm, hcs, _⟩ := A0.out.form
  injection hv with e1 e2 e3
  injection e1 with e1
  injection e1 with e1 _ _
  rw [← e3] at hlc hcm
  have CS : Hid (∀ wr, Kept [] W1 wr → ∀ j, j < bs.length → wr.cell? ⟨w1.heap.size, j, none⟩ = some (.int .u8 ((bs.getD j 0).toNat : Int))) := fun wr hk j hj => by
    have := hcs j hj
    rw [← e1] at this
    refine (hk.cell (p := ⟨w1.heap.size, j, none⟩) (by rw [e1]; exact hbl) (by simp)).trans (this.trans ?_)
    simp [List.getD, hj]
  clear e1 e2 e3 hcs A0 K0
  obtain ⟨n, hn⟩ : ∃ n, bs.length = n := ⟨_, rfl⟩
  obtain ⟨cp, hcp⟩ : ∃ x, grownCap w1 bs.length 0 5 = x := ⟨_, rfl⟩
  rw [hcp] at hlc hcm ⊢
  have hn32 : n ≤ 32 := by have := HL.out; omega
  rw [hn] at CS HL hlc ⊢
  clear hcp
  go_loopw [5, 7, 15] (fun v5 _ v15 wr => ∃ k : Nat, k ≤ n ∧ v15 = .int .i64 k ∧ v5 = .int .i64 (numK N bs k : Nat) ∧ Kept [] W1 wr) (fun _ _ v15 _ => n - (intOf v15).toNat)
  case atStart => exact ⟨0, by omega, rfl, rfl, Kept.refl _ _⟩
  case round =>
    obtain ⟨k, hk, rfl, rfl, hkr⟩ := hrel
    by_cases hlt : k < n
    · have xk := CS.out wr hkr k hlt
      have hs : numK N bs (k + 1) = addN N ((mulN N (numK N bs k : Nat) 256 : Nat) : Int) ((bs.getD k 0).toNat : Int) := rfl
      have l0 := numK_lt N bs k h1
      have l1 := numMul_lt N (numK N bs k : Nat) 256 h1
      have hc := (bs.getD k 0).toNat_lt
      obtain ⟨cb, hcb⟩ : ∃ x, (bs.getD k 0).toNat = x := ⟨_, rfl⟩
      rw [hcb] at xk hs hc
      obtain ⟨A, hA⟩ : ∃ x, numK N bs k = x := ⟨_, rfl⟩
      rw [hA] at l0 l1 hs ⊢
      have HM : Hid (∀ w, Calls Tryz.prog 90 #[.int .i64 N, .int .i64 A, .int .i64 256] w fun e w' => e = .returned (.int .i64 ((mulN N A 256 : Nat) : Int)) ∧ Kept [] w w') := fun w => fmul_any N A 256 w h1 h2 (by constructor <;> omega) (by constructor <;> omega)
      obtain ⟨M, hM⟩ : ∃ x, mulN N A 256 = x := ⟨_, rfl⟩
      rw [hM] at l1 hs HM
      have HA : Hid (∀ w, Calls Tryz.prog 89 #[.int .i64 N, .int .i64 M, .int .i64 cb] w fun e w' => e = .returned (.int .i64 ((addN N M cb : Nat) : Int)) ∧ Kept [] w w') := fun w => fadd_any N M cb w h1 h2 (by constructor <;> omega) (by constructor <;> omega)
      rw [← hs] at HA
      have hd : decide ((k : Int) < (n : Int)) = true := by simp; omega
      have iw : IntKind.i64.wrap (cb : Int) = (cb : Int) := by rw [IntKind.wrap_i64]; omega
      have HLT := Lib.hid hlt
      obtain ⟨S, hS⟩ : ∃ x, numK N bs (k + 1) = x := ⟨_, rfl⟩
      rw [hS] at HA
      have HSS := Lib.hid hS
      clear hcb hs hA hM hS hc
      go_wp2_with (first
        | (go_at_call 90; with_reducible refine (HM.out _).mono ?_; rintro e w5 ⟨rfl, k5⟩)
        | (go_at_call 89; with_reducible refine (HA.out _).mono ?_; rintro e w6 ⟨rfl, k6⟩))
      go_roundw
      case rel => exact ⟨k + 1, by omega, by go_num, by rw [HSS.out], hkr.trans (k5.trans k6)⟩
      case measure => simp [intOf]; omega
    · obtain rfl : k = n := by omega
      have hd : decide ((k : Int) < (k : Int)) = false := by simp
      go_wp2_with fail
      go_ret
      refine ⟨?_, KW.out.trans hkr⟩
      unfold numN
      rw [HB.out, HL.out]
      rfl
end Go.Proofs.YtcidfldeiklcjaaGreatDoor
/- A number out of a hash, as the reference makes it. -/
namespace Go.Proofs.YtcidfldeiklcjaaGreatDoor
open Go.RowKit ShaP

end Go.Proofs.YtcidfldeiklcjaaGreatDoor
/- inquiry.Seats. -/
namespace Go.Proofs.YtcidfldeiklcjaaGreatDoor
open Go.RowKit

end Go.Proofs.YtcidfldeiklcjaaGreatDoor
/- inquiry.Minutes, ReadMinutes; cloakref10.SameOpening. -/
namespace Go.Proofs.YtcidfldeiklcjaaGreatDoor
open Go.RowKit

end Go.Proofs.YtcidfldeiklcjaaGreatDoor
/- Lists of statutes: governing, Governs. -/
namespace Go.Proofs.YtcidfldeiklcjaaGreatDoor
open Go.RowKit

/-! ### governing -/
end Go.Proofs.YtcidfldeiklcjaaGreatDoor
/- Governs, the example statute, a list of one statute. -/
namespace Go.Proofs.YtcidfldeiklcjaaGreatDoor
open Go.RowKit

theorem Row.of_blk {w : World} {b : Nat} {T : TypeId} {size n : Nat} {cs : List Value} (h : Blk w b T cs.toArray) (hl : cs.length = n * size) (hn : n ≤ 9223372036854775807) :
    Row w size (.slice (some ⟨b, 0, none⟩) n n) n cs := by
  refine ⟨hl, hn, _, _, rfl, Nat.le_refl _, fun _ => ⟨_, _, rfl, fun k u hu => ?_⟩⟩
  rw [Nat.zero_add, h.cell k]
  simpa using hu

end Go.Proofs.YtcidfldeiklcjaaGreatDoor
/- The documents' bounds on statutes: FewStatutes. -/
namespace Go.Proofs.YtcidfldeiklcjaaGreatDoor
open Go.RowKit

end Go.Proofs.YtcidfldeiklcjaaGreatDoor
/- SameOpening. -/
namespace Go.Proofs.YtcidfldeiklcjaaGreatDoor
open Go.RowKit

end Go.Proofs.YtcidfldeiklcjaaGreatDoor
/- The example of the law: sane. -/
namespace Go.Proofs.YtcidfldeiklcjaaGreatDoor
open Go.RowKit

theorem row2 (w : World) (x y : Int) (T : TypeId) : Row (w.alloc (.cells #[.int .i64 x, .int .i64 y] T)) 1 (.slice (some ⟨w.heap.size, 0, none⟩) 2 2) [x, y].length (ints [x, y]) := Row.of_blk (Blk.new w T #[.int .i64 x, .int .i64 y]) rfl (by decide)

end Go.Proofs.YtcidfldeiklcjaaGreatDoor
/- Signatures: an exponent of a setup; the challenge. -/
namespace Go.Proofs.YtcidfldeiklcjaaGreatDoor
open Go.RowKit ShaP

def expoB (s : Stp) (n : Int) : Bool := decide (0 ≤ n) && decide (n < s.Q)

set_option maxRecDepth 100000 in
theorem exponent_any (v : Value) (s : Stp) (n : Int) (w : World) (h : StpV w v s) :
    Calls Tryz.prog 86 #[v, .int .i64 n] w fun e w' => e = .returned (.bool (expoB s n)) ∧ Kept [] w w' := by
  obtain ⟨⟨a, c, rfl, hrow⟩, ip, iq, ig, ib, il⟩ := h
  obtain ⟨W, hW⟩ : ∃ W, w.alloc (.cells (stpA s (.slice a s.bases.length c)) 26) = W := ⟨_, rfl⟩
  have hb : Blk W w.heap.size 26 (stpA s (.slice a s.bases.length c)) := hW ▸ Blk.new _ _ _
  have hkW : Kept [] w W := hW ▸ (Kept.refl _ _).alloc _
  have e1 : W.cell? ⟨w.heap.size, 1, none⟩ = some (.int .i64 s.Q) := hb.cell 1
  have HW := Lib.hid hW
  unfold expoB
  clear hb hW hrow ib
  by_cases h0 : 0 ≤ n
  · rw [decide_eq_true h0, Bool.true_and]
    have d0 : decide (0 ≤ n) = true := by simpa using h0
    go_enter Tryz.func86, Tryz.ntmps86
    go_upto_region 1 with (fail)
    rw [HW.out]
    go_wp2_with fail
    go_ret
    exact ⟨rfl, hkW⟩
  · rw [decide_eq_false h0, Bool.false_and]
    have d0 : decide (0 ≤ n) = false := by simpa using h0
    go_enter Tryz.func86, Tryz.ntmps86
    go_upto_region 1 with (fail)
    rw [HW.out]
    go_wp2_with fail
    go_ret
    exact ⟨rfl, hkW⟩

theorem nums2_len (x y : Int) (hx : Wire.I64 x) (hy : Wire.I64 y) : (Wire.numsE [x, y]).length ≤ 100 := by
  have h1 := flat_len [x, y] (by intro z hz; simp only [List.mem_cons, List.not_mem_nil, or_false] at hz; rcases hz with rfl | rfl <;> assumption)
  have := Wire.itoa_len (2 : Int) ⟨by omega, by omega⟩
  simp only [Wire.numsE, Wire.listE, List.length_append, List.length_cons, List.length_nil] at h1 this ⊢
  simp only [show ((0 + 1 + 1 : Nat) : Int) = 2 from rfl] at *
  omega
/-- the text that a challenge hashes -/
def chaE (msg : List UInt8) (pub a : Int) : List UInt8 := Wire.textE msg ++ Wire.numsE [pub, a]

set_option maxRecDepth 100000 in
set_option maxHeartbeats 1600000 in
theorem challenge_any (v : Value) (s : Stp) (q : Nat) (pub a : Int) (msg : List UInt8) (w : World) (h : StpV w v s) (hq : s.Q = q) (h1 : 1 ≤ q) (h2 : q < 2305843009213693952)
    (hp : Wire.I64 pub) (ha : Wire.I64 a) (hm : msg.length ≤ 50000000) (hE : Env w) :
    Calls Tryz.prog 87 #[v, .int .i64 pub, .int .i64 a, .string ⟨msg.toArray⟩] w fun e w' => e = .returned (.int .i64 (numN q (chaE msg pub a) : Nat)) ∧ Kept [] w w' := by
  obtain ⟨⟨ad, c, rfl, hrow⟩, ip, iq, ig, ib, il⟩ := h
  obtain ⟨W, hW⟩ : ∃ W, w.alloc (.cells (stpA s (.slice ad s.bases.length c)) 26) = W := ⟨_, rfl⟩
  have hb : Blk W w.heap.size 26 (stpA s (.slice ad s.bases.length c)) := hW ▸ Blk.new _ _ _
  have hkW : Kept [] w W := hW ▸ (Kept.refl _ _).alloc _
  have k1 : ∀ w', Kept [] W w' → w'.cell? ⟨w.heap.size, 1, none⟩ = some (.int .i64 s.Q) := Kept.cellOf (hb.cell 1)
  rw [hq] at k1
  have hEW := hE.kept0 hkW
  have HW := Lib.hid hW
  have h3 : ∀ x ∈ [pub, a], Wire.I64 x := by
    intro x hx
    simp only [List.mem_cons, List.not_mem_nil, or_false] at hx
    rcases hx with rfl | rfl
    · exact hp
    · exact ha
  have l0 := nums2_len pub a hp ha
  have l1 := Wire.itoa_len msg.length ⟨by omega, by omega⟩
  have l2 : (Wire.textE msg).length ≤ 50000030 := by simp only [Wire.textE, List.length_append, List.length_singleton]; omega
  have s1 : ¬ 9223372036854775807 < (Wire.textE msg).length + (Wire.numsE [pub, a]).length := by omega
  have NM := fun w => Lib.hid (number_any q (chaE msg pub a) w h1 h2 (by unfold chaE; rw [List.length_append]; omega))
  unfold chaE at NM ⊢
  clear l0 l1 l2 hb hW hrow ib
  have hcat := bcat
  go_enter Tryz.func87, Tryz.ntmps87
  go_upto_region 1 with (fail)
  have hW' : w.alloc (.cells (stpA s (.slice ad s.bases.length c)) 26) = W := HW.out
  rw [hW']
  clear hW' HW
  go_region_held3 (fun w' => Kept [] W w') (first | assumption | exact (Kept.refl _ _).drew | exact Kept.alloc (by assumption) _)
    (first
      | (go_at_call 85; refine (text_any msg _ (by omega) (by exact hEW.kept0 (by assumption))).mono ?_; rintro e w2 ⟨rfl, hkx⟩; have hk2 : Kept [] W w2 := Kept.trans (by assumption) hkx)
      | (go_at_call 84; refine (kept_from (W := W) (by assumption) (nums_any _ [pub, a] _ (by first | exact row2 _ _ _ _ | exact (row2 _ _ _ _).drew | exact (row2 _ _ _ _).kept hkx | exact (row2 _ _ _ _).drew.kept hkx) (by exact hEW.kept0 (by assumption)) (by simp) (by exact h3))).mono ?_; rintro e w3 ⟨rfl, hk3⟩)
      | (go_at_call 56; refine (kept_from (W := W) (by assumption) (NM _).out).mono ?_; rintro e w4 ⟨rfl, hk4⟩))
  all_goals go_wp2_with fail
  all_goals (
    go_ret
    exact ⟨rfl, hkW.trans hk4⟩)
end Go.Proofs.YtcidfldeiklcjaaGreatDoor
namespace Go.Proofs.YtcidfldeiklcjaaGreatDoor
open Go.RowKit Tm

/-- an entry that is handed over by value -/
def EntA (w : World) (v : Value) (e : Ent) : Prop := ∃ u, v = .agg (entC e u).toArray ∧ Row w 1 u e.nums.length (ints e.nums)
theorem EntA.kept {w w' : World} {v : Value} {e : Ent} (h : EntA w v e) (k : Kept [] w w') : EntA w' v e := by obtain ⟨u, h1, h2⟩ := h; exact ⟨u, h1, h2.kept k⟩
theorem row4e (w : World) (x y z u : Int) (T : TypeId) : Row (w.alloc (.cells #[.int .i64 x, .int .i64 y, .int .i64 z, .int .i64 u] T)) 1 (.slice (some ⟨w.heap.size, 0, none⟩) 4 4) 4 (ints [x, y, z, u]) := by
  refine ⟨rfl, by omega, _, _, rfl, by omega, fun _ => ⟨_, _, rfl, fun k v hv => ?_⟩⟩
  rw [Nat.zero_add]
  have := (Blk.new w T #[.int .i64 x, .int .i64 y, .int .i64 z, .int .i64 u]).cell k
  rw [this]
  simpa [ints] using hv
theorem bodyE_len (e : Ent) (h : EntI e) : (bodyE e).length ≤ 6000000 := by
  have h4 : ∀ x ∈ [e.gate, e.no, e.time, e.kind], Wire.I64 x := by
    intro x hx
    simp only [List.mem_cons, List.not_mem_nil, or_false] at hx
    rcases hx with rfl | rfl | rfl | rfl
    · exact h.h0
    · exact h.h1
    · exact h.h2
    · exact h.h3
  have l0 := flat_len [e.gate, e.no, e.time, e.kind] h4
  have l1 := flat_len e.nums h.h4
  have t1 := h.l4
  have t2 := h.l5
  have i0 := Wire.itoa_len ((4 : Nat) : Int) ⟨by omega, by omega⟩
  have i1 := Wire.itoa_len (e.nums.length : Int) ⟨by omega, by omega⟩
  have i2 := Wire.itoa_len (e.text.length : Int) ⟨by omega, by omega⟩
  unfold bodyE Wire.numsE Wire.textE Wire.listE
  simp only [List.length_append, List.length_cons, List.length_nil] at *
  simp only [show (0 + 1 + 1 + 1 + 1 : Nat) = 4 from rfl] at *
  omega

set_option maxRecDepth 100000 in
set_option maxHeartbeats 1600000 in
theorem body_any (v : Value) (e : Ent) (w : World) (h : EntA w v e) (hi : EntI e) (hE : Env w) :
    Calls Tryz.prog 53 #[v] w fun en w' => en = .returned (.string ⟨(bodyE e).toArray⟩) ∧ Kept [] w w' := by
  obtain ⟨js, rfl, hrow⟩ := h
  obtain ⟨W, hW⟩ : ∃ W, w.alloc (.cells (entC e js).toArray 52) = W := ⟨_, rfl⟩
  have hb : Blk W w.heap.size 52 (entC e js).toArray := hW ▸ Blk.new _ _ _
  have hkW : Kept [] w W := hW ▸ (Kept.refl _ _).alloc _
  have hEW := hE.kept0 hkW
  have k0 : ∀ w', Kept [] W w' → w'.cell? ⟨w.heap.size, 0, none⟩ = some (.int .i64 e.gate) := Kept.cellOf (hb.cell 0)
  have k1 : ∀ w', Kept [] W w' → w'.cell? ⟨w.heap.size, 1, none⟩ = some (.int .i64 e.no) := Kept.cellOf (hb.cell 1)
  have k2 : ∀ w', Kept [] W w' → w'.cell? ⟨w.heap.size, 2, none⟩ = some (.int .i64 e.time) := Kept.cellOf (hb.cell 2)
  have k3 : ∀ w', Kept [] W w' → w'.cell? ⟨w.heap.size, 3, none⟩ = some (.int .i64 e.kind) := Kept.cellOf (hb.cell 3)
  have k4 : ∀ w', Kept [] W w' → w'.cell? ⟨w.heap.size, 4, none⟩ = some js := Kept.cellOf (hb.cell 4)
  have k5 : ∀ w', Kept [] W w' → w'.cell? ⟨w.heap.size, 5, none⟩ = some (.string ⟨e.text.toArray⟩) := Kept.cellOf (hb.cell 5)
  have hrowW := hrow.kept hkW
  have h4 : ∀ x ∈ [e.gate, e.no, e.time, e.kind], Wire.I64 x := by
    intro x hx
    simp only [List.mem_cons, List.not_mem_nil, or_false] at hx
    rcases hx with rfl | rfl | rfl | rfl
    · exact hi.h0
    · exact hi.h1
    · exact hi.h2
    · exact hi.h3
  have hl4 := hi.l4
  have hl5 := hi.l5
  have l0 := bodyE_len e hi
  have LB : (bodyE e).length = (Wire.numsE [e.gate, e.no, e.time, e.kind]).length + ((Wire.numsE e.nums).length + (Wire.textE e.text).length) := by unfold bodyE; simp only [List.length_append]
  have s1 : ¬ 9223372036854775807 < (Wire.numsE [e.gate, e.no, e.time, e.kind]).length + (Wire.numsE e.nums).length := by omega
  have s2 : ¬ 9223372036854775807 < (Wire.numsE [e.gate, e.no, e.time, e.kind]).length + ((Wire.numsE e.nums).length + (Wire.textE e.text).length) := by omega
  have s3 : ¬ 9223372036854775807 < (Wire.numsE [e.gate, e.no, e.time, e.kind]).length + (Wire.numsE e.nums).length + (Wire.textE e.text).length := by omega
  have H4 := Lib.hid h4
  have HI := Lib.hid hi
  clear l0 LB h4 hi hE hb hrow
  have hcat := bcat
  have HW := Lib.hid hW
  show Calls _ _ #[.agg #[.int .i64 e.gate, .int .i64 e.no, .int .i64 e.time, .int .i64 e.kind, js, .string ⟨e.text.toArray⟩, .int .i64 e.c, .int .i64 e.s]] _ _
  go_enter Tryz.func53, Tryz.ntmps53
  go_wp2_with fail
  have hW' : w.alloc (.cells #[.int .i64 e.gate, .int .i64 e.no, .int .i64 e.time, .int .i64 e.kind, js, .string ⟨e.text.toArray⟩, .int .i64 e.c, .int .i64 e.s] 52) = W := HW.out
  rw [hW']
  clear hW hW'
  go_region_held3 (fun w' => Kept [] W w') (first | assumption | exact (Kept.refl _ _).drew | exact Kept.alloc (by assumption) _)
    (first
      | (go_at_call_of 84 js; refine (kept_from (W := W) (by assumption) (nums_any js e.nums _ (by exact hrowW.kept (by assumption)) (by exact hEW.kept0 (by assumption)) (by omega) HI.out.h4)).mono ?_; rintro e2 w2 ⟨rfl, hk2⟩)
      | (go_at_call 84; refine (kept_from (W := W) (by assumption) (nums_any _ [e.gate, e.no, e.time, e.kind] _ (by exact (row4e _ _ _ _ _ _).drew) (by exact hEW.kept0 (by assumption)) (by simp) (by exact H4.out))).mono ?_; rintro e2 w2 ⟨rfl, hk2⟩)
      | (go_at_call 85; refine (kept_from (W := W) (by assumption) (text_any e.text _ (by omega) (by exact hEW.kept0 (by assumption)))).mono ?_; rintro e2 w3 ⟨rfl, hk3⟩))
  go_wp2
  go_ret
  exact ⟨by simp [bodyE], hkW.trans hk3⟩

set_option maxRecDepth 100000 in
set_option maxHeartbeats 1600000 in
theorem encode_any (v : Value) (e : Ent) (w : World) (h : EntA w v e) (hi : EntI e) (hE : Env w) :
    Calls Tryz.prog 77 #[v] w fun en w' => en = .returned (.string ⟨(encE e).toArray⟩) ∧ Kept [] w w' := by
  have hh := h
  obtain ⟨js, rfl, hrow⟩ := h
  obtain ⟨W, hW⟩ : ∃ W, w.alloc (.cells (entC e js).toArray 52) = W := ⟨_, rfl⟩
  have hb : Blk W w.heap.size 52 (entC e js).toArray := hW ▸ Blk.new _ _ _
  have hkW : Kept [] w W := hW ▸ (Kept.refl _ _).alloc _
  have hEW := hE.kept0 hkW
  have k0 : ∀ w', Kept [] W w' → w'.cell? ⟨w.heap.size, 0, none⟩ = some (.int .i64 e.gate) := Kept.cellOf (hb.cell 0)
  have k1 : ∀ w', Kept [] W w' → w'.cell? ⟨w.heap.size, 1, none⟩ = some (.int .i64 e.no) := Kept.cellOf (hb.cell 1)
  have k2 : ∀ w', Kept [] W w' → w'.cell? ⟨w.heap.size, 2, none⟩ = some (.int .i64 e.time) := Kept.cellOf (hb.cell 2)
  have k3 : ∀ w', Kept [] W w' → w'.cell? ⟨w.heap.size, 3, none⟩ = some (.int .i64 e.kind) := Kept.cellOf (hb.cell 3)
  have k4 : ∀ w', Kept [] W w' → w'.cell? ⟨w.heap.size, 4, none⟩ = some js := Kept.cellOf (hb.cell 4)
  have k5 : ∀ w', Kept [] W w' → w'.cell? ⟨w.heap.size, 5, none⟩ = some (.string ⟨e.text.toArray⟩) := Kept.cellOf (hb.cell 5)
  have k6 : ∀ w', Kept [] W w' → w'.cell? ⟨w.heap.size, 6, none⟩ = some (.int .i64 e.c) := Kept.cellOf (hb.cell 6)
  have k7 : ∀ w', Kept [] W w' → w'.cell? ⟨w.heap.size, 7, none⟩ = some (.int .i64 e.s) := Kept.cellOf (hb.cell 7)
  have hA : EntA W (.agg #[.int .i64 e.gate, .int .i64 e.no, .int .i64 e.time, .int .i64 e.kind, js, .string ⟨e.text.toArray⟩, .int .i64 e.c, .int .i64 e.s]) e := hh.kept hkW
  have BD : Hid (∀ w', Kept [] W w' → Calls Tryz.prog 53 #[.agg #[.int .i64 e.gate, .int .i64 e.no, .int .i64 e.time, .int .i64 e.kind, js, .string ⟨e.text.toArray⟩, .int .i64 e.c, .int .i64 e.s]] w' fun en w2 => en = .returned (.string ⟨(bodyE e).toArray⟩) ∧ Kept [] w' w2) :=
    fun w' k => body_any _ e w' (hA.kept k) hi (hEW.kept0 k)
  have h2 : ∀ x ∈ [e.c, e.s], Wire.I64 x := by
    intro x hx
    simp only [List.mem_cons, List.not_mem_nil, or_false] at hx
    rcases hx with rfl | rfl
    · exact hi.h5
    · exact hi.h6
  have l0 := bodyE_len e hi
  have l1 := nums2_len e.c e.s hi.h5 hi.h6
  have s1 : ¬ 9223372036854775807 < (bodyE e).length + (Wire.numsE [e.c, e.s]).length := by omega
  have H2 := Lib.hid h2
  clear l0 l1 h2 hi hE hb hrow hA hh
  have hcat := bcat
  have HW := Lib.hid hW
  unfold encE
  show Calls _ _ #[.agg #[.int .i64 e.gate, .int .i64 e.no, .int .i64 e.time, .int .i64 e.kind, js, .string ⟨e.text.toArray⟩, .int .i64 e.c, .int .i64 e.s]] _ _
  go_enter Tryz.func77, Tryz.ntmps77
  go_wp2_with fail
  have hW' : w.alloc (.cells #[.int .i64 e.gate, .int .i64 e.no, .int .i64 e.time, .int .i64 e.kind, js, .string ⟨e.text.toArray⟩, .int .i64 e.c, .int .i64 e.s] 52) = W := HW.out
  rw [hW']
  clear hW hW'
  go_region_held3 (fun w' => Kept [] W w') (first | assumption | exact (Kept.refl _ _).drew | exact Kept.alloc (by assumption) _)
    (first
      | (go_at_call 53; with_reducible refine (BD.out _ (by assumption)).mono ?_; rintro e2 w2 ⟨rfl, hkx⟩; have hk2' : Kept [] W w2 := Kept.trans (by assumption) hkx)
      | (go_at_call 84; refine (kept_from (W := W) (by assumption) (nums_any _ [e.c, e.s] _ (by first | exact row2 _ _ _ _ | exact (row2 _ _ _ _).drew | exact (row2 _ _ _ _).kept hkx | exact (row2 _ _ _ _).drew.kept hkx) (by exact hEW.kept0 (by assumption)) (by simp) (by exact H2.out))).mono ?_; rintro e2 w2 ⟨rfl, hk2⟩))
  all_goals go_wp2
  all_goals (
    go_ret
    exact ⟨rfl, hkW.trans hk2⟩)
end Go.Proofs.YtcidfldeiklcjaaGreatDoor
