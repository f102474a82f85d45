/- The hash function's small parts: rotations, the first state, the tables. -/
import Derived.Test.YtpcdfepndmconaaGreatDoorRf3
import Derived.Test.YtpcdfepndmconaaGreatDoorRf1
import Derived.Laws.Entries
import Derived.Test.YtpcdfepndmconaaGreatDoorMem
import Derived.Outline
import Derived.Laws.Rows
import Derived.Deep.Cut
/- JOINED: Rf4 ShaP Sh1 -/
/- The reference's setups: ValidSetup. -/
namespace Go.Proofs.YtpcdfepndmconaaGreatDoor
open Go.RowKit

set_option maxRecDepth 100000 in
set_option maxHeartbeats 800000 in
theorem rother_any (P Q G x : Int) (q : Nat) (w : World) (hok : GrpOk P Q G q) (hx : Wire.I64 x) :
    Calls Tryz.prog 166 #[.agg (grpV P Q G), .int .i64 x] w fun e w' => e = .returned (.bool (othB q x)) ∧ Kept [] w w' := by
  obtain ⟨W, hW⟩ : ∃ W, w.alloc (.cells (grpV P Q G) 23) = W := ⟨_, rfl⟩
  have hb : Blk W w.heap.size 23 (grpV P Q G) := hW ▸ Blk.new _ _ _
  have hkW : Kept [] w W := hW ▸ (Kept.refl _ _).alloc _
  have e0 : W.cell? ⟨w.heap.size, 0, none⟩ = some (.int .i64 P) := hb.cell 0
  have e1 : W.cell? ⟨w.heap.size, 1, none⟩ = some (.int .i64 Q) := hb.cell 1
  have e2 : W.cell? ⟨w.heap.size, 2, none⟩ = some (.int .i64 G) := hb.cell 2
  have HW := Lib.hid hW
  have HE := Lib.hid (rmember_any P Q G x q W hok hx)
  unfold othB
  clear hb hW hok
  by_cases h1 : x = 1
  · subst h1
    go_enter Tryz.func166, Tryz.ntmps166
    go_wp2_with fail
    rw [HW.out]
    go_wp2_with fail
    go_ret
    exact ⟨rfl, hkW⟩
  · have hne : (x != 1) = true := by simpa using h1
    have hne' : (x == 1) = false := by simpa using h1
    rw [hne']
    obtain ⟨t, ht⟩ : ∃ t, memB q x = t := ⟨_, rfl⟩
    rw [ht] at HE ⊢
    clear ht hne'
    go_enter Tryz.func166, Tryz.ntmps166
    go_wp2_with fail
    rw [HW.out]
    go_wp2_with (go_at_call 170; ((with_reducible refine HE.out.mono ?_); rintro e w1 ⟨rfl, hk⟩))
    go_ret
    exact ⟨rfl, hkW.trans hk⟩

set_option maxRecDepth 100000 in
set_option maxHeartbeats 1600000 in
theorem rvalidSetup_any (v : Value) (s : Stp) (w : World) (h : StpV w v s) : Calls Tryz.prog 89 #[v] w fun e w' => e = .returned (.bool (setupB s)) ∧ Kept [] w w' := by
  obtain ⟨⟨a, c, rfl, hrow⟩, ip, iq, ig, ib, il⟩ := h
  obtain ⟨P, Q, G, bases, blind⟩ := s
  simp only at ip iq ig ib il hrow ⊢
  have hlen := hrow.form
  obtain ⟨_, _, _, hl1, _⟩ := hlen
  obtain ⟨W, hW⟩ : ∃ W, w.alloc (.cells #[.int .i64 P, .int .i64 Q, .int .i64 G, .slice a bases.length c, .int .i64 blind] 26) = W := ⟨_, rfl⟩
  have hb : Blk W w.heap.size 26 #[.int .i64 P, .int .i64 Q, .int .i64 G, .slice a bases.length c, .int .i64 blind] := hW ▸ Blk.new _ _ _
  have hkW : Kept [] w W := hW ▸ (Kept.refl _ _).alloc _
  have HR := Lib.hid (hrow.kept hkW)
  have HB := Lib.hid hb
  have K0 : Hid (∀ w', Kept [] W w' → w'.cell? ⟨w.heap.size, 0, none⟩ = some (.int .i64 P)) := Kept.cellOf (hb.cell 0)
  have K1 : Hid (∀ w', Kept [] W w' → w'.cell? ⟨w.heap.size, 1, none⟩ = some (.int .i64 Q)) := Kept.cellOf (hb.cell 1)
  have K2 : Hid (∀ w', Kept [] W w' → w'.cell? ⟨w.heap.size, 2, none⟩ = some (.int .i64 G)) := Kept.cellOf (hb.cell 2)
  have K3 : Hid (∀ w', Kept [] W w' → w'.cell? ⟨w.heap.size, 3, none⟩ = some (.slice a bases.length c)) := Kept.cellOf (hb.cell 3)
  have K4 : Hid (∀ w', Kept [] W w' → w'.cell? ⟨w.heap.size, 4, none⟩ = some (.int .i64 blind)) := Kept.cellOf (hb.cell 4)
  have e0 := K0.out W (Kept.refl _ _)
  have e1 := K1.out W (Kept.refl _ _)
  have e2 := K2.out W (Kept.refl _ _)
  have HW := Lib.hid hW
  have VG := Lib.hid (rvalidGroup_any P Q G W ip iq ig)
  have IB := Lib.hid ib
  obtain ⟨g, hg⟩ : ∃ g, groupB P Q G = g := ⟨_, rfl⟩
  unfold setupB
  simp only
  rw [hg] at VG ⊢
  have HG := Lib.hid hg
  clear hb hW hrow ib hg
  cases g
  · rw [Bool.false_and]
    go_enter Tryz.func89, Tryz.ntmps89
    go_wp2_with fail
    rw [HW.out]
    go_wp2_with (go_at_call 165; with_reducible refine VG.out.mono ?_)
    rintro e w1 ⟨rfl, k1⟩
    go_wp2_with fail
    go_ret
    exact ⟨rfl, hkW.trans k1⟩
  rw [Bool.true_and]
  by_cases c1 : bases.length < 2
  · rw [decide_eq_false (show ¬ 2 ≤ bases.length by omega), Bool.false_and]
    have d1 : decide ((bases.length : Int) < 2) = true := by simp; omega
    go_enter Tryz.func89, Tryz.ntmps89
    go_wp2_with fail
    rw [HW.out]
    go_wp2_with (go_at_call 165; with_reducible refine VG.out.mono ?_)
    rintro e w1 ⟨rfl, k1⟩
    clear e0 e1 e2
    have e3 := K3.out w1 k1
    go_wp2_with fail
    go_ret
    exact ⟨rfl, hkW.trans k1⟩
  have d1 : decide ((bases.length : Int) < 2) = false := by simp; omega
  rw [decide_eq_true (show 2 ≤ bases.length by omega), Bool.true_and]
  by_cases c2 : 7 < bases.length
  · rw [decide_eq_false (show ¬ bases.length ≤ 7 by omega), Bool.false_and]
    have d2 : decide ((7 : Int) < (bases.length : Int)) = true := by simp; omega
    go_enter Tryz.func89, Tryz.ntmps89
    go_wp2_with fail
    rw [HW.out]
    go_wp2_with (go_at_call 165; with_reducible refine VG.out.mono ?_)
    rintro e w1 ⟨rfl, k1⟩
    clear e0 e1 e2
    have e3 := K3.out w1 k1
    go_wp2_with fail
    go_ret
    exact ⟨rfl, hkW.trans k1⟩
  have d2 : decide ((7 : Int) < (bases.length : Int)) = false := by simp; omega
  rw [decide_eq_true (show bases.length ≤ 7 by omega), Bool.true_and]
  obtain ⟨q, hok, hgn⟩ := groupB_ok HG.out
  have hqt : Q.toNat = q := by have := hok.hQ; omega
  rw [hqt]
  have CL : Hid (∀ w' x, Wire.I64 x → Calls Tryz.prog 166 #[.agg (grpV P Q G), .int .i64 x] w' fun e w2 => e = .returned (.bool (othB q x)) ∧ Kept [] w' w2) :=
    fun w' x hx => rother_any P Q G x q w' hok hx
  obtain ⟨R, hR⟩ : ∃ R, (bases.all (othB q) && othB q blind) = R := ⟨_, rfl⟩
  rw [hR]
  obtain ⟨t0, ht0⟩ : ∃ t, othB q blind = t := ⟨_, rfl⟩
  rw [ht0] at hR
  have HRR := Lib.hid hR
  have CB : Hid (∀ w', Calls Tryz.prog 166 #[.agg (grpV P Q G), .int .i64 blind] w' fun e w2 => e = .returned (.bool t0) ∧ Kept [] w' w2) := fun w' => by
    have := CL.out w' blind il
    rwa [ht0] at this
  clear hR hok hqt ht0
  cases t0
  · have hR := HRR.out
    rw [Bool.and_false] at hR
    subst hR
    go_enter Tryz.func89, Tryz.ntmps89
    go_wp2_with fail
    rw [HW.out]
    go_wp2_with (go_at_call 165; with_reducible refine VG.out.mono ?_)
    rintro e w1 ⟨rfl, k1⟩
    clear e0 e1 e2
    have e0 := K0.out w1 k1
    have e1 := K1.out w1 k1
    have e2 := K2.out w1 k1
    have e3 := K3.out w1 k1
    have e4 := K4.out w1 k1
    go_wp2_with (go_at_call 166; with_reducible refine (CB.out w1).mono ?_)
    rintro e w2 ⟨rfl, k2⟩
    go_wp2_with fail
    go_ret
    exact ⟨rfl, hkW.trans (k1.trans k2)⟩
  go_enter Tryz.func89, Tryz.ntmps89
  go_wp2_with fail
  rw [HW.out]
  go_wp2_with (go_at_call 165; with_reducible refine VG.out.mono ?_)
  rintro e w1 ⟨rfl, k1⟩
  clear e0 e1 e2
  have e0 := K0.out w1 k1
  have e1 := K1.out w1 k1
  have e2 := K2.out w1 k1
  have e3 := K3.out w1 k1
  have e4 := K4.out w1 k1
  go_wp2_with (go_at_call 166; with_reducible refine (CB.out w1).mono ?_)
  rintro e w2 ⟨rfl, k2⟩
  replace k1 := k1.trans k2
  clear e0 e1 e2 e3 e4
  go_wp2_with fail
  go_loopw [3] (fun i wr => ∃ k : Nat, k ≤ bases.length ∧ i = .int .i64 k ∧ (∀ j (hj : j < bases.length), j < k → othB q bases[j] = true) ∧ Kept [] W wr) (fun i _ => bases.length - (intOf i).toNat)
  case atStart => exact ⟨0, Nat.zero_le _, rfl, fun j _ hj => by omega, k1⟩
  case round =>
    obtain ⟨k, hk, rfl, hm, hkr⟩ := hrel
    have HM := Lib.hid hm
    clear hm
    have e3 := K3.out wr hkr
    by_cases hlt : k < bases.length
    · obtain ⟨ba, oa, rfl, hca⟩ := (HR.out.kept hkr).at_ (by omega)
      have x0 : ∀ w', Kept [] wr w' → w'.cell? ⟨w.heap.size, 0, none⟩ = some (.int .i64 P) := Kept.cellOf (K0.out wr hkr)
      have x1 : ∀ w', Kept [] wr w' → w'.cell? ⟨w.heap.size, 1, none⟩ = some (.int .i64 Q) := Kept.cellOf (K1.out wr hkr)
      have x2 : ∀ w', Kept [] wr w' → w'.cell? ⟨w.heap.size, 2, none⟩ = some (.int .i64 G) := Kept.cellOf (K2.out wr hkr)
      have x3 : ∀ w', Kept [] wr w' → w'.cell? ⟨w.heap.size, 3, none⟩ = some (.slice (some ⟨ba, oa, none⟩) bases.length c) := Kept.cellOf (K3.out wr hkr)
      have xa : ∀ w', Kept [] wr w' → w'.cell? ⟨ba, oa + k, none⟩ = some (.int .i64 bases[k]) := Kept.cellOf (hca k _ (ints_get hlt))
      have HC : Hid (∀ w', Calls Tryz.prog 166 #[.agg #[.int .i64 P, .int .i64 Q, .int .i64 G], .int .i64 bases[k]] w' fun e w2 => e = .returned (.bool (othB q bases[k])) ∧ Kept [] w' w2) :=
        fun w' => CL.out w' bases[k] (IB.out _ (List.getElem_mem hlt))
      obtain ⟨t, ht⟩ : ∃ t, othB q bases[k] = t := ⟨_, rfl⟩
      rw [ht] at HC
      have HT := Lib.hid ht
      clear hca ht
      go_upto_region 6 with (fail)
      clear e3
      go_region_held3 (fun w' => Kept [] wr w') (first | assumption | exact (Kept.refl _ _).drew | exact Kept.alloc (by assumption) _)
        ((go_at_call 166; with_reducible refine (kept_from (W := wr) (by assumption) (HC.out _)).mono ?_; rintro e w3 ⟨rfl, hk3⟩))
      clear x0 x1 x2 x3 xa
      cases t
      · have hR := HRR.out
        rw [all_take_false hlt HT.out, Bool.false_and] at hR
        subst hR
        go_wp2
        go_ret
        exact ⟨rfl, hkW.trans (hkr.trans hk3)⟩
      · go_wp2
        go_roundw
        case rel => exact ⟨k + 1, by omega, by go_num, fun j hj hjk => by
          rcases Nat.lt_or_ge j k with h | h
          · exact HM.out j hj h
          · obtain rfl : j = k := by omega
            exact HT.out, hkr.trans hk3⟩
        case measure => simp [intOf]; omega
    · obtain rfl : k = bases.length := by omega
      have hR := HRR.out
      rw [all_of (fun j hj => HM.out j hj hj), Bool.true_and] at hR
      subst hR
      go_wp2_with fail
      go_ret
      exact ⟨rfl, hkW.trans hkr⟩
end Go.Proofs.YtpcdfepndmconaaGreatDoor
/- SHA-256 as a function of bytes, and its words as the model spells them. -/
namespace Go.ShaP
abbrev W := BitVec 32
def rotr (x : W) (n : Nat) : W := (x >>> n) ||| (x <<< (32 - n))
def sig0 (x : W) : W := rotr x 7 ^^^ rotr x 18 ^^^ (x >>> 3)
def sig1 (x : W) : W := rotr x 17 ^^^ rotr x 19 ^^^ (x >>> 10)
def ch (e f g : W) : W := (e &&& f) ^^^ (~~~e &&& g)
def maj (a b c : W) : W := (a &&& b) ^^^ (a &&& c) ^^^ (b &&& c)

theorem ch_eq (e f g : W) : g ^^^ (e &&& (f ^^^ g)) = ch e f g := by
  unfold ch
  ext i hi
  simp only [BitVec.getElem_xor, BitVec.getElem_and, BitVec.getElem_not]
  cases e[i] <;> cases f[i] <;> cases g[i] <;> rfl
theorem maj_eq (a b c : W) : (a &&& b) ||| (c &&& (a ||| b)) = maj a b c := by
  unfold maj
  ext i hi
  simp only [BitVec.getElem_xor, BitVec.getElem_and, BitVec.getElem_or]
  cases a[i] <;> cases b[i] <;> cases c[i] <;> rfl

structure S8 where
  a : W
  b : W
  c : W
  d : W
  e : W
  f : W
  g : W
  h : W
def S8.list (s : S8) : List W := [s.a, s.b, s.c, s.d, s.e, s.f, s.g, s.h]

def tmp (v : S8) (k w : W) : W := v.h + (rotr v.e 6 ^^^ rotr v.e 11 ^^^ rotr v.e 25) + ch v.e v.f v.g + k + w
def step (v : S8) (k w : W) : S8 :=
  ⟨tmp v k w + (rotr v.a 2 ^^^ rotr v.a 13 ^^^ rotr v.a 22) + maj v.a v.b v.c, v.a, v.b, v.c, v.d + tmp v k w, v.e, v.f, v.g⟩

def by4 (b : List UInt8) (i : Nat) : W :=
  (((BitVec.ofNat 32 (b.getD (4 * i) 0).toNat) <<< 24 ||| (BitVec.ofNat 32 (b.getD (4 * i + 1) 0).toNat) <<< 16) ||| (BitVec.ofNat 32 (b.getD (4 * i + 2) 0).toNat) <<< 8) ||| BitVec.ofNat 32 (b.getD (4 * i + 3) 0).toNat
/-- the next word of the schedule -/
def more (w : List W) : W := w.getD (w.length - 16) 0 + sig0 (w.getD (w.length - 15) 0) + w.getD (w.length - 7) 0 + sig1 (w.getD (w.length - 2) 0)
/-- the first k words of the schedule -/
def sched (b : List UInt8) : Nat → List W
  | 0 => []
  | k + 1 => sched b k ++ [if k < 16 then by4 b k else more (sched b k)]
theorem sched_length (b : List UInt8) (k : Nat) : (sched b k).length = k := by
  induction k with
  | zero => rfl
  | succ k ih => simp [sched, ih]

def kTab : List W := [
  0x428a2f98#32, 0x71374491#32, 0xb5c0fbcf#32, 0xe9b5dba5#32, 0x3956c25b#32, 0x59f111f1#32, 0x923f82a4#32, 0xab1c5ed5#32,
  0xd807aa98#32, 0x12835b01#32, 0x243185be#32, 0x550c7dc3#32, 0x72be5d74#32, 0x80deb1fe#32, 0x9bdc06a7#32, 0xc19bf174#32,
  0xe49b69c1#32, 0xefbe4786#32, 0x0fc19dc6#32, 0x240ca1cc#32, 0x2de92c6f#32, 0x4a7484aa#32, 0x5cb0a9dc#32, 0x76f988da#32,
  0x983e5152#32, 0xa831c66d#32, 0xb00327c8#32, 0xbf597fc7#32, 0xc6e00bf3#32, 0xd5a79147#32, 0x06ca6351#32, 0x14292967#32,
  0x27b70a85#32, 0x2e1b2138#32, 0x4d2c6dfc#32, 0x53380d13#32, 0x650a7354#32, 0x766a0abb#32, 0x81c2c92e#32, 0x92722c85#32,
  0xa2bfe8a1#32, 0xa81a664b#32, 0xc24b8b70#32, 0xc76c51a3#32, 0xd192e819#32, 0xd6990624#32, 0xf40e3585#32, 0x106aa070#32,
  0x19a4c116#32, 0x1e376c08#32, 0x2748774c#32, 0x34b0bcb5#32, 0x391c0cb3#32, 0x4ed8aa4a#32, 0x5b9cca4f#32, 0x682e6ff3#32,
  0x748f82ee#32, 0x78a5636f#32, 0x84c87814#32, 0x8cc70208#32, 0x90befffa#32, 0xa4506ceb#32, 0xbef9a3f7#32, 0xc67178f2#32]
def first : S8 := ⟨0x6a09e667#32, 0xbb67ae85#32, 0x3c6ef372#32, 0xa54ff53a#32, 0x510e527f#32, 0x9b05688c#32, 0x1f83d9ab#32, 0x5be0cd19#32⟩

def rounds (h : S8) (w : List W) : Nat → S8
  | 0 => h
  | k + 1 => step (rounds h w k) (kTab.getD k 0) (w.getD k 0)
def plus (x y : S8) : S8 := ⟨x.a + y.a, x.b + y.b, x.c + y.c, x.d + y.d, x.e + y.e, x.f + y.f, x.g + y.g, x.h + y.h⟩
def mix (h : S8) (b : List UInt8) : S8 := plus (rounds h (sched b 64) 64) h

/-- the state after the first k blocks -/
def mixed (p : List UInt8) : Nat → S8
  | 0 => first
  | k + 1 => mix (mixed p k) ((p.drop (64 * k)).take 64)

/-- bytes of zero up to 56 modulo 64 -/
def gap (n : Nat) : Nat := (120 - n % 64) % 64
def lenBytes (n : Nat) : List UInt8 := (List.range 8).map fun j => UInt8.ofNat (8 * n % 18446744073709551616 / 2 ^ (56 - 8 * j))
def padded (s : List UInt8) : List UInt8 := s ++ [128] ++ List.replicate (gap (s.length + 1)) 0 ++ lenBytes s.length
def wbytes (x : W) : List UInt8 := [UInt8.ofNat (x.toNat / 16777216), UInt8.ofNat (x.toNat / 65536), UInt8.ofNat (x.toNat / 256), UInt8.ofNat x.toNat]
def sha (s : List UInt8) : List UInt8 := (mixed (padded s) ((padded s).length / 64)).list.flatMap wbytes

theorem gap_lt (n : Nat) : gap n < 64 := Nat.mod_lt _ (by omega)
theorem gap_mod (n : Nat) : (n + gap n) % 64 = 56 := by unfold gap; omega
theorem gap_least (n j : Nat) (h : j < gap n) : (n + j) % 64 ≠ 56 := by unfold gap at h; omega
theorem lenBytes_length (n : Nat) : (lenBytes n).length = 8 := by simp [lenBytes]
theorem padded_length (s : List UInt8) : (padded s).length % 64 = 0 := by
  have := gap_mod (s.length + 1)
  unfold padded
  simp [lenBytes_length]
  omega
theorem padded_le (s : List UInt8) : (padded s).length ≤ s.length + 73 := by
  have := gap_lt (s.length + 1)
  unfold padded
  simp [lenBytes_length]
  omega
theorem sha_length (s : List UInt8) : (sha s).length = 32 := by simp [sha, S8.list, wbytes]

/-! ### the words as the model spells them -/
theorem ofInt_w (x : W) : BitVec.ofInt IntKind.u32.bits (x.toNat : Int) = x := by
  show BitVec.ofInt 32 (x.toNat : Int) = x
  rw [BitVec.ofInt_natCast]; simp
theorem wrap_w (x : W) : IntKind.u32.wrap (x.toNat : Int) = (x.toNat : Int) := by
  have := x.isLt
  simp [IntKind.wrap, IntKind.bits, IntKind.signed]
  omega
theorem and_w (x y : W) : bits .and .u32 (x.toNat : Int) (y.toNat : Int) = ((x &&& y).toNat : Int) := by
  unfold bits; simp only [ofInt_w]; exact wrap_w _
theorem or_w (x y : W) : bits .or .u32 (x.toNat : Int) (y.toNat : Int) = ((x ||| y).toNat : Int) := by
  unfold bits; simp only [ofInt_w]; exact wrap_w _
theorem xor_w (x y : W) : bits .xor .u32 (x.toNat : Int) (y.toNat : Int) = ((x ^^^ y).toNat : Int) := by
  unfold bits; simp only [ofInt_w]; exact wrap_w _
theorem not_w (x : W) : bits .xor .u32 4294967295 (x.toNat : Int) = ((~~~x).toNat : Int) := by
  have := xor_w (BitVec.allOnes 32) x
  rw [BitVec.allOnes_xor] at this
  exact this
theorem add_w (x y : W) : IntKind.u32.wrap ((x.toNat : Int) + (y.toNat : Int)) = ((x + y).toNat : Int) := by
  simp [IntKind.wrap, IntKind.bits, IntKind.signed, BitVec.toNat_add]
theorem shr_w (x : W) (n : Nat) : (x.toNat : Int) / ((2 ^ n : Nat) : Int) = ((x >>> n).toNat : Int) := by
  rw [BitVec.toNat_ushiftRight, Nat.shiftRight_eq_div_pow]; simp
theorem shl_w (x : W) (n : Nat) : IntKind.u32.wrap ((x.toNat : Int) * ((2 ^ n : Nat) : Int)) = ((x <<< n).toNat : Int) := by
  rw [BitVec.toNat_shiftLeft, Nat.shiftLeft_eq]
  simp [IntKind.wrap, IntKind.bits, IntKind.signed]
theorem shr3_w (x : W) : (x.toNat : Int) / (8 : Int) = ((x >>> 3).toNat : Int) := shr_w x 3
theorem shr10_w (x : W) : (x.toNat : Int) / (1024 : Int) = ((x >>> 10).toNat : Int) := shr_w x 10
theorem shr24_w (x : W) : (x.toNat : Int) / (16777216 : Int) = ((x >>> 24).toNat : Int) := shr_w x 24
theorem shr16_w (x : W) : (x.toNat : Int) / (65536 : Int) = ((x >>> 16).toNat : Int) := shr_w x 16
theorem shr8_w (x : W) : (x.toNat : Int) / (256 : Int) = ((x >>> 8).toNat : Int) := shr_w x 8
theorem shl24_w (x : W) : IntKind.u32.wrap ((x.toNat : Int) * (16777216 : Int)) = ((x <<< 24).toNat : Int) := shl_w x 24
theorem shl16_w (x : W) : IntKind.u32.wrap ((x.toNat : Int) * (65536 : Int)) = ((x <<< 16).toNat : Int) := shl_w x 16
theorem shl8_w (x : W) : IntKind.u32.wrap ((x.toNat : Int) * (256 : Int)) = ((x <<< 8).toNat : Int) := shl_w x 8
/-- a byte as a word -/
def zx (c : UInt8) : W := BitVec.ofNat 32 c.toNat
theorem zx_toNat (c : UInt8) : (zx c).toNat = c.toNat := by
  have := c.toNat_lt
  unfold zx
  rw [BitVec.toNat_ofNat]
  exact Nat.mod_eq_of_lt (by omega)
theorem by4_zx (b : List UInt8) (i : Nat) : by4 b i = (((zx (b.getD (4 * i) 0)) <<< 24 ||| (zx (b.getD (4 * i + 1) 0)) <<< 16) ||| (zx (b.getD (4 * i + 2) 0)) <<< 8) ||| zx (b.getD (4 * i + 3) 0) := rfl
theorem wrap_u32 (n : Int) : IntKind.u32.wrap n = n % 4294967296 := by simp [IntKind.wrap, IntKind.bits, IntKind.signed]
theorem mul24_w {x : W} (h : x.toNat < 256) : (x.toNat : Int) * (16777216 : Int) = ((x <<< 24).toNat : Int) := by
  have e := shl24_w x
  rw [wrap_u32, Int.emod_eq_of_lt (by omega) (by omega)] at e
  exact e
theorem mul16_w {x : W} (h : x.toNat < 256) : (x.toNat : Int) * (65536 : Int) = ((x <<< 16).toNat : Int) := by
  have e := shl16_w x
  rw [wrap_u32, Int.emod_eq_of_lt (by omega) (by omega)] at e
  exact e
theorem mul8_w {x : W} (h : x.toNat < 256) : (x.toNat : Int) * (256 : Int) = ((x <<< 8).toNat : Int) := by
  have e := shl8_w x
  rw [wrap_u32, Int.emod_eq_of_lt (by omega) (by omega)] at e
  exact e
end Go.ShaP
namespace Go.Proofs.YtpcdfepndmconaaGreatDoor
open Go.RowKit ShaP

/-- a word's value -/
abbrev wv (x : W) : Value := .int .u32 (x.toNat : Int)

set_option maxRecDepth 100000 in
set_option maxHeartbeats 800000 in
theorem rot_k (x : W) (k : Int) (s : Nat) (w : World) (hk : bits .and .u64 (IntKind.u64.wrap k) 31 = (s : Int)) (h0 : 0 < s) (hs : s < 32) :
    Calls Tryz.prog 236 #[wv x, .int .i64 k] w fun e w' => e = .returned (wv (rotr x (32 - s))) ∧ w = w' := by
  have e1 := shl_w x s
  have e2 := shr_w x (32 - s)
  have e3 := or_w (x <<< s) (x >>> (32 - s))
  have e4 : x <<< s ||| x >>> (32 - s) = rotr x (32 - s) := by
    unfold rotr
    rw [BitVec.or_comm, show 32 - (32 - s) = s by omega]
  rw [e4] at e3
  have e5 : (32 : Int) - (s : Int) = ((32 - s : Nat) : Int) := by omega
  obtain ⟨t, ht⟩ : ∃ t, 32 - s = t := ⟨_, rfl⟩
  rw [ht] at e2 e3 e5 ⊢
  have ht32 : t < 32 := by omega
  rw [Int.natCast_pow] at e1 e2
  obtain ⟨X, hX⟩ : ∃ X, x.toNat = X := ⟨_, rfl⟩
  obtain ⟨A, hA⟩ : ∃ A, (x <<< s).toNat = A := ⟨_, rfl⟩
  obtain ⟨C, hC⟩ : ∃ C, (x >>> t).toNat = C := ⟨_, rfl⟩
  obtain ⟨R, hR⟩ : ∃ R, (rotr x t).toNat = R := ⟨_, rfl⟩
  unfold wv
  rw [hX, hA] at e1
  rw [hX, hC] at e2
  rw [hA, hC, hR] at e3
  rw [hX, hR]
  clear hX hA hC hR e4 ht
  simp only [Int.cast_ofNat_Int] at e1 e2
  go_enter Tryz.func236, Tryz.ntmps236
  go_wp2_with fail
  go_ret
  exact ⟨rfl, rfl⟩
theorem rot2 (x : W) (w : World) : Calls Tryz.prog 236 #[wv x, .int .i64 (-2)] w fun e w' => e = .returned (wv (rotr x 2)) ∧ w = w' := rot_k x (-2) 30 w (by decide) (by omega) (by omega)
theorem rot6 (x : W) (w : World) : Calls Tryz.prog 236 #[wv x, .int .i64 (-6)] w fun e w' => e = .returned (wv (rotr x 6)) ∧ w = w' := rot_k x (-6) 26 w (by decide) (by omega) (by omega)
theorem rot7 (x : W) (w : World) : Calls Tryz.prog 236 #[wv x, .int .i64 (-7)] w fun e w' => e = .returned (wv (rotr x 7)) ∧ w = w' := rot_k x (-7) 25 w (by decide) (by omega) (by omega)
theorem rot11 (x : W) (w : World) : Calls Tryz.prog 236 #[wv x, .int .i64 (-11)] w fun e w' => e = .returned (wv (rotr x 11)) ∧ w = w' := rot_k x (-11) 21 w (by decide) (by omega) (by omega)
theorem rot13 (x : W) (w : World) : Calls Tryz.prog 236 #[wv x, .int .i64 (-13)] w fun e w' => e = .returned (wv (rotr x 13)) ∧ w = w' := rot_k x (-13) 19 w (by decide) (by omega) (by omega)
theorem rot17 (x : W) (w : World) : Calls Tryz.prog 236 #[wv x, .int .i64 (-17)] w fun e w' => e = .returned (wv (rotr x 17)) ∧ w = w' := rot_k x (-17) 15 w (by decide) (by omega) (by omega)
theorem rot18 (x : W) (w : World) : Calls Tryz.prog 236 #[wv x, .int .i64 (-18)] w fun e w' => e = .returned (wv (rotr x 18)) ∧ w = w' := rot_k x (-18) 14 w (by decide) (by omega) (by omega)
theorem rot19 (x : W) (w : World) : Calls Tryz.prog 236 #[wv x, .int .i64 (-19)] w fun e w' => e = .returned (wv (rotr x 19)) ∧ w = w' := rot_k x (-19) 13 w (by decide) (by omega) (by omega)
theorem rot22 (x : W) (w : World) : Calls Tryz.prog 236 #[wv x, .int .i64 (-22)] w fun e w' => e = .returned (wv (rotr x 22)) ∧ w = w' := rot_k x (-22) 10 w (by decide) (by omega) (by omega)
theorem rot25 (x : W) (w : World) : Calls Tryz.prog 236 #[wv x, .int .i64 (-25)] w fun e w' => e = .returned (wv (rotr x 25)) ∧ w = w' := rot_k x (-25) 7 w (by decide) (by omega) (by omega)

set_option maxRecDepth 100000 in
set_option maxHeartbeats 800000 in
theorem turn_any (x : W) (n : Nat) (w : World) (h0 : 0 < n) (hn : n < 32) :
    Calls Tryz.prog 239 #[wv x, .int .i64 n] w fun e w' => e = .returned (wv (rotr x n)) ∧ Kept [] w w' := by
  have e1 := shl_w x (32 - n)
  have e2 := shr_w x n
  have e3 := or_w (x >>> n) (x <<< (32 - n))
  have e4 : x >>> n ||| x <<< (32 - n) = rotr x n := rfl
  rw [e4] at e3
  have e5 : (32 : Int) - (n : Int) = ((32 - n : Nat) : Int) := by omega
  obtain ⟨t, ht⟩ : ∃ t, 32 - n = t := ⟨_, rfl⟩
  rw [ht] at e1 e3 e5
  have ht32 : t < 32 := by omega
  rw [Int.natCast_pow] at e1 e2
  obtain ⟨X, hX⟩ : ∃ X, x.toNat = X := ⟨_, rfl⟩
  obtain ⟨A, hA⟩ : ∃ A, (x <<< t).toNat = A := ⟨_, rfl⟩
  obtain ⟨C, hC⟩ : ∃ C, (x >>> n).toNat = C := ⟨_, rfl⟩
  obtain ⟨R, hR⟩ : ∃ R, (rotr x n).toNat = R := ⟨_, rfl⟩
  unfold wv
  rw [hX, hA] at e1
  rw [hX, hC] at e2
  rw [hA, hC, hR] at e3
  rw [hX, hR]
  clear hX hA hC hR e4 ht
  simp only [Int.cast_ofNat_Int] at e1 e2
  go_enter Tryz.func239, Tryz.ntmps239
  go_wp2_with fail
  go_region
  go_wp2_with fail
  go_ret
  exact ⟨rfl, (Kept.refl _ _).drewN _⟩

/-- the words of a list in memory -/
def wvs (l : List W) : List Value := l.map wv
theorem firsts_any (w : World) : Calls Tryz.prog 218 #[] w fun e w' => e = .returned (.slice (some ⟨w.heap.size, 0, none⟩) 8 8) ∧ w' = w.alloc (.cells (wvs first.list).toArray 218) := by
  go_enter Tryz.func218, Tryz.ntmps218
  go_wp2_with fail
  go_ret
  exact ⟨rfl, rfl⟩
set_option maxRecDepth 100000 in
theorem adds_any (w : World) : Calls Tryz.prog 238 #[] w fun e w' => e = .returned (.slice (some ⟨w.heap.size, 0, none⟩) 64 64) ∧ w' = w.alloc (.cells (wvs kTab).toArray 218) := by
  go_enter Tryz.func238, Tryz.ntmps238
  go_wp2_with fail
  go_ret
  exact ⟨rfl, by kernel_rfl⟩
set_option maxRecDepth 100000 in
theorem first_any (w : World) : Calls Tryz.prog 215 #[] w fun e w' => e = .returned (.agg (wvs first.list).toArray) ∧ Kept [] w w' := by
  go_enter Tryz.func215, Tryz.ntmps215
  go_wp2_with fail
  refine bodyPost_ret (v := .agg (wvs first.list).toArray) (by simp [results, Tryz.results215, go_sem]; rfl) rfl ⟨rfl, ?_⟩
  exact ((Kept.refl _ _).alloc _)
theorem info64 : (Tryz.prog.info? 241).map (·.size) = some 64 := by kernel_rfl
theorem info8 : (Tryz.prog.info? 219).map (·.size) = some 8 := by kernel_rfl
theorem Kept.setRow {S : List Nat} {w w' : World} (h : Kept S w w') {g : Nat} (hg : g ∈ S ∨ w.heap.size ≤ g) (cs : Array Value) : Kept S w (w'.setRow g cs) :=
  ⟨h.os, h.tape, h.output, by simpa [World.setRow] using h.size, fun k hk hS => (setRow_other w' g k cs (fun e => by rcases hg with hp | hp; exact hS (e ▸ hp); omega)).trans (h.block k hk hS)⟩
theorem Blk.setRow {w : World} {b : Nat} {T : TypeId} {cs cs' : Array Value} (h : Blk w b T cs) : Blk (w.setRow b cs') b T cs' := setRow_heap w b cs cs' T (0, 0) h

set_option maxRecDepth 100000 in
set_option maxHeartbeats 4000000 in
theorem table_any (w : World) : Calls Tryz.prog 235 #[] w fun e w' => e = .returned (.agg (wvs kTab).toArray) ∧ Kept [] w w' := by
  go_enter Tryz.func235, Tryz.ntmps235
  go_upto_region 1 with (fail)
  go_wp2_with (first
    | (refine wpList_build rfl _ _ rfl (by kernel_rfl) ?_)
    | (refine wpList_store_row rfl _ _ _ rfl w.heap.size (wvs kTab).toArray rfl (by kernel_rfl) 241 _ (heap_alloc_new w _) info64 (by kernel_rfl) (by kernel_rfl) ?_))
  refine bodyPost_ret (v := .agg (wvs kTab).toArray) (results_cell_row Tryz.results235 _ _ w.heap.size 241 _ (0, 0) _ rfl (setRow_heap _ _ _ _ _ _ (heap_alloc_new w _)) Tryz.underlying241 rfl info64) rfl ⟨rfl, ?_⟩
  exact ((Kept.refl _ _).alloc _).setRow (Or.inr (Nat.le_refl _)) _
end Go.Proofs.YtpcdfepndmconaaGreatDoor
