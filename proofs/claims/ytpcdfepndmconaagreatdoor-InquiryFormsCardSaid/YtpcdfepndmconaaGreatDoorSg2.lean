/- Signatures: the reference's challenge. -/
import Derived.Test.YtpcdfepndmconaaGreatDoorNum
import Derived.Test.YtpcdfepndmconaaGreatDoorEnc
import Derived.Test.YtpcdfepndmconaaGreatDoorSg1
/- JOINED: Rc1 Rc2 Sg2 -/
/- The reference's encoder. -/
namespace Go.Proofs.YtpcdfepndmconaaGreatDoor
open Go.RowKit

theorem dec_small (u : Nat) (h : u < 10) : Lib.decDigits u = [UInt8.ofNat (48 + u)] := by
  unfold Lib.decDigits
  simp [h]
theorem dec_big (u : Nat) (h : ¬ u < 10) : Lib.decDigits u = Lib.decDigits (u / 10) ++ [UInt8.ofNat (48 + u % 10)] := by
  rw [Lib.decDigits]
  simp [h]

theorem dec_len (u : Nat) (h : u ≤ 9223372036854775808) : (Lib.decDigits u).length ≤ 20 := by
  by_cases h1 : 1 ≤ u
  · have := Wire.itoa_len (-(u : Int)) ⟨by omega, by omega⟩
    unfold Lib.itoa at this
    rw [if_pos (by omega)] at this
    simp at this
    omega
  · obtain rfl : u = 0 := by omega
    rw [dec_small 0 (by omega)]
    simp

set_option maxRecDepth 100000 in
theorem rdigits_any (m : Nat) (w : World) (hm : m ≤ 9223372036854775808) :
    Calls Tryz.prog 153 #[.int .i64 (-(m : Int))] w fun e w' => e = .returned (.string ⟨(Lib.decDigits m).toArray⟩) ∧ Kept [] w w' := by
  induction m using Nat.strongRecOn generalizing w with
  | ind m ih =>
  obtain ⟨n, hn⟩ : ∃ n : Int, -(m : Int) = n := ⟨_, rfl⟩
  obtain ⟨r, hr⟩ : ∃ r, m % 10 = r := ⟨_, rfl⟩
  obtain ⟨nr, hnr⟩ : ∃ x : Int, -(r : Int) = x := ⟨_, rfl⟩
  obtain ⟨q, hq⟩ : ∃ q, m / 10 = q := ⟨_, rfl⟩
  obtain ⟨nq, hnq⟩ : ∃ x : Int, -(q : Int) = x := ⟨_, rfl⟩
  rw [hn]
  have hr10 : r < 10 := by omega
  have t1 : n.tmod 10 = nr := by rw [← hn, Int.neg_tmod, Int.tmod_eq_emod_of_nonneg (by omega)]; omega
  have t2 : n.tdiv 10 = nq := by rw [← hn, Int.neg_tdiv, Int.tdiv_eq_ediv_of_nonneg (by omega)]; omega
  have iS : IntKind.i64.wrap (48 - nr) = 48 - nr := by rw [IntKind.wrap_i64]; omega
  have iQ : IntKind.i64.wrap nq = nq := by rw [IntKind.wrap_i64]; omega
  have iR : IntKind.i64.wrap nr = nr := by rw [IntKind.wrap_i64]; omega
  have hc : ((UInt8.ofNat (48 + r)).toNat : Int) = 48 - nr := by
    rw [UInt8.toNat_ofNat', Nat.mod_eq_of_lt (by omega)]
    omega
  have iC : IntKind.u8.wrap (48 - nr) = 48 - nr := by
    have := u8_of (48 + r)
    rw [hc] at this
    rw [← this]
    congr 1
    omega
  have hcv := conv_back (w.alloc (.cells #[.int .u8 (48 - nr)] 5)) w.heap.size 1 [UInt8.ofNat (48 + r)] (fun j hj => by
    obtain rfl : j = 0 := by simpa using hj
    rw [World.cell?_alloc_new]
    show some (Value.int .u8 (48 - nr)) = some (Value.int .u8 ((UInt8.ofNat (48 + r)).toNat : Int))
    rw [hc])
  obtain ⟨c, hcc⟩ : ∃ c, UInt8.ofNat (48 + r) = c := ⟨_, rfl⟩
  have hkW : Kept [] w (w.alloc (.cells #[.int .u8 (48 - nr)] 5)) := (Kept.refl _ _).alloc _
  rw [hcc] at hcv
  have hcv' : (convert 202 9 (.slice (some ⟨w.heap.size, 0, none⟩) 1 1)).run Tryz.prog (w.alloc (.cells #[.int .u8 (48 - nr)] 5)) = .ok (.string ⟨[c].toArray⟩) (w.alloc (.cells #[.int .u8 (48 - nr)] 5)) := hcv
  by_cases h : m < 10
  · have hfin : Lib.decDigits m = [c] := by rw [dec_small m h, ← hcc, ← hr, Nat.mod_eq_of_lt h]
    have d1 : decide ((-10 : Int) < n) = true := by simp; omega
    rw [hfin]
    clear hn hr hnr hq hnq hc hcv hcc hfin
    go_enter Tryz.func153, Tryz.ntmps153
    go_wp2_with fail
    go_ret
    exact ⟨rfl, hkW⟩
  · have hfin : Lib.decDigits m = Lib.decDigits q ++ [c] := by rw [dec_big m h, hr, hq, hcc]
    have d1 : decide ((-10 : Int) < n) = false := by simp; omega
    have IH := Lib.hid (fun w => ih q (by omega) w (by omega))
    rw [hnq] at IH
    have hlen := dec_len q (by omega)
    have s1 : ¬ 9223372036854775807 < (Lib.decDigits q).length + 1 := by omega
    have hcat := bcat
    rw [hfin]
    clear hn hr hnr hq hnq hc hcv hcc hfin ih hlen
    go_enter Tryz.func153, Tryz.ntmps153
    go_wp2_with (go_at_call 153; refine (IH.out _).mono ?_; rintro e w1 ⟨rfl, k1⟩)
    go_ret
    exact ⟨rfl, hkW.trans k1⟩

set_option maxRecDepth 100000 in
theorem rint_any (n : Int) (w : World) (hn : Wire.I64 n) :
    Calls Tryz.prog 76 #[.int .i64 n] w fun e w' => e = .returned (.string ⟨(Wire.intE n).toArray⟩) ∧ Kept [] w w' := by
  obtain ⟨h1, h2⟩ := hn
  have hcat := bcat
  obtain ⟨m, hm⟩ : ∃ m, n.natAbs = m := ⟨_, rfl⟩
  have hlen := dec_len m (by omega)
  have H := Lib.hid (fun w => rdigits_any m w (by omega))
  by_cases h : n < 0
  · have hfin : Wire.intE n = [45] ++ Lib.decDigits m ++ [59] := by unfold Wire.intE Lib.itoa; rw [if_pos h, hm]; rfl
    have e1 : -(m : Int) = n := by omega
    rw [e1] at H
    have s1 : ¬ 9223372036854775807 < 1 + (Lib.decDigits m).length := by omega
    have s2 : ¬ 9223372036854775807 < 1 + (Lib.decDigits m).length + 1 := by omega
    have s3 : ¬ 9223372036854775807 < (Lib.decDigits m).length + 1 + 1 := by omega
    have d1 : decide (n < 0) = true := by simpa using h
    rw [hfin]
    clear hfin hm e1 hlen
    go_enter Tryz.func76, Tryz.ntmps76
    go_wp2_with (go_at_call 153; refine (H.out _).mono ?_; rintro e w1 ⟨rfl, k1⟩)
    go_ret
    exact ⟨by simp, k1⟩
  · have hfin : Wire.intE n = Lib.decDigits m ++ [59] := by unfold Wire.intE Lib.itoa; rw [if_neg h, show n.toNat = m by omega]
    have e1 : -(m : Int) = -n := by omega
    rw [e1] at H
    have s1 : ¬ 9223372036854775807 < (Lib.decDigits m).length + 1 := by omega
    have d1 : decide (n < 0) = false := by simpa using h
    have iN : IntKind.i64.wrap (-n) = -n := by rw [IntKind.wrap_i64]; omega
    rw [hfin]
    clear hfin hm e1 hlen
    go_enter Tryz.func76, Tryz.ntmps76
    go_wp2_with (go_at_call 153; refine (H.out _).mono ?_; rintro e w1 ⟨rfl, k1⟩)
    go_ret
    exact ⟨by simp, k1⟩

set_option maxRecDepth 100000 in
theorem rtext_any (s : List UInt8) (w : World) (hs : s.length ≤ 100000000) :
    Calls Tryz.prog 74 #[.string ⟨s.toArray⟩] w fun e w' => e = .returned (.string ⟨(Wire.textE s).toArray⟩) ∧ Kept [] w w' := by
  have hcat := bcat
  have hlen := dec_len s.length (by omega)
  have H := Lib.hid (fun w => rdigits_any s.length w (by omega))
  have hfin : Wire.textE s = Lib.decDigits s.length ++ [58] ++ s ++ [44] := by unfold Wire.textE Lib.itoa; rw [if_neg (by omega)]; rfl
  have iN : IntKind.i64.wrap (-(s.length : Int)) = -(s.length : Int) := by rw [IntKind.wrap_i64]; omega
  obtain ⟨D, hD⟩ : ∃ D, Lib.decDigits s.length = D := ⟨_, rfl⟩
  rw [hD] at H hfin hlen
  have s1 : ¬ 9223372036854775807 < D.length + 1 := by omega
  have s2 : ¬ 9223372036854775807 < D.length + (1 + s.length) := by omega
  have s2' : ¬ 9223372036854775807 < D.length + 1 + s.length := by omega
  have s3 : ¬ 9223372036854775807 < D.length + (1 + (s.length + 1)) := by omega
  have s3' : ¬ 9223372036854775807 < D.length + 1 + s.length + 1 := by omega
  have s3'' : ¬ 9223372036854775807 < D.length + (s.length + 1) + 1 := by omega
  rw [hfin]
  clear hfin hD hlen
  go_enter Tryz.func74, Tryz.ntmps74
  go_wp2_with (go_at_call 153; refine (H.out _).mono ?_; rintro e w1 ⟨rfl, k1⟩)
  go_ret
  exact ⟨by simp, k1⟩
end Go.Proofs.YtpcdfepndmconaaGreatDoor
/- The reference's encoder of lists of ints. -/
namespace Go.Proofs.YtpcdfepndmconaaGreatDoor
open Go.RowKit

set_option maxRecDepth 100000 in
set_option maxHeartbeats 1000000 in
theorem rnums_any (v : Value) (l : List Int) (w : World) (hv : Row w 1 v l.length (ints l)) (hl : l.length ≤ 100000001) (hi : ∀ x ∈ l, Wire.I64 x) :
    Calls Tryz.prog 73 #[v] w fun e w' => e = .returned (.string ⟨(Wire.numsE l).toArray⟩) ∧ Kept [] w w' := by
  have hv0 := hv
  obtain ⟨_, hlen, a, c, rfl, _, _⟩ := hv0
  have hcat := bcat
  have hdl := dec_len l.length (by omega)
  have H := Lib.hid (fun w => rdigits_any l.length w (by omega))
  have hfin : Wire.numsE l = Lib.decDigits l.length ++ [91] ++ l.flatMap Wire.intE ++ [93] := by unfold Wire.numsE Wire.listE Lib.itoa; rw [if_neg (by omega)]; rfl
  have iN : IntKind.i64.wrap (-(l.length : Int)) = -(l.length : Int) := by rw [IntKind.wrap_i64]; omega
  obtain ⟨D, hD⟩ : ∃ D, Lib.decDigits l.length = D := ⟨_, rfl⟩
  obtain ⟨n, hn⟩ : ∃ n, l.length = n := ⟨_, rfl⟩
  rw [hD] at H hfin hdl
  rw [hn] at H iN hl hlen hv ⊢
  have s1 : ¬ 9223372036854775807 < D.length + 1 := by omega
  have HV := Lib.hid hv
  have HI := Lib.hid hi
  rw [hfin]
  clear hfin hD hv hi
  go_enter Tryz.func73, Tryz.ntmps73
  go_upto_region 3 with (go_at_call 153; refine (H.out _).mono ?_; rintro e w1 ⟨rfl, k1⟩)
  have K1 := Lib.hid k1
  go_loopw [3, 4] (fun v3 v4 wr => ∃ k : Nat, k ≤ n ∧ v4 = .int .i64 k ∧ v3 = .string ⟨(D ++ [91] ++ (l.take k).flatMap Wire.intE).toArray⟩ ∧ Kept [] w1 wr) (fun _ v4 _ => n - (intOf v4).toNat)
  case atStart => exact ⟨0, by omega, rfl, by simp, Kept.refl _ _⟩
  case round =>
    obtain ⟨k, hk, rfl, rfl, hkr⟩ := hrel
    have hrow := HV.out.kept (K1.out.trans hkr)
    by_cases hlt : k < n
    · obtain ⟨bb, off, rfl, hc⟩ := hrow.at_ (by omega)
      have hkl : k < l.length := by omega
      have hx := hc k (.int .i64 l[k]) (by simp [ints, hkl])
      have hI := HI.out l[k] (List.getElem_mem hkl)
      have hIl := intE_len l[k] hI
      have hfl := flat_len (l.take k) (fun x hx => HI.out x (List.mem_of_mem_take hx))
      have htk : (l.take k).length ≤ 100000001 := by rw [List.length_take]; omega
      have htn : D ++ [91] ++ (l.take (k + 1)).flatMap Wire.intE = (D ++ [91] ++ (l.take k).flatMap Wire.intE) ++ Wire.intE l[k] := by
        rw [List.take_succ_eq_append_getElem hkl, List.flatMap_append]
        simp only [List.flatMap_cons, List.flatMap_nil, List.append_nil, List.append_assoc]
      have hRI := Lib.hid (fun w => rint_any l[k] w hI)
      obtain ⟨x, hxx⟩ : ∃ x, l[k] = x := ⟨_, rfl⟩
      rw [hxx] at hx hI hIl htn hRI
      obtain ⟨S, hS⟩ : ∃ S, D ++ [91] ++ (l.take k).flatMap Wire.intE = S := ⟨_, rfl⟩
      have hSl : S.length ≤ 2100000100 := by rw [← hS]; simp only [List.length_append, List.length_singleton]; omega
      rw [hS] at htn ⊢
      obtain ⟨E, hE⟩ : ∃ E, Wire.intE x = E := ⟨_, rfl⟩
      rw [hE] at hIl htn hRI
      have s2 : ¬ 9223372036854775807 < S.length + E.length := by omega
      have hd : decide ((k : Int) < (n : Int)) = true := by simp; omega
      have HTN := Lib.hid htn
      have hki : (k : Int) < (n : Int) := by omega
      clear hc hxx hS hE htn hkl hfl htk
      go_wp2_with (go_at_call 76; refine (hRI.out _).mono ?_; rintro e w3 ⟨rfl, k3⟩)
      go_roundw
      case rel => exact ⟨k + 1, by omega, by go_num, by rw [HTN.out], hkr.trans k3⟩
      case measure => simp [intOf]; omega
    · obtain rfl : k = n := by omega
      have hfl := flat_len l HI.out
      have htk : l.take k = l := List.take_of_length_le (by omega)
      rw [htk]
      obtain ⟨S, hS⟩ : ∃ S, D ++ [91] ++ l.flatMap Wire.intE = S := ⟨_, rfl⟩
      have hSl : S.length ≤ 2100000100 := by rw [← hS]; simp only [List.length_append, List.length_singleton]; omega
      rw [hS]
      have s2 : ¬ 9223372036854775807 < S.length + 1 := by omega
      have hd : decide ((k : Int) < (k : Int)) = false := by simp
      have HS := Lib.hid hS
      clear hS hfl htk
      go_wp2_with fail
      go_ret
      exact ⟨by rw [← HS.out]; simp, K1.out.trans hkr⟩
end Go.Proofs.YtpcdfepndmconaaGreatDoor
namespace Go.Proofs.YtpcdfepndmconaaGreatDoor
open Go.RowKit ShaP

set_option maxRecDepth 100000 in
set_option maxHeartbeats 1600000 in
theorem sealed_any (v : Value) (s : Stp) (q : Nat) (pub a : Int) (msg : List UInt8) (w : World) (h : StpV w v s) (hq : s.Q = q) (h1 : 1 ≤ q) (h2 : q < 2305843009213693952)
    (hp : Wire.I64 pub) (ha : Wire.I64 a) (hm : msg.length ≤ 50000000) :
    Calls Tryz.prog 139 #[v, .int .i64 pub, .int .i64 a, .string ⟨msg.toArray⟩] w fun e w' => e = .returned (.int .i64 (numN q (chaE msg pub a) : Nat)) ∧ Kept [] w w' := by
  obtain ⟨⟨ad, c, rfl, hrow⟩, ip, iq, ig, ib, il⟩ := h
  obtain ⟨W, hW⟩ : ∃ W, w.alloc (.cells (stpA s (.slice ad s.bases.length c)) 26) = W := ⟨_, rfl⟩
  have hb : Blk W w.heap.size 26 (stpA s (.slice ad s.bases.length c)) := hW ▸ Blk.new _ _ _
  have hkW : Kept [] w W := hW ▸ (Kept.refl _ _).alloc _
  have k1 : ∀ w', Kept [] W w' → w'.cell? ⟨w.heap.size, 1, none⟩ = some (.int .i64 s.Q) := Kept.cellOf (hb.cell 1)
  rw [hq] at k1
  have HW := Lib.hid hW
  have h3 : ∀ x ∈ [pub, a], Wire.I64 x := by
    intro x hx
    simp only [List.mem_cons, List.not_mem_nil, or_false] at hx
    rcases hx with rfl | rfl
    · exact hp
    · exact ha
  have l0 := nums2_len pub a hp ha
  have l1 := Wire.itoa_len msg.length ⟨by omega, by omega⟩
  have l2 : (Wire.textE msg).length ≤ 50000030 := by simp only [Wire.textE, List.length_append, List.length_singleton]; omega
  have s1 : ¬ 9223372036854775807 < (Wire.textE msg).length + (Wire.numsE [pub, a]).length := by omega
  have NM := fun w => Lib.hid (rnumber_any q (chaE msg pub a) w h1 h2 (by unfold chaE; rw [List.length_append]; omega))
  unfold chaE at NM ⊢
  clear l0 l1 l2 hb hW hrow ib
  have hcat := bcat
  go_enter Tryz.func139, Tryz.ntmps139
  go_upto_region 1 with (fail)
  have hW' : w.alloc (.cells (stpA s (.slice ad s.bases.length c)) 26) = W := HW.out
  rw [hW']
  clear hW' HW
  go_region_held3 (fun w' => Kept [] W w') (first | assumption | exact (Kept.refl _ _).drew | exact Kept.alloc (by assumption) _)
    (first
      | (go_at_call 74; refine (rtext_any msg _ (by omega)).mono ?_; rintro e w2 ⟨rfl, hkx⟩; have hk2 : Kept [] W w2 := Kept.trans (by assumption) hkx)
      | (go_at_call 73; refine (kept_from (W := W) (by assumption) (rnums_any _ [pub, a] _ (by first | exact row2 _ _ _ _ | exact (row2 _ _ _ _).drew | exact (row2 _ _ _ _).kept hkx | exact (row2 _ _ _ _).drew.kept hkx) (by simp) (by exact h3))).mono ?_; rintro e w3 ⟨rfl, hk3⟩)
      | (go_at_call 188; refine (kept_from (W := W) (by assumption) (NM _).out).mono ?_; rintro e w4 ⟨rfl, hk4⟩))
  all_goals go_wp2_with fail
  all_goals (
    go_ret
    exact ⟨rfl, hkW.trans hk4⟩)
end Go.Proofs.YtpcdfepndmconaaGreatDoor
