/- A number out of a hash: the program's and the reference's way. -/
import Derived.Test.YtpcdfepndmconaaGreatDoorSr2
import Derived.Test.YtpcdfepndmconaaGreatDoorSh4
import Derived.Test.YtpcdfepndmconaaGreatDoorRf1
/- JOINED: Sr3 Sr4 Num -/
/- The hash function's padding and the hash, as the reference makes them. -/
namespace Go.Proofs.YtpcdfepndmconaaGreatDoor
open Go.RowKit ShaP

theorem own_empty (w : World) (T : TypeId) : (w.alloc (.cells #[] T)).ownsRow w.heap.size T 1 (.slice (some ⟨w.heap.size, 0, none⟩) 0 0) 0 [] :=
  ⟨rfl, .inr ⟨w.heap.size, 0, #[], rfl, Nat.le_refl _, heap_alloc_new w _, Nat.le_refl _, by simp [maxLen], rfl, rfl⟩⟩
theorem bval_one (l : List UInt8) : ∀ u ∈ l.map bval, u.oneCell' = true := by
  intro u hu
  simp only [List.mem_map] at hu
  obtain ⟨y, _, rfl⟩ := hu
  rfl
theorem Ap.news {w : World} {base b cap n : Nat} {s : List UInt8} (h : Ap w base (.slice (some ⟨b, 0, none⟩) n cap) s) (o : Obj) : ∀ j u, (s.map bval)[j]? = some u → (w.alloc o).cell? ((⟨b, 0, none⟩ : Addr).add j) = some u := by
  intro j u hu
  obtain ⟨b', cap', hv, _, hbl, _, _, hcs, _⟩ := h.form
  injection hv with e1 _ _
  injection e1 with e1
  injection e1 with e1 _ _
  subst e1
  obtain ⟨hj, rfl⟩ := List.getElem?_eq_some_iff.1 hu
  have hj' : j < s.length := by simpa using hj
  rw [add_cell, Nat.zero_add]
  refine (((Kept.refl [] w).alloc o).cell (p := ⟨b, j, none⟩) hbl (by simp)).trans ?_
  rw [hcs j hj']
  simp [bval]

set_option maxRecDepth 100000 in
set_option maxHeartbeats 4000000 in
theorem rpadded_any (v : Value) (s : List UInt8) (w : World) (base0 : Nat) (hv : Ap w base0 v s) (hl : s.length ≤ 100000000) :
    Calls Tryz.prog 217 #[v] w fun e w' => (∃ v', e = .returned v' ∧ Ap w' w.heap.size v' (padded s)) ∧ Kept [] w w' := by
  obtain ⟨b0, c0, rfl, _, hbl0, hlc0, _, _, _⟩ := hv.form
  have A0 := Lib.hid hv
  obtain ⟨iw, hi, hz0, hz1, hz2⟩ := info_parts infoByteA
  have OE := Lib.hid (own_empty w 5)
  have NS := Lib.hid (A0.out.news (.cells #[] 5))
  have OS := Lib.hid (bval_one s)
  clear hv
  go_enter Tryz.func217, Tryz.ntmps217
  go_upto_region 2 with (at_builtin; refine wpList_append_own _ rfl _ _ 202 rfl w.heap.size 5 iw (.int .u8 0) 1 1 Tryz.underlying202 hi hz0 hz1 hz2 rfl (by decide) _ _ _ rfl OE.out ⟨b0, 0, none⟩ s.length c0 (s.map bval) rfl (by simp) NS.out OS.out (by unfold maxLen; omega) (by omega) (by simp) ?_; intro v0 w0 hown0 hg0 _)
  rw [List.nil_append, Nat.zero_add] at hown0
  have hk0 : Kept [] w w0 := ((Kept.refl _ _).alloc _).grown hg0 (fun k hk => Or.inr (by cases hk; exact Nat.le_refl _))
  obtain ⟨a0, cc0, rfl⟩ := own_form hown0
  have HO0 := Lib.hid hown0
  have hsz0 := hk0.size
  have N1 : Hid (∀ j u, [bval 128][j]? = some u → (w0.alloc (.cells #[.int .u8 128] 5)).cell? ((⟨w0.heap.size, 0, none⟩ : Addr).add j) = some u) := word_new w0 (bval 128) _
  clear hown0 hg0
  go_upto_region 3 with (at_builtin; refine wpList_append_own _ rfl _ _ 202 rfl w.heap.size 5 iw (.int .u8 0) 1 1 Tryz.underlying202 hi hz0 hz1 hz2 rfl (by decide) _ _ _ rfl (HO0.out.alloc _) ⟨w0.heap.size, 0, none⟩ 1 1 [bval 128] rfl rfl N1.out (by intro u hu; rw [List.mem_singleton] at hu; subst hu; rfl) (by unfold maxLen; omega) (by omega) (by simp; omega) ?_; intro v1 w1 hown1 hg1 _)
  have hown1' : w1.ownsRow w.heap.size 5 1 v1 (s ++ [128]).length ((s ++ [128]).map bval) := by
    rw [List.map_append, List.length_append]
    exact hown1
  have ha1 := Ap.of_own hown1' (by simp)
  have hk1 : Kept [] w w1 := (hk0.alloc _).grown hg1 (fun x hx => Or.inr (HO0.out.lt x hx).1)
  clear hown1 hown1' hg1
  go_loopw [3] (fun v wr => ∃ j : Nat, j ≤ gap (s.length + 1) ∧ Ap wr w.heap.size v (s ++ [128] ++ List.replicate j 0) ∧ Kept [] w wr) (fun v _ => s.length + 200 - lenOf v)
  case atStart => exact ⟨0, by omega, by simpa using ha1, hk1⟩
  case round =>
    obtain ⟨j, hj, ha, hkr⟩ := hrel
    have hgl := gap_lt (s.length + 1)
    have hlen : (s ++ [128] ++ List.replicate j (0 : UInt8)).length = s.length + 1 + j := by simp; omega
    obtain ⟨b, cap, hv, hbb, hbl, hlc, hcm, hcells, hroom⟩ := ha.form
    rw [hlen] at hv
    subst hv
    have HA := Lib.hid ha
    have hsz := hkr.size
    clear hcells hroom ha
    by_cases hlt : j < gap (s.length + 1)
    · have hne := gap_least (s.length + 1) j hlt
      have hd : (((s.length + 1 + j : Nat) : Int) % 64 != 56) = true := by simp; omega
      have N2 : Hid ((wr.alloc (.cells #[.int .u8 0] 5)).cell? ⟨wr.heap.size, 0, none⟩ = some (bval 0)) := byte_new wr 0 _
      obtain ⟨n, hn⟩ : ∃ n, s.length + 1 + j = n := ⟨_, rfl⟩
      rw [hn] at hd HA ⊢
      go_wp2_with (at_builtin; refine wpList_ap rfl _ _ rfl w.heap.size _ (s ++ [128] ++ List.replicate j 0) rfl (HA.out.alloc _) ⟨wr.heap.size, 0, none⟩ 0 rfl N2.out (by omega) (by simp; omega) ?_; intro v2 w2 ha2 hb2)
      go_roundw
      case rel => exact ⟨j + 1, by omega, by rw [List.replicate_succ', ← List.append_assoc]; exact ha2, (hkr.alloc _).then_below hb2⟩
      case measure =>
        obtain ⟨b2, cap2, hv2, _⟩ := ha2.form
        rw [hv2]
        simp [lenOf]
        omega
    · as_aux_lemma =>
      obtain rfl : j = gap (s.length + 1) := by omega
      have hgm := gap_mod (s.length + 1)
      have hd : (((s.length + 1 + gap (s.length + 1) : Nat) : Int) % 64 != 56) = false := by simp; omega
      obtain ⟨pre, hpre⟩ : ∃ p, s ++ [128] ++ List.replicate (gap (s.length + 1)) (0 : UInt8) = p := ⟨_, rfl⟩
      have hpad : padded s = pre ++ lenBytes s.length := by rw [← hpre]; rfl
      rw [hpre] at HA
      rw [hpre] at hlen
      obtain ⟨n, hn⟩ : ∃ n, s.length + 1 + gap (s.length + 1) = n := ⟨_, rfl⟩
      rw [hn] at hd HA hlen ⊢
      have hn2 : n ≤ s.length + 64 := by omega
      have HP := Lib.hid hpad
      have hm8 : (n + 8) % 64 = 0 := by omega
      obtain ⟨L, hL⟩ : ∃ L, lenBytes s.length = L := ⟨_, rfl⟩
      clear hpre hpad hgm hgl hlt hn
      go_wp2_with fail
      go_loopw [3, 5] (fun v vk wq => ∃ (j : Nat) (k : Int), j ≤ 8 ∧ vk = .int .i64 k ∧ k = 56 - 8 * (j : Int) ∧ Ap wq w.heap.size v (pre ++ (lenBytes s.length).take j) ∧ Kept [] w wq) (fun _ vk _ => (intOf vk + 8).toNat)
      case atStart => exact ⟨0, 56, by omega, rfl, by omega, by simpa using HA.out, hkr⟩
      case round =>
        obtain ⟨j, k, hj, rfl, hkk, ha, hkr⟩ := hrel
        have hLl := lenBytes_length s.length
        have hlen2 : (pre ++ (lenBytes s.length).take j).length = n + j := by simp; omega
        obtain ⟨b, cap, hv, hbb, hbl, hlc, hcm, hcells, hroom⟩ := ha.form
        rw [hlen2] at hv
        subst hv
        have HA2 := Lib.hid ha
        have hsz2 := hkr.size
        clear hcells hroom ha
        by_cases hlt : j < 8
        · obtain ⟨K, rfl⟩ : ∃ K : Nat, k = K := ⟨56 - 8 * j, by omega⟩
          have hK : 56 - 8 * j = K := by omega
          have hK56 : K ≤ 56 := by omega
          have htk := lenBytes_take s.length j hlt
          rw [hK, Nat.mod_eq_of_lt (by omega)] at htk
          have iX : (8 * (s.length : Int)) / 2 ^ K = ((8 * s.length / 2 ^ K : Nat) : Int) := by simp
          obtain ⟨X, hX⟩ : ∃ X, 8 * s.length / 2 ^ K = X := ⟨_, rfl⟩
          rw [hX] at iX htk
          have iC := u8_of X
          have iD : (X : Int) % 256 = ((UInt8.ofNat X).toNat : Int) := by rw [← iC]; simp [IntKind.wrap, IntKind.bits, IntKind.signed]
          obtain ⟨c, hc⟩ : ∃ c, UInt8.ofNat X = c := ⟨_, rfl⟩
          rw [hc] at iC iD htk
          have HKK := Lib.hid hkk
          have HT := Lib.hid htk
          have hd : decide ((0 : Int) ≤ (K : Int)) = true := by simp
          have N2 : Hid ((wr.alloc (.cells #[.int .u8 (c.toNat : Int)] 5)).cell? ⟨wr.heap.size, 0, none⟩ = some (bval c)) := byte_new wr c _
          clear hX hc htk hK hkk
          go_wp2_with (at_builtin; refine wpList_ap rfl _ _ rfl w.heap.size _ (pre ++ (lenBytes s.length).take j) rfl (HA2.out.alloc _) ⟨wr.heap.size, 0, none⟩ c rfl N2.out (by omega) (by simp; omega) ?_; intro v2 w2 ha2 hb2)
          go_roundw
          case rel => exact ⟨j + 1, (K : Int) - 8, by omega, by go_num, by have := HKK.out; omega, by rw [HT.out, ← List.append_assoc]; exact ha2, (hkr.alloc _).then_below hb2⟩
          case measure => simp [intOf]; omega
        · obtain rfl : j = 8 := by omega
          have hfull : pre ++ (lenBytes s.length).take 8 = padded s := by rw [List.take_of_length_le (by omega), HP.out]
          rw [hfull] at HA2
          go_wp2_with fail
          go_ret
          exact ⟨⟨_, rfl, HA2.out⟩, hkr⟩
end Go.Proofs.YtpcdfepndmconaaGreatDoor
/- The hash, as the reference makes it. -/
namespace Go.Proofs.YtpcdfepndmconaaGreatDoor
open Go.RowKit ShaP

theorem padded_whole (s : List UInt8) : ∃ M, (padded s).length = 64 * M ∧ 1 ≤ M ∧ 64 * M ≤ s.length + 72 := by
  have h1 := gap_mod (s.length + 1)
  have h2 := gap_lt (s.length + 1)
  have h3 := lenBytes_length s.length
  have h4 : (padded s).length = s.length + 1 + gap (s.length + 1) + 8 := by
    unfold padded
    simp only [List.length_append, List.length_replicate, List.length_cons, List.length_nil, h3]
  exact ⟨(s.length + 1 + gap (s.length + 1) + 8) / 64, by omega, by omega, by omega⟩
theorem flat_at (g : S8) (i : Nat) (hi : i < 32) : (g.list.flatMap wbytes).take (i + 1) = (g.list.flatMap wbytes).take i ++ [UInt8.ofNat ((g.list.getD (i / 4) 0).toNat / 2 ^ (24 - 8 * (i % 4)))] := by
  obtain ⟨q, r, hq, hr, rfl⟩ : ∃ q r, q < 8 ∧ r < 4 ∧ i = 4 * q + r := ⟨i / 4, i % 4, by omega, by omega, by omega⟩
  rw [show (4 * q + r) / 4 = q by omega, show (4 * q + r) % 4 = r by omega]
  rcases (by omega : q = 0 ∨ q = 1 ∨ q = 2 ∨ q = 3 ∨ q = 4 ∨ q = 5 ∨ q = 6 ∨ q = 7) with rfl | rfl | rfl | rfl | rfl | rfl | rfl | rfl <;>
    rcases (by omega : r = 0 ∨ r = 1 ∨ r = 2 ∨ r = 3) with rfl | rfl | rfl | rfl <;> simp [S8.list, wbytes, List.getD]

set_option maxRecDepth 100000 in
set_option maxHeartbeats 8000000 in
theorem rsha_any (s : List UInt8) (w : World) (hl : s.length ≤ 100000000) :
    Calls Tryz.prog 206 #[.string ⟨s.toArray⟩] w fun e w' => e = .returned (.string ⟨(sha s).toArray⟩) ∧ Kept [] w w' := by
  have hcv := Lib.run_convert_string_bytes (P := Tryz.prog) w 9 202 5 ⟨s.toArray⟩ Tryz.underlying9 Tryz.underlying202 Tryz.underlying5
  have A0 := Lib.hid (Ap.conv w s hl)
  have K0 : Hid (Kept [] w (Lib.bytesWorld w 5 ⟨s.toArray⟩)) := Kept.of_below (Lib.bytesWorld_below _ _ _)
  go_enter Tryz.func206, Tryz.ntmps206
  go_upto_region 1 with (fail)
  obtain ⟨W1, hW1⟩ : ∃ W1, Lib.bytesWorld w 5 ⟨s.toArray⟩ = W1 := ⟨_, rfl⟩
  rw [hW1] at hcv A0 K0
  clear hW1
  go_wp2_with (go_at_call 217; refine (rpadded_any _ s _ _ A0.out hl).mono ?_)
  rintro e w1 ⟨⟨v3, rfl, a3⟩, k1⟩
  obtain ⟨b, c3, rfl, hbb, hbl, hlc, hcm, hcs, _⟩ := a3.form
  obtain ⟨M, hM, hM1, hM2⟩ := padded_whole s
  rw [hM] at hlc ⊢
  have k01 := K0.out.trans k1
  have HCS := Lib.hid hcs
  clear hcs a3 k1
  go_wp2_with (go_at_call 218; refine (firsts_any _).mono ?_)
  rintro e w2 ⟨rfl, hw2⟩
  have k2 : Kept [] w1 w2 := hw2 ▸ (Kept.refl _ _).alloc _
  have st2 : St8 w2 w1.heap.size (mixed (padded s) 0).list := St8.of_blk (T := 218) (hw2 ▸ Blk.new _ _ _) (S8.len _)
  have hcs2 : ∀ j (h : j < (padded s).length), w2.cell? ⟨b, j, none⟩ = some (.int .u8 ((padded s)[j].toNat : Int)) := fun j h => (k2.cell (p := ⟨b, j, none⟩) hbl (by simp)).trans (HCS.out j h)
  have hbl2 : b < w2.heap.size := Nat.lt_of_lt_of_le hbl k2.size
  obtain ⟨b2, hb2⟩ : ∃ x, w1.heap.size = x := ⟨_, rfl⟩
  rw [hb2] at st2 ⊢
  have CS2 := Lib.hid hcs2
  have ST2 := Lib.hid st2
  have K2 := Lib.hid (k01.trans k2)
  have HM := Lib.hid hM
  clear hcs2 st2 k2 hw2 hb2 k01 hbl HCS hM
  unfold maxLen at hcm
  go_upto_region 4 with (fail)
  go_loopw [4, 5] (fun v4 v5 wr => ∃ (k B cp : Nat), k ≤ M ∧ v5 = .int .i64 ((64 * k : Nat) : Int) ∧ v4 = .slice (some ⟨B, 0, none⟩) 8 cp ∧ 8 ≤ cp ∧ St8 wr B (mixed (padded s) k).list ∧ Kept [] w2 wr) (fun _ v5 _ => 64 * M - (intOf v5).toNat)
  case atStart => exact ⟨0, b2, 8, by omega, rfl, rfl, by omega, ST2.out, Kept.refl _ _⟩
  case round =>
    obtain ⟨k, B, cp, hk, rfl, rfl, hcp, hst, hkr⟩ := hrel
    by_cases hlt : k < M
    · have hmn : mixed (padded s) (k + 1) = ShaP.mix (mixed (padded s) k) (((padded s).drop (64 * k)).take 64) := rfl
      have hrow := block_row (c := c3 - 64 * k) HM.out hlt (by omega) (fun j h => (hkr.cell (p := ⟨b, j, none⟩) hbl2 (by simp)).trans (CS2.out j h))
      obtain ⟨g, hg⟩ : ∃ g, mixed (padded s) k = g := ⟨_, rfl⟩
      obtain ⟨ch, hch⟩ : ∃ x, ((padded s).drop (64 * k)).take 64 = x := ⟨_, rfl⟩
      rw [hg] at hst hmn
      rw [hch] at hrow hmn
      have ML := rblock_any (.slice (some ⟨B, 0, none⟩) 8 cp) (.slice (some ⟨b, 64 * k, none⟩) 64 (c3 - 64 * k)) g ch wr (hst.row (S8.len _) hcp) hrow
      obtain ⟨gn, hgn⟩ : ∃ x, ShaP.mix g ch = x := ⟨_, rfl⟩
      rw [hgn] at ML hmn
      have MLH := Lib.hid ML
      clear hg hch hgn hst
      obtain ⟨n, hn⟩ : ∃ n, 64 * k = n := ⟨_, rfl⟩
      have hn1 : n + 64 ≤ 64 * M := by omega
      have i1 : IntKind.i64.wrap ((n : Int) + 64) = ((n + 64 : Nat) : Int) := by rw [IntKind.wrap_i64]; omega
      obtain ⟨N, hN⟩ : ∃ N, 64 * M = N := ⟨_, rfl⟩
      have i2 : ((n : Int) + 64) = ((n + 64 : Nat) : Int) := by omega
      obtain ⟨n2, hn2⟩ : ∃ m, n + 64 = m := ⟨_, rfl⟩
      rw [hn2] at i1 i2 hn1
      rw [hn] at MLH ⊢
      rw [hN] at hlc hn1 ⊢
      have hd : decide ((n : Int) < (N : Int)) = true := by simp; omega
      have hcc : n2 ≤ c3 := by omega
      have hnn : n ≤ n2 := by omega
      have hnc : n < c3 := by omega
      have hn0 : (0 : Int) ≤ (n : Int) := Int.natCast_nonneg _
      have icc : (n2 : Int) ≤ (c3 : Int) := by omega
      have inn : (n : Int) ≤ (n2 : Int) := by omega
      have e64 : n2 - n = 64 := by omega
      have HMN := Lib.hid hmn
      have HKN := Lib.hid hn
      clear ML hrow hmn hn hn2
      go_upto_region 6 with (fail)
      go_wp2_with (go_at_call 219; with_reducible refine MLH.out.mono ?_)
      rintro e w9 ⟨B9, cp9, rfl, hcp9, hB9, hst9, hk9⟩
      go_wp2_with fail
      go_roundw
      case rel =>
        have hkn := HKN.out
        have e1 : 64 * (k + 1) = n2 := by omega
        exact ⟨k + 1, B9, cp9, by omega, by rw [e1], rfl, hcp9, by rw [HMN.out]; exact hst9, hkr.trans hk9⟩
      case measure =>
        simp only [intOf, Int.toNat_natCast]
        omega
    · obtain rfl : k = M := by omega
      obtain ⟨N, hN⟩ : ∃ N, 64 * k = N := ⟨_, rfl⟩
      have hd : decide ((N : Int) < (N : Int)) = false := by simp
      have hsha : sha s = (mixed (padded s) k).list.flatMap wbytes := by
        unfold sha
        rw [HM.out, Nat.mul_div_cancel_left _ (by omega)]
      have HSHA := Lib.hid hsha
      obtain ⟨g, hg⟩ : ∃ g, mixed (padded s) k = g := ⟨_, rfl⟩
      rw [hg] at hst HSHA
      rw [hN] at hlc ⊢
      have HST := Lib.hid hst
      have k0 : Kept [] w wr := K2.out.trans hkr
      have K0' := Lib.hid k0
      have hBl := hst.lt
      clear hsha hg hN hst k0
      obtain ⟨iw, hi, hz0, hz1, hz2⟩ := info_parts infoByteA
      go_upto_region 9 with (fail)
      obtain ⟨wo, hwo⟩ : ∃ wo : World, wo = wr := ⟨_, rfl⟩
      subst hwo
      have L32 : (g.list.flatMap wbytes).length = 32 := by rw [flat_len4]; rfl
      go_loopw [6, 7] (fun v6 v7 wq => ∃ i : Nat, i ≤ 32 ∧ v7 = .int .i64 i ∧ wq.ownsRow wo.heap.size 5 1 v6 i (((g.list.flatMap wbytes).take i).map bval) ∧ Kept [] wo wq) (fun _ v7 _ => 32 - (intOf v7).toNat)
      case atStart => exact ⟨0, by omega, rfl, own_empty _ _, (Kept.refl _ _).alloc _⟩
      case round =>
        obtain ⟨i, hi32, rfl, hown, hkq⟩ := hrel
        obtain ⟨ao, co, rfl⟩ := own_form hown
        have hsq := hkq.size
        by_cases hlt : i < 32
        · have hft := flat_at g i hlt
          have xq : wr.cell? ⟨B, i / 4, none⟩ = some (wv (g.list.getD (i / 4) 0)) := (hkq.cell (p := ⟨B, i / 4, none⟩) hBl (by simp)).trans (HST.out.cell _ (by omega))
          obtain ⟨x, hx⟩ : ∃ x, g.list.getD (i / 4) 0 = x := ⟨_, rfl⟩
          rw [hx] at xq hft
          unfold wv at xq
          obtain ⟨K, hK⟩ : ∃ K, 24 - 8 * (i % 4) = K := ⟨_, rfl⟩
          have hK24 : K ≤ 24 := by omega
          rw [hK] at hft
          have iX : (x.toNat : Int) / 2 ^ K = ((x.toNat / 2 ^ K : Nat) : Int) := by simp
          obtain ⟨Y, hY⟩ : ∃ Y, x.toNat / 2 ^ K = Y := ⟨_, rfl⟩
          rw [hY] at iX hft
          have e1 := u8_of Y
          have e2 := u8_mod Y
          obtain ⟨cb, hcb⟩ : ∃ c, UInt8.ofNat Y = c := ⟨_, rfl⟩
          rw [hcb] at e1 e2 hft
          obtain ⟨X, hX⟩ : ∃ X, x.toNat = X := ⟨_, rfl⟩
          rw [hX] at xq iX
          have iQ : (i : Int) / 4 = ((i / 4 : Nat) : Int) := by omega
          have iR : (i : Int) % 4 = ((i % 4 : Nat) : Int) := by omega
          have iS : (24 : Int) - 8 * ((i % 4 : Nat) : Int) = (K : Int) := by omega
          obtain ⟨q, hq⟩ : ∃ q, i / 4 = q := ⟨_, rfl⟩
          obtain ⟨r, hr⟩ : ∃ r, i % 4 = r := ⟨_, rfl⟩
          have hq8 : q < 8 := by omega
          have hr4 : r < 4 := by omega
          rw [hq] at xq iQ
          rw [hr] at iR iS
          have nq8 : (q : Int) < 8 := by omega
          have hdK : decide ((0 : Int) ≤ (K : Int)) = true := by simp
          have HFT := Lib.hid hft
          have HOWN := Lib.hid hown
          have NW : Hid (∀ j u, [bval cb][j]? = some u → (wr.alloc (.cells #[.int .u8 cb.toNat] 5)).cell? ((⟨wr.heap.size, 0, none⟩ : Addr).add j) = some u) := word_new wr (bval cb) _
          clear hx hK hY hcb hX hq hr hft hown
          go_wp2_with (at_builtin; refine wpList_append_own _ rfl _ _ 202 rfl wo.heap.size 5 iw (.int .u8 0) 1 1 Tryz.underlying202 hi hz0 hz1 hz2 rfl (by decide) _ _ _ rfl (HOWN.out.alloc _) ⟨wr.heap.size, 0, none⟩ 1 1 [bval cb] rfl rfl NW.out (by intro u hu; rw [List.mem_singleton] at hu; subst hu; rfl) (by unfold maxLen; omega) (by omega) (by simp; omega) ?_; intro v2 w2 hown2 hg2 _)
          go_roundw
          case rel => exact ⟨i + 1, by omega, by go_num, by rw [HFT.out, List.map_append]; exact hown2, (hkq.alloc _).grown hg2 (fun x hx => Or.inr (HOWN.out.lt x hx).1)⟩
          case measure => simp [intOf]; omega
        · obtain rfl : i = 32 := by omega
          rw [List.take_of_length_le (by omega)] at hown
          have hownA : wr.ownsRow wo.heap.size 5 1 (.slice ao 32 co) (g.list.flatMap wbytes).length ((g.list.flatMap wbytes).map bval) := by
            rw [L32]
            exact hown
          obtain ⟨bo, cpo, hvo, _, _, _, _, hco, _⟩ := (Ap.of_own hownA (by omega)).form
          injection hvo with e1 e2 e3
          subst e1 e3
          have hcv2 := conv_back wr bo co (g.list.flatMap wbytes) hco
          rw [L32, ← HSHA.out] at hcv2
          clear hown hownA hco L32 e2
          go_wp2_with fail
          go_ret
          exact ⟨rfl, K0'.out.trans hkq⟩
end Go.Proofs.YtpcdfepndmconaaGreatDoor
namespace Go.Proofs.YtpcdfepndmconaaGreatDoor
open Go.RowKit ShaP

theorem sha_length (s : List UInt8) : (sha s).length = 32 := by unfold sha; rw [flat_len4]; rfl
/-- the number of the first k bytes -/
def numK (N : Nat) (bs : List UInt8) : Nat → Nat
  | 0 => 0
  | k + 1 => addN N ((mulN N (numK N bs k : Nat) 256 : Nat) : Int) ((bs.getD k 0).toNat : Int)
theorem numK_lt (N : Nat) (bs : List UInt8) (k : Nat) (h : 1 ≤ N) : numK N bs k < N := by
  cases k with
  | zero => exact h
  | succ k => exact Nat.mod_lt _ (by omega)
theorem mulN_lt (N : Nat) (a b : Int) (h : 1 ≤ N) : mulN N a b < N := Nat.mod_lt _ (by omega)
def numN (N : Nat) (s : List UInt8) : Nat := numK N (sha s) 32

set_option maxRecDepth 100000 in
set_option maxHeartbeats 1600000 in
theorem number_any (N : Nat) (s : List UInt8) (w : World) (h1 : 1 ≤ N) (h2 : N < 2305843009213693952) (hl : s.length ≤ 100000000) :
    Calls Tryz.prog 187 #[.string ⟨s.toArray⟩, .int .i64 N] w fun e w' => e = .returned (.int .i64 (numN N s : Nat)) ∧ Kept [] w w' := by
  have V := Lib.hid (fvalid_any N w h1 h2)
  have HS := Lib.hid (sha_any s w hl)
  go_enter Tryz.func187, Tryz.ntmps187
  go_upto_region 4 with (go_at_call 154; refine V.out.mono ?_; rintro e w0 ⟨rfl, rfl⟩)
  go_wp2_with (go_at_call 205; refine HS.out.mono ?_)
  rintro e w1 ⟨rfl, k1⟩
  have hL := sha_length s
  obtain ⟨bs, hbs⟩ : ∃ b, sha s = b := ⟨_, rfl⟩
  rw [hbs] at hL ⊢
  have hcv := Lib.run_convert_string_bytes (P := Tryz.prog) w1 9 202 5 ⟨bs.toArray⟩ Tryz.underlying9 Tryz.underlying202 Tryz.underlying5
  have A0 := Lib.hid (Ap.conv w1 bs (by omega))
  have K0 : Hid (Kept [] w1 (Lib.bytesWorld w1 5 ⟨bs.toArray⟩)) := Kept.of_below (Lib.bytesWorld_below _ _ _)
  have HB := Lib.hid hbs
  have HL := Lib.hid hL
  clear hbs hL
  go_upto_region 5 with (fail)
  obtain ⟨W1, hW1⟩ : ∃ W1, Lib.bytesWorld w1 5 ⟨bs.toArray⟩ = W1 := ⟨_, rfl⟩
  rw [hW1] at A0 K0 ⊢
  clear hW1 hcv
  have KW := Lib.hid (k1.trans K0.out)
  obtain ⟨b, c, hv, _, hbl, hlc, hcm, hcs, _⟩ := A0.out.form
  injection hv with e1 e2 e3
  injection e1 with e1
  injection e1 with e1 _ _
  rw [← e3] at hlc hcm
  have CS : Hid (∀ wr, Kept [] W1 wr → ∀ j, j < bs.length → wr.cell? ⟨w1.heap.size, j, none⟩ = some (.int .u8 ((bs.getD j 0).toNat : Int))) := fun wr hk j hj => by
    have := hcs j hj
    rw [← e1] at this
    refine (hk.cell (p := ⟨w1.heap.size, j, none⟩) (by rw [e1]; exact hbl) (by simp)).trans (this.trans ?_)
    simp [List.getD, hj]
  clear e1 e2 e3 hcs A0 K0
  obtain ⟨n, hn⟩ : ∃ n, bs.length = n := ⟨_, rfl⟩
  obtain ⟨cp, hcp⟩ : ∃ x, grownCap w1 bs.length 0 5 = x := ⟨_, rfl⟩
  rw [hcp] at hlc hcm ⊢
  have hn32 : n ≤ 32 := by have := HL.out; omega
  rw [hn] at CS HL hlc ⊢
  clear hcp
  go_loopw [5, 7, 15] (fun v5 _ v15 wr => ∃ k : Nat, k ≤ n ∧ v15 = .int .i64 k ∧ v5 = .int .i64 (numK N bs k : Nat) ∧ Kept [] W1 wr) (fun _ _ v15 _ => n - (intOf v15).toNat)
  case atStart => exact ⟨0, by omega, rfl, rfl, Kept.refl _ _⟩
  case round =>
    obtain ⟨k, hk, rfl, rfl, hkr⟩ := hrel
    by_cases hlt : k < n
    · have xk := CS.out wr hkr k hlt
      have hs : numK N bs (k + 1) = addN N ((mulN N (numK N bs k : Nat) 256 : Nat) : Int) ((bs.getD k 0).toNat : Int) := rfl
      have l0 := numK_lt N bs k h1
      have l1 := mulN_lt N (numK N bs k : Nat) 256 h1
      have hc := (bs.getD k 0).toNat_lt
      obtain ⟨cb, hcb⟩ : ∃ x, (bs.getD k 0).toNat = x := ⟨_, rfl⟩
      rw [hcb] at xk hs hc
      obtain ⟨A, hA⟩ : ∃ x, numK N bs k = x := ⟨_, rfl⟩
      rw [hA] at l0 l1 hs ⊢
      have HM : Hid (∀ w, Calls Tryz.prog 80 #[.int .i64 N, .int .i64 A, .int .i64 256] w fun e w' => e = .returned (.int .i64 ((mulN N A 256 : Nat) : Int)) ∧ Kept [] w w') := fun w => fmul_any N A 256 w h1 h2 (by constructor <;> omega) (by constructor <;> omega)
      obtain ⟨M, hM⟩ : ∃ x, mulN N A 256 = x := ⟨_, rfl⟩
      rw [hM] at l1 hs HM
      have HA : Hid (∀ w, Calls Tryz.prog 138 #[.int .i64 N, .int .i64 M, .int .i64 cb] w fun e w' => e = .returned (.int .i64 ((addN N M cb : Nat) : Int)) ∧ Kept [] w w') := fun w => fadd_any N M cb w h1 h2 (by constructor <;> omega) (by constructor <;> omega)
      rw [← hs] at HA
      have hd : decide ((k : Int) < (n : Int)) = true := by simp; omega
      have iw : IntKind.i64.wrap (cb : Int) = (cb : Int) := by rw [IntKind.wrap_i64]; omega
      have HLT := Lib.hid hlt
      obtain ⟨S, hS⟩ : ∃ x, numK N bs (k + 1) = x := ⟨_, rfl⟩
      rw [hS] at HA
      have HSS := Lib.hid hS
      clear hcb hs hA hM hS hc
      go_wp2_with (first
        | (go_at_call 80; with_reducible refine (HM.out _).mono ?_; rintro e w5 ⟨rfl, k5⟩)
        | (go_at_call 138; with_reducible refine (HA.out _).mono ?_; rintro e w6 ⟨rfl, k6⟩))
      go_roundw
      case rel => exact ⟨k + 1, by omega, by go_num, by rw [HSS.out], hkr.trans (k5.trans k6)⟩
      case measure => simp [intOf]; omega
    · obtain rfl : k = n := by omega
      have hd : decide ((k : Int) < (k : Int)) = false := by simp
      go_wp2_with fail
      go_ret
      refine ⟨?_, KW.out.trans hkr⟩
      unfold numN
      rw [HB.out, HL.out]
      rfl
end Go.Proofs.YtpcdfepndmconaaGreatDoor
