/- The hash, as the reference makes it. -/
import Derived.Test.YtcidfldeiklcjaaGreatDoorSh2
import Derived.ArgAppend
import Derived.Lib.ConvBytes
import Derived.Deep.AppendLies
import Derived.Test.YtcidfldeiklcjaaGreatDoorSh3
import Derived.Test.YtcidfldeiklcjaaGreatDoorApp
import Derived.Laws.IdiomStrings
/- JOINED: Ap Apo Sr1 Sr2 Sh4 Sr3 Sr4 -/
/- A row of bytes that one appends to, one at a time, its block whatever: the call's own, or that of a conversion. -/
namespace Go.Proofs.YtcidfldeiklcjaaGreatDoor
open Go.RowKit ShaP

theorem infoByteA : (Tryz.prog.info? 5).map (fun i => (i.zero, i.size, i.bytes)) = some (some (.int .u8 0), 1, 1) := by kernel_rfl

/-- bytes in memory, with room behind them -/
structure Ap (w : World) (base : Nat) (v : Value) (l : List UInt8) : Prop where
  form : ∃ b cap, v = .slice (some ⟨b, 0, none⟩) l.length cap ∧ base ≤ b ∧ b < w.heap.size ∧ l.length ≤ cap ∧ cap ≤ maxLen ∧
    (∀ j (h : j < l.length), w.cell? ⟨b, j, none⟩ = some (.int .u8 (l[j].toNat : Int))) ∧ (∀ j, j < cap → (w.cell? ⟨b, j, none⟩).isSome = true ∧ w.frozen? ⟨b, j, none⟩ = false)

def bval (c : UInt8) : Value := .int .u8 (c.toNat : Int)

theorem Ap.of_own {w : World} {base : Nat} {v : Value} {l : List UInt8} (h : w.ownsRow base 5 1 v l.length (l.map bval)) (hl : 0 < l.length) : Ap w base v l := by
  rcases h.2 with ⟨h1, h2⟩ | ⟨g, cap, cur, hv, hB, hg, hnc, hcm, hcs, hx⟩
  · omega
  · have hlt : g < w.heap.size := (Array.getElem?_eq_some_iff.1 hg).1
    refine ⟨g, cap, hv, hB, hlt, hnc, hcm, ?_, ?_⟩
    · intro j hj
      have : cur.toList[j]? = some (bval l[j]) := by
        have h4 : (cur.toList.take (l.length * 1))[j]? = (l.map bval)[j]? := by rw [hx]
        rw [List.getElem?_take_of_lt (by omega)] at h4
        rw [h4]
        simp [hj]
      simp [World.cell?, hg]
      simpa [bval] using this
    · intro j hj
      constructor
      · simp [World.cell?, hg]
        omega
      · simp [World.frozen?, hg]

theorem Ap.conv (w : World) (s : List UInt8) (hs : s.length ≤ 100000000) : Ap (Lib.bytesWorld w 5 ⟨s.toArray⟩) w.heap.size (.slice (some ⟨w.heap.size, 0, none⟩) s.length (grownCap w s.length 0 5)) s := by
  have hge := grownCap_ge w s.length 0 5
  have hcm := grownCap_le_maxLen w s.length 0 5 (by unfold maxLen; omega)
  have hnew := Lib.bytesWorld_at_new w 5 ⟨s.toArray⟩
  have hsz : (Lib.bytesCells w 5 ⟨s.toArray⟩).size = grownCap w s.length 0 5 := by
    simp [Lib.bytesCells, ByteArray.size]
    omega
  refine ⟨w.heap.size, _, rfl, Nat.le_refl _, by rw [Lib.bytesWorld_size]; omega, hge, hcm, ?_, ?_⟩
  · intro j hj
    have := Lib.bytesWorld_cell w 5 ⟨s.toArray⟩ j (by simpa [ByteArray.size] using hj)
    rw [this]
    simp [List.getD, hj]
  · intro j hj
    constructor
    · simp [World.cell?, hnew]
      omega
    · simp [World.frozen?, hnew]
      omega

theorem Ap.kept {w w' : World} {base : Nat} {v : Value} {l : List UInt8} (h : Ap w base v l) (k : Kept [] w w') : Ap w' base v l := by
  obtain ⟨b, cap, h1, h2, h3, h4, h5, h6, h7⟩ := h.form
  refine ⟨b, cap, h1, h2, Nat.lt_of_lt_of_le h3 k.size, h4, h5, fun j hj => ?_, fun j hj => ?_⟩
  · rw [k.cell (p := ⟨b, j, none⟩) h3 (by simp)]
    exact h6 j hj
  · rw [k.cell (p := ⟨b, j, none⟩) h3 (by simp), k.frozen (p := ⟨b, j, none⟩) h3 (by simp)]
    exact h7 j hj
theorem Ap.alloc {w : World} {base : Nat} {v : Value} {l : List UInt8} (h : Ap w base v l) (o : Obj) : Ap (w.alloc o) base v l := h.kept ((Kept.refl _ _).alloc o)
theorem byte_new (w : World) (c : UInt8) (T : TypeId) : (w.alloc (.cells #[bval c] T)).cell? ⟨w.heap.size, 0, none⟩ = some (bval c) := by
  rw [World.cell?_alloc_new]
  rfl
theorem Below.of_grown_none {w w' : World} {base : Nat} (h : w.grownBy w' none) (hb : base ≤ w.heap.size) : Below base w w' :=
  ⟨h.os, h.tape, h.output, h.size, fun k hk => h.block k (by omega) (by simp)⟩
/-- one byte more -/
theorem wpList_ap {w : World} {ops : Array Oper} {rest : List Oper} {o : Oper} {a : Act} {Q : Exit → Act → World → Prop}
    (hg : o.guard = none) (s x : Operand) (hop : o.op = Op.call { callee := Callee.builtin Builtin.append, args := #[s, x], argTypes := #[144, 144] })
    (base : Nat) (v : Value) (l : List UInt8) (hs : a.eval s = v) (hA : Ap w base v l) (ad : Addr) (c : UInt8) (hx : a.eval x = .slice (some ad) 1 1) (hc : w.cell? ad = some (bval c))
    (hl : l.length ≤ 1000000000) (hb : base ≤ w.heap.size)
    (hK : ∀ v' w', Ap w' base v' (l ++ [c]) → Below base w w' → wpList Tryz.prog ops Q rest (a.put o.dst v') w') : wpList Tryz.prog ops Q (o :: rest) a w := by
  obtain ⟨i, hi, hz0, hz1, hz2⟩ := info_parts infoByteA
  obtain ⟨b, cap, hv, hbb, hbl, hlc, hcm, hcells, hroom⟩ := hA.form
  have hnews : ∀ j u, [bval c][j]? = some u → w.cell? (ad.add j) = some u := by
    intro j u hu
    cases j with
    | zero =>
      have : ad.add 0 = ad := by unfold Addr.add; split <;> simp_all
      rw [this, hc]
      exact hu
    | succ j => simp at hu
  refine wpList_append_arg w hg s x 144 hop 5 i (.int .u8 0) 1 1 Tryz.underlying144 hi hz0 hz1 hz2 rfl (by decide) b 0 l.length cap (l.map bval) (hs.trans hv) (by simp) ?_ ad 1 1 [bval c] hx rfl hnews (by intro u hu; rw [List.mem_singleton] at hu; subst hu; rfl) ?_ (by unfold maxLen; omega) (by omega) ?_ ?_
  · intro j u hu
    rw [Nat.zero_add]
    by_cases hj : j < l.length
    · rw [hcells j hj]
      simpa [hj, bval] using hu
    · rw [List.getElem?_eq_none (by simpa using hj)] at hu
      cases hu
  · intro hr j hj
    simp at hj
    subst hj
    have := hroom l.length (by omega)
    simpa using this
  · intro hr
    have e : w.setCells b (0 + l.length * 1) [bval c] = w.setCell ⟨b, l.length, none⟩ (bval c) := by simp [World.setCells]
    rw [e]
    refine hK _ _ ⟨b, cap, by simp, hbb, by simpa [World.setCell] using hbl, by simp; omega, hcm, ?_, ?_⟩ ((Below.refl _ _).setCell (p := ⟨b, l.length, none⟩) hbb _)
    · intro j hj
      have h9 := (hroom l.length (by omega)).1
      by_cases hjl : j < l.length
      · have hne : (⟨b, l.length, none⟩ : Addr) ≠ ⟨b, j, none⟩ := by intro h; injection h; omega
        rw [show (w.setCell ⟨b, l.length, none⟩ (bval c)).cell? ⟨b, j, none⟩ = w.cell? ⟨b, j, none⟩ from World.cell?_setCell_other (h := hne) .., hcells j hjl]
        simp [hjl]
      · have hjj : j = l.length := by simp at hj; omega
        subst hjj
        rw [World.cell?_setCell_same' _ _ _ h9]
        simp [bval]
    · intro j hj
      obtain ⟨h1, h2⟩ := hroom j hj
      refine ⟨?_, by rw [World.frozen?_setCell]; exact h2⟩
      by_cases hjl : j = l.length
      · subst hjl
        rw [World.cell?_setCell_same' _ _ _ h1]
        rfl
      · have hne : (⟨b, l.length, none⟩ : Addr) ≠ ⟨b, j, none⟩ := by intro h; injection h; omega
        rw [show (w.setCell ⟨b, l.length, none⟩ (bval c)).cell? ⟨b, j, none⟩ = w.cell? ⟨b, j, none⟩ from World.cell?_setCell_other (h := hne) ..]
        exact h1
  · intro hr v' w' hown hgr
    refine hK _ _ ?_ (Below.of_grown_none hgr hb)
    have hown' : w'.ownsRow base 5 1 v' (l ++ [c]).length ((l ++ [c]).map bval) := by
      have := own_base hown hb
      simpa using this
    exact Ap.of_own hown' (by simp)
end Go.Proofs.YtcidfldeiklcjaaGreatDoor
/- An append onto a row that the call owns: the old elements stay where they lay, also in the old block. For a region that draws its order and loads from that row. -/
namespace Go.Proofs.YtcidfldeiklcjaaGreatDoor
open Go.RowKit

end Go.Proofs.YtcidfldeiklcjaaGreatDoor
/- The hash function's message schedule, as the reference makes it. -/
namespace Go.Proofs.YtcidfldeiklcjaaGreatDoor
open Go.RowKit ShaP

end Go.Proofs.YtcidfldeiklcjaaGreatDoor
/- The hash function's compression, as the reference does it. -/
namespace Go.Proofs.YtcidfldeiklcjaaGreatDoor
open Go.RowKit ShaP

end Go.Proofs.YtcidfldeiklcjaaGreatDoor
/- The hash function, as the program computes it. -/
namespace Go.Proofs.YtcidfldeiklcjaaGreatDoor
open Go.RowKit ShaP

def lenOf : Value → Nat
  | .slice _ n _ => n
  | _ => 0

theorem lenBytes_take (n j : Nat) (hj : j < 8) : (lenBytes n).take (j + 1) = (lenBytes n).take j ++ [UInt8.ofNat (8 * n % 18446744073709551616 / 2 ^ (56 - 8 * j))] := by
  unfold lenBytes
  rw [← List.map_take, ← List.map_take, List.take_range, List.take_range, Nat.min_eq_left (by omega), Nat.min_eq_left (by omega), List.range_succ, List.map_append]
  rfl
theorem u8_of (X : Nat) : IntKind.u8.wrap (X : Int) = ((UInt8.ofNat X).toNat : Int) := by
  simp [IntKind.wrap, IntKind.bits, IntKind.signed]

/-- 64 bytes of a row -/
theorem block_row {w : World} {b c k M : Nat} {p : List UInt8} (hp : p.length = 64 * M) (hk : k < M) (hc : 64 ≤ c) (hx : ∀ j (h : j < p.length), w.cell? ⟨b, j, none⟩ = some (.int .u8 (p[j].toNat : Int))) :
    Row w 1 (.slice (some ⟨b, 64 * k, none⟩) 64 c) 64 (bcs ((p.drop (64 * k)).take 64)) := by
  have hl : ((p.drop (64 * k)).take 64).length = 64 := by simp; omega
  refine ⟨by simp [bcs]; omega, by omega, _, _, rfl, hc, fun _ => ⟨b, 64 * k, rfl, fun j u hu => ?_⟩⟩
  have hj : j < 64 := by
    rcases Nat.lt_or_ge j 64 with h | h
    · exact h
    · rw [List.getElem?_eq_none (by simp [bcs]; omega)] at hu
      cases hu
  rw [hx (64 * k + j) (by omega)]
  rw [← hu]
  simp [bcs, hj, List.getElem?_drop, show 64 * k + j < p.length by omega]

theorem conv_back (w : World) (b cap : Nat) (l : List UInt8) (hc : ∀ j (h : j < l.length), w.cell? ⟨b, j, none⟩ = some (.int .u8 (l[j].toNat : Int))) :
    (convert 144 9 (.slice (some ⟨b, 0, none⟩) l.length cap)).run Tryz.prog w = .ok (.string ⟨l.toArray⟩) w :=
  run_convert_bytes_back w 144 9 5 ⟨b, 0, none⟩ cap l Tryz.underlying144 Tryz.underlying5 Tryz.underlying9 (fun j hj => by rw [add_cell, Nat.zero_add]; exact hc j hj)
theorem flat_take (l : List W) (i : Nat) (hi : i < l.length) : ((l.take (i + 1)).flatMap wbytes) = (l.take i).flatMap wbytes ++ wbytes (l.getD i 0) := by
  rw [List.take_succ_eq_append_getElem hi, List.flatMap_append]
  simp [List.getD, hi]
theorem flat_len4 (l : List W) : (l.flatMap wbytes).length = 4 * l.length := by
  induction l with
  | nil => rfl
  | cons a l ih => rw [List.flatMap_cons, List.length_append, ih, List.length_cons]; simp [wbytes]; omega
theorem u8_mod (X : Nat) : (X : Int) % 256 = ((UInt8.ofNat X).toNat : Int) := by
  rw [← u8_of]
  simp [IntKind.wrap, IntKind.bits, IntKind.signed]
theorem new4 (w : World) (a b c d : Value) (T : TypeId) : ∀ j u, [a, b, c, d][j]? = some u → (w.alloc (.cells #[a, b, c, d] T)).cell? ((⟨w.heap.size, 0, none⟩ : Addr).add j) = some u := by
  intro j u hu
  rw [add_cell, World.cell?_alloc_new, Nat.zero_add]
  simpa using hu
theorem ixw (s : S8) (i : Nat) (hi : i < 8) (w : World) : (Instr.index 190 (.agg (wvs s.list).toArray) (.int .i64 i)).run Tryz.prog w = .ok (wv (s.list.getD i 0)) w := by
  rcases (by omega : i = 0 ∨ i = 1 ∨ i = 2 ∨ i = 3 ∨ i = 4 ∨ i = 5 ∨ i = 6 ∨ i = 7) with rfl | rfl | rfl | rfl | rfl | rfl | rfl | rfl <;> kernel_rfl

set_option maxRecDepth 100000 in
set_option maxHeartbeats 4000000 in
theorem sha_any (s : List UInt8) (w : World) (hl : s.length ≤ 100000000) :
    Calls Tryz.prog 92 #[.string ⟨s.toArray⟩] w fun e w' => e = .returned (.string ⟨(sha s).toArray⟩) ∧ Kept [] w w' := by
  have hcv := Lib.run_convert_string_bytes (P := Tryz.prog) w 9 144 5 ⟨s.toArray⟩ Tryz.underlying9 Tryz.underlying144 Tryz.underlying5
  have A0 := Lib.hid (Ap.conv w s hl)
  have K0 : Hid (Kept [] w (Lib.bytesWorld w 5 ⟨s.toArray⟩)) := Kept.of_below (Lib.bytesWorld_below _ _ _)
  go_enter Tryz.func92, Tryz.ntmps92
  go_upto_region 1 with (fail)
  obtain ⟨W1, hW1⟩ : ∃ W1, Lib.bytesWorld w 5 ⟨s.toArray⟩ = W1 := ⟨_, rfl⟩
  rw [hW1] at hcv A0 K0
  have hB1 : w.heap.size ≤ W1.heap.size := K0.out.size
  have N1 : Hid ((W1.alloc (.cells #[.int .u8 128] 5)).cell? ⟨W1.heap.size, 0, none⟩ = some (bval 128)) := byte_new W1 128 _
  clear hW1
  go_wp2_with (at_builtin; refine wpList_ap rfl _ _ rfl w.heap.size _ s rfl (A0.out.alloc _) ⟨W1.heap.size, 0, none⟩ 128 rfl N1.out (by omega) (by simp; omega) ?_; intro v1 w1 ha1 hb1)
  have hk1 : Kept [] w w1 := (K0.out.alloc _).then_below hb1
  go_loopw [3] (fun v wr => ∃ j : Nat, j ≤ gap (s.length + 1) ∧ Ap wr w.heap.size v (s ++ [128] ++ List.replicate j 0) ∧ Kept [] w wr) (fun v _ => s.length + 200 - lenOf v)
  case atStart => exact ⟨0, by omega, by simpa using ha1, hk1⟩
  case round =>
    obtain ⟨j, hj, ha, hkr⟩ := hrel
    have hgl := gap_lt (s.length + 1)
    have hlen : (s ++ [128] ++ List.replicate j (0 : UInt8)).length = s.length + 1 + j := by simp; omega
    obtain ⟨b, cap, hv, hbb, hbl, hlc, hcm, hcells, hroom⟩ := ha.form
    rw [hlen] at hv
    subst hv
    have HA := Lib.hid ha
    have hsz := hkr.size
    clear hcells hroom ha
    by_cases hlt : j < gap (s.length + 1)
    · have hne := gap_least (s.length + 1) j hlt
      have hd : (((s.length + 1 + j : Nat) : Int) % 64 != 56) = true := by simp; omega
      have N2 : Hid ((wr.alloc (.cells #[.int .u8 0] 5)).cell? ⟨wr.heap.size, 0, none⟩ = some (bval 0)) := byte_new wr 0 _
      obtain ⟨n, hn⟩ : ∃ n, s.length + 1 + j = n := ⟨_, rfl⟩
      rw [hn] at hd HA ⊢
      go_wp2_with (at_builtin; refine wpList_ap rfl _ _ rfl w.heap.size _ (s ++ [128] ++ List.replicate j 0) rfl (HA.out.alloc _) ⟨wr.heap.size, 0, none⟩ 0 rfl N2.out (by omega) (by simp; omega) ?_; intro v2 w2 ha2 hb2)
      go_roundw
      case rel => exact ⟨j + 1, by omega, by rw [List.replicate_succ', ← List.append_assoc]; exact ha2, (hkr.alloc _).then_below hb2⟩
      case measure =>
        obtain ⟨b2, cap2, hv2, _⟩ := ha2.form
        rw [hv2]
        simp [lenOf]
        omega
    · as_aux_lemma =>
      obtain rfl : j = gap (s.length + 1) := by omega
      have hgm := gap_mod (s.length + 1)
      have hd : (((s.length + 1 + gap (s.length + 1) : Nat) : Int) % 64 != 56) = false := by simp; omega
      obtain ⟨pre, hpre⟩ : ∃ p, s ++ [128] ++ List.replicate (gap (s.length + 1)) (0 : UInt8) = p := ⟨_, rfl⟩
      have hpad : padded s = pre ++ lenBytes s.length := by rw [← hpre]; rfl
      rw [hpre] at HA
      rw [hpre] at hlen
      obtain ⟨n, hn⟩ : ∃ n, s.length + 1 + gap (s.length + 1) = n := ⟨_, rfl⟩
      rw [hn] at hd HA hlen ⊢
      have hn2 : n ≤ s.length + 64 := by omega
      have HP := Lib.hid hpad
      have hm8 : (n + 8) % 64 = 0 := by omega
      obtain ⟨L, hL⟩ : ∃ L, lenBytes s.length = L := ⟨_, rfl⟩
      clear hpre hpad hgm hgl hlt hn
      go_wp2_with fail
      go_loopw [3, 4] (fun v vk wq => ∃ (j : Nat) (k : Int), j ≤ 8 ∧ vk = .int .i64 k ∧ k = 56 - 8 * (j : Int) ∧ Ap wq w.heap.size v (pre ++ (lenBytes s.length).take j) ∧ Kept [] w wq) (fun _ vk _ => (intOf vk + 8).toNat)
      case atStart => exact ⟨0, 56, by omega, rfl, by omega, by simpa using HA.out, hkr⟩
      case round =>
        obtain ⟨j, k, hj, rfl, hkk, ha, hkr⟩ := hrel
        have hLl := lenBytes_length s.length
        have hlen2 : (pre ++ (lenBytes s.length).take j).length = n + j := by simp; omega
        obtain ⟨b, cap, hv, hbb, hbl, hlc, hcm, hcells, hroom⟩ := ha.form
        rw [hlen2] at hv
        subst hv
        have HA2 := Lib.hid ha
        have hsz2 := hkr.size
        clear hcells hroom ha
        by_cases hlt : j < 8
        · obtain ⟨K, rfl⟩ : ∃ K : Nat, k = K := ⟨56 - 8 * j, by omega⟩
          have hK : 56 - 8 * j = K := by omega
          have hK56 : K ≤ 56 := by omega
          have htk := lenBytes_take s.length j hlt
          rw [hK, Nat.mod_eq_of_lt (by omega)] at htk
          have iX : (8 * (s.length : Int)) / 2 ^ K = ((8 * s.length / 2 ^ K : Nat) : Int) := by simp
          obtain ⟨X, hX⟩ : ∃ X, 8 * s.length / 2 ^ K = X := ⟨_, rfl⟩
          rw [hX] at iX htk
          have iC := u8_of X
          have iD : (X : Int) % 256 = ((UInt8.ofNat X).toNat : Int) := by rw [← iC]; simp [IntKind.wrap, IntKind.bits, IntKind.signed]
          obtain ⟨c, hc⟩ : ∃ c, UInt8.ofNat X = c := ⟨_, rfl⟩
          rw [hc] at iC iD htk
          have HKK := Lib.hid hkk
          have HT := Lib.hid htk
          have hd : decide ((0 : Int) ≤ (K : Int)) = true := by simp
          have N2 : Hid ((wr.alloc (.cells #[.int .u8 (c.toNat : Int)] 5)).cell? ⟨wr.heap.size, 0, none⟩ = some (bval c)) := byte_new wr c _
          clear hX hc htk hK hkk
          go_wp2_with (at_builtin; refine wpList_ap rfl _ _ rfl w.heap.size _ (pre ++ (lenBytes s.length).take j) rfl (HA2.out.alloc _) ⟨wr.heap.size, 0, none⟩ c rfl N2.out (by omega) (by simp; omega) ?_; intro v2 w2 ha2 hb2)
          go_roundw
          case rel => exact ⟨j + 1, (K : Int) - 8, by omega, by go_num, by have := HKK.out; omega, by rw [HT.out, ← List.append_assoc]; exact ha2, (hkr.alloc _).then_below hb2⟩
          case measure => simp [intOf]; omega
        · as_aux_lemma =>
          obtain rfl : j = 8 := by omega
          obtain rfl : k = -8 := by omega
          have hfull : pre ++ (lenBytes s.length).take 8 = padded s := by rw [List.take_of_length_le (by omega), HP.out]
          have hcp0 : n + 8 ≤ cap := by omega
          rw [hfull] at HA2 hlen2
          obtain ⟨M, hM⟩ : ∃ M, n + 8 = 64 * M := ⟨(n + 8) / 64, by omega⟩
          rw [hM] at HA2 hlen2 ⊢
          have hM0 : 1 ≤ M := by omega
          have hM2 : M ≤ 2000000 := by omega
          have hsha : sha s = (mixed (padded s) M).list.flatMap wbytes := by
            unfold sha
            rw [hlen2, Nat.mul_div_cancel_left _ (by omega)]
          have HSHA := Lib.hid hsha
          have hcp : 64 * M ≤ cap := by omega
          have hcm2 : cap ≤ maxLen := hcm
          have hCL : Hid (b < wr.heap.size ∧ ∀ j (h : j < (padded s).length), wr.cell? ⟨b, j, none⟩ = some (.int .u8 ((padded s)[j].toNat : Int))) := by
            obtain ⟨b', cap', hv', _, hbl', _, _, hcs', _⟩ := HA2.out.form
            injection hv' with e1 e2 e3
            injection e1 with e1
            injection e1 with e1 _ _
            subst e1
            exact ⟨hbl', hcs'⟩
          have HL2 := Lib.hid hlen2
          have i8 : (Tryz.prog.info? 190).map (·.size) = some 8 := by kernel_rfl
          have I8 := Lib.hid i8
          unfold maxLen at hcm2
          clear hfull hM hsha hlen2 HA2 hLl i8
          go_wp2_with (go_at_call 143; refine (first_any _).mono ?_)
          rintro e w5 ⟨rfl, k5⟩
          have HZ5 : Hid (Blk (w5.alloc (.cells #[.int .u32 0, .int .u32 0, .int .u32 0, .int .u32 0, .int .u32 0, .int .u32 0, .int .u32 0, .int .u32 0] 190)) w5.heap.size 190 #[.int .u32 0, .int .u32 0, .int .u32 0, .int .u32 0, .int .u32 0, .int .u32 0, .int .u32 0, .int .u32 0]) := Blk.new _ _ _
          have OF := Lib.hid (wvs_one first.list)
          go_upto_region 9 with (refine wpList_store_row rfl _ _ _ rfl w5.heap.size (wvs first.list).toArray rfl rfl 190 _ HZ5.out I8.out rfl OF.out ?_)
          obtain ⟨W6, hW6⟩ : ∃ W6, ((w5.alloc (.cells #[.int .u32 0, .int .u32 0, .int .u32 0, .int .u32 0, .int .u32 0, .int .u32 0, .int .u32 0, .int .u32 0] 190)).setRow w5.heap.size (wvs first.list).toArray) = W6 := ⟨_, rfl⟩
          rw [hW6]
          have k6 : Kept [] wr W6 := k5.trans (hW6 ▸ (((Kept.refl _ _).alloc _).setRow (Or.inr (Nat.le_refl _)) _))
          have c6 : Blk W6 w5.heap.size 190 (wvs first.list).toArray := hW6 ▸ Blk.setRow HZ5.out
          have hcl6 : ∀ j (h : j < (padded s).length), W6.cell? ⟨b, j, none⟩ = some (.int .u8 ((padded s)[j].toNat : Int)) := fun j h => (k6.cell (p := ⟨b, j, none⟩) hCL.out.1 (by simp)).trans (hCL.out.2 j h)
          have hbH : b < w5.heap.size := Nat.lt_of_lt_of_le hCL.out.1 k5.size
          have hb6 : b < W6.heap.size := Nat.lt_of_lt_of_le hCL.out.1 k6.size
          have hwH : w.heap.size ≤ w5.heap.size := Nat.le_trans hkr.size k5.size
          obtain ⟨H, hH⟩ : ∃ H, w5.heap.size = H := ⟨_, rfl⟩
          rw [hH] at c6 hbH hwH ⊢
          have C6 := Lib.hid c6
          have CL6 := Lib.hid hcl6
          have K6 := Lib.hid (hkr.trans k6)
          clear hW6 c6 hcl6 hH HZ5
          go_frame
          go_loopw [3] (fun v wq => ∃ (k : Nat) (a : Option Addr) (c : Nat), k ≤ M ∧ v = .slice a (64 * (M - k)) c ∧ 64 * (M - k) ≤ c ∧ c ≤ cap ∧ (k < M → a = some ⟨b, 64 * k, none⟩) ∧ Blk wq H 190 (wvs (mixed (padded s) k).list).toArray ∧ Kept [H] W6 wq) (fun v _ => lenOf v)
          case atStart => exact ⟨0, some ⟨b, 0, none⟩, cap, by omega, by rw [Nat.sub_zero], by omega, by omega, fun _ => rfl, C6.out, Kept.refl _ _⟩
          case round =>
            obtain ⟨k, a, c, hk, rfl, hc, hcc, ha, hb, hkq⟩ := hrel
            by_cases hlt : k < M
            · as_aux_lemma =>
              obtain rfl := ha hlt
              have hmn : mixed (padded s) (k + 1) = ShaP.mix (mixed (padded s) k) (((padded s).drop (64 * k)).take 64) := rfl
              have hrow := block_row (c := c) HL2.out hlt (by omega) (fun j h => (hkq.cell (p := ⟨b, j, none⟩) hb6 (by simp; omega)).trans (CL6.out j h))
              obtain ⟨g, hg⟩ : ∃ g, mixed (padded s) k = g := ⟨_, rfl⟩
              obtain ⟨ch, hch⟩ : ∃ x, ((padded s).drop (64 * k)).take 64 = x := ⟨_, rfl⟩
              rw [hg] at hb hmn
              rw [hch] at hrow hmn
              have x0 : wr.cell? ⟨H, 0, none⟩ = some (wv g.a) := hb.cell 0
              have x1 : wr.cell? ⟨H, 1, none⟩ = some (wv g.b) := hb.cell 1
              have x2 : wr.cell? ⟨H, 2, none⟩ = some (wv g.c) := hb.cell 2
              have x3 : wr.cell? ⟨H, 3, none⟩ = some (wv g.d) := hb.cell 3
              have x4 : wr.cell? ⟨H, 4, none⟩ = some (wv g.e) := hb.cell 4
              have x5 : wr.cell? ⟨H, 5, none⟩ = some (wv g.f) := hb.cell 5
              have x6 : wr.cell? ⟨H, 6, none⟩ = some (wv g.g) := hb.cell 6
              have x7 : wr.cell? ⟨H, 7, none⟩ = some (wv g.h) := hb.cell 7
              have HBQ := Lib.hid hb
              have HR := Lib.hid hrow
              obtain ⟨ln, hln⟩ : ∃ l, 64 * (M - k) = l := ⟨_, rfl⟩
              rw [hln] at hc ⊢
              have hl64 : 64 ≤ ln := by omega
              have hd : decide ((0 : Int) < (ln : Int)) = true := by simp; omega
              have ml := mix_any (.slice (some ⟨b, 64 * k, none⟩) 64 c) g ch wr.drew (hrow.drew)
              obtain ⟨gn, hgn⟩ : ∃ x, ShaP.mix g ch = x := ⟨_, rfl⟩
              rw [hgn] at ml hmn
              have ML := Lib.hid ml
              have HM := Lib.hid hmn
              have hln' : ln = 64 * (M - k) := hln.symm
              have HLN := Lib.hid hln'
              have OG := Lib.hid (wvs_one gn.list)
              clear hg hch hmn hb hrow hln hln' ml hgn
              go_upto_region 11 with (fail)
              have i64c : (64 : Int) ≤ (c : Int) := by omega
              have n64c : 64 ≤ c := by omega
              go_still_tail 3, (by kernel_rfl)
              change wpList _ _ _ _ _ wr.drew
              go_upto_region 10 with (first
                | (go_at_call 144; refine ML.out.mono ?_; rintro e w8 ⟨rfl, k8⟩)
                | (refine wpList_store_row rfl _ _ _ rfl H (wvs gn.list).toArray rfl rfl 190 _ (Blk.kept (HBQ.out.drew) k8 (by simp)) I8.out rfl OG.out ?_))
              have hbn : Blk (w8.setRow H (wvs gn.list).toArray) H 190 (wvs gn.list).toArray := Blk.setRow (Blk.kept (HBQ.out.drew) k8 (by simp))
              have hkn : Kept [H] W6 (w8.setRow H (wvs gn.list).toArray) := ((hkq.drew).then_ (S' := []) k8 (by simp)).setRow (Or.inl (by simp)) _
              have HBN := Lib.hid hbn
              have HKN := Lib.hid hkn
              obtain ⟨w9, hw9⟩ : ∃ w9, w8.setRow H (wvs gn.list).toArray = w9 := ⟨_, rfl⟩
              rw [hw9] at HBN HKN ⊢
              clear hbn hkn hw9
              go_frame
              have hla : 64 * (M - (k + 1)) = ln - 64 := by have := HLN.out; omega
              have HLA := Lib.hid hla
              clear hla
              by_cases hc64 : c = 64
              · subst hc64
                have hl0 : ln = 64 := by omega
                have hkM : ¬ k + 1 < M := by have := HLN.out; omega
                subst hl0
                go_wp2_with fail
                go_roundw
                case rel => exact ⟨k + 1, some ⟨b, 64 * k, none⟩, 0, by omega, by rw [HLA.out], by rw [HLA.out]; omega, by omega, fun h => absurd h hkM, by rw [HM.out]; exact HBN.out, HKN.out⟩
                case measure => simp [lenOf]
              · have hc65 : 64 < c := by omega
                have i65 : (64 : Int) < (c : Int) := by omega
                go_wp2_with fail
                go_roundw
                case rel => exact ⟨k + 1, some ⟨b, 64 * (k + 1), none⟩, c - 64, by omega, by rw [HLA.out, show 64 * (k + 1) = 64 * k + 64 by omega], by rw [HLA.out]; omega, by omega, fun _ => rfl, by rw [HM.out]; exact HBN.out, HKN.out⟩
                case measure => simp [lenOf]; omega
            · obtain rfl : k = M := by omega
              have hd : decide ((0 : Int) < ((64 * (k - k) : Nat) : Int)) = false := by simp
              rw [Nat.sub_self, Nat.mul_zero] at hd hc ⊢
              obtain ⟨g, hg⟩ : ∃ g, mixed (padded s) k = g := ⟨_, rfl⟩
              rw [hg] at hb
              have HG := Lib.hid hg
              have x0 : wr.cell? ⟨H, 0, none⟩ = some (wv g.a) := hb.cell 0
              have x1 : wr.cell? ⟨H, 1, none⟩ = some (wv g.b) := hb.cell 1
              have x2 : wr.cell? ⟨H, 2, none⟩ = some (wv g.c) := hb.cell 2
              have x3 : wr.cell? ⟨H, 3, none⟩ = some (wv g.d) := hb.cell 3
              have x4 : wr.cell? ⟨H, 4, none⟩ = some (wv g.e) := hb.cell 4
              have x5 : wr.cell? ⟨H, 5, none⟩ = some (wv g.f) := hb.cell 5
              have x6 : wr.cell? ⟨H, 6, none⟩ = some (wv g.g) := hb.cell 6
              have x7 : wr.cell? ⟨H, 7, none⟩ = some (wv g.h) := hb.cell 7
              have hkw : Kept [] w wr := K6.out.then_ hkq (fun x hx hm => by simp at hm; omega)
              have HKW := Lib.hid hkw
              clear hg hb hkw
              go_upto_region 14 with (fail)
              obtain ⟨i0, hi, hz0, hz1, hz2⟩ := info_parts infoByteA
              have L8 : g.list.length = 8 := rfl
              obtain ⟨wo, rfl⟩ : ∃ wo : World, wo = wr := ⟨_, rfl⟩
              go_loopw [6, 8, 45] (fun v _ vi wq => ∃ i : Nat, i ≤ 8 ∧ vi = .int .i64 i ∧ wq.ownsRow wo.heap.size 5 1 v (4 * i) (((g.list.take i).flatMap wbytes).map bval) ∧ Kept [] wo wq) (fun _ _ vi _ => 8 - (intOf vi).toNat)
              case atStart => exact ⟨0, by omega, rfl, World.ownsRow_nil _ _ _ _, Kept.refl _ _⟩
              case round =>
                obtain ⟨i, hi8, rfl, hown, hkq⟩ := hrel
                obtain ⟨ao, co, rfl⟩ := own_form hown
                have hsq := hkq.size
                by_cases hlt : i < 8
                · have ik0 : ∀ w, (Instr.index 190 (.agg #[wv g.a, wv g.b, wv g.c, wv g.d, wv g.e, wv g.f, wv g.g, wv g.h]) (.int .i64 i)).run Tryz.prog w = .ok (wv (g.list.getD i 0)) w := ixw g i hlt
                  have hft := flat_take g.list i (by omega)
                  obtain ⟨x, hx⟩ : ∃ x, g.list.getD i 0 = x := ⟨_, rfl⟩
                  rw [hx] at ik0 hft
                  have hxl := x.isLt
                  have e0 : (x.toNat : Int) / 16777216 = ((UInt8.ofNat (x.toNat / 16777216)).toNat : Int) := by
                    rw [← u8_mod]
                    omega
                  have d1 : (x.toNat : Int) / 65536 = ((x.toNat / 65536 : Nat) : Int) := by omega
                  have d2 : (x.toNat : Int) / 256 = ((x.toNat / 256 : Nat) : Int) := by omega
                  have e1 := u8_of (x.toNat / 65536)
                  have e2 := u8_of (x.toNat / 256)
                  have e3 := u8_of x.toNat
                  have f1 := u8_mod (x.toNat / 65536)
                  have f2 := u8_mod (x.toNat / 256)
                  have f3 := u8_mod x.toNat
                  have b0 := (UInt8.ofNat (x.toNat / 16777216)).toNat_lt
                  have hwb : wbytes x = [UInt8.ofNat (x.toNat / 16777216), UInt8.ofNat (x.toNat / 65536), UInt8.ofNat (x.toNat / 256), UInt8.ofNat x.toNat] := rfl
                  rw [hwb] at hft
                  obtain ⟨c0, hc0⟩ : ∃ c, UInt8.ofNat (x.toNat / 16777216) = c := ⟨_, rfl⟩
                  obtain ⟨c1, hc1⟩ : ∃ c, UInt8.ofNat (x.toNat / 65536) = c := ⟨_, rfl⟩
                  obtain ⟨c2, hc2⟩ : ∃ c, UInt8.ofNat (x.toNat / 256) = c := ⟨_, rfl⟩
                  obtain ⟨c3, hc3⟩ : ∃ c, UInt8.ofNat x.toNat = c := ⟨_, rfl⟩
                  rw [hc0] at e0 b0 hft
                  rw [hc1] at e1 f1 hft
                  rw [hc2] at e2 f2 hft
                  rw [hc3] at e3 f3 hft
                  obtain ⟨Y1, hY1⟩ : ∃ y, x.toNat / 65536 = y := ⟨_, rfl⟩
                  obtain ⟨Y2, hY2⟩ : ∃ y, x.toNat / 256 = y := ⟨_, rfl⟩
                  have y1l : Y1 < 65536 := by omega
                  have y2l : Y2 < 16777216 := by omega
                  rw [hY1] at d1 e1 f1
                  rw [hY2] at d2 e2 f2
                  obtain ⟨X, hX⟩ : ∃ X, x.toNat = X := ⟨_, rfl⟩
                  have ik : ∀ w, (Instr.index 190 (.agg #[wv g.a, wv g.b, wv g.c, wv g.d, wv g.e, wv g.f, wv g.g, wv g.h]) (.int .i64 i)).run Tryz.prog w = .ok (.int .u32 (X : Int)) w := by
                    rw [← hX]
                    exact ik0
                  rw [hX] at e0 d1 d2 e3 f3
                  have HFT := Lib.hid hft
                  have HOWN := Lib.hid hown
                  have NW : Hid (∀ j u, [bval c0, bval c1, bval c2, bval c3][j]? = some u → (wr.alloc (.cells #[.int .u8 c0.toNat, .int .u8 c1.toNat, .int .u8 c2.toNat, .int .u8 c3.toNat] 5)).cell? ((⟨wr.heap.size, 0, none⟩ : Addr).add j) = some u) := new4 wr _ _ _ _ _
                  clear ik0 hx hxl hwb hc0 hc1 hc2 hc3 hY1 hY2 hX hft hown
                  go_wp2_with (at_builtin; refine wpList_append_own _ rfl _ _ 144 rfl wo.heap.size 5 i0 (.int .u8 0) 1 1 Tryz.underlying144 hi hz0 hz1 hz2 rfl (by decide) _ _ _ rfl (HOWN.out.alloc _) ⟨wr.heap.size, 0, none⟩ 4 4 [bval c0, bval c1, bval c2, bval c3] rfl rfl NW.out (by intro u hu; simp at hu; rcases hu with rfl | rfl | rfl | rfl <;> rfl) (by unfold maxLen; omega) (by omega) (by simp; omega) ?_; intro v2 w2 hown2 hg2 _)
                  go_roundw
                  case rel => exact ⟨i + 1, by omega, by go_num, by rw [HFT.out, List.map_append, show 4 * (i + 1) = 4 * i + 4 by omega]; exact hown2, (hkq.alloc _).grown hg2 (fun k hk => Or.inr (HOWN.out.lt k hk).1)⟩
                  case measure => simp [intOf]; omega
                · obtain rfl : i = 8 := by omega
                  have hl32 : (g.list.flatMap wbytes).length = 32 := by rw [flat_len4]; rfl
                  have htk : g.list.take 8 = g.list := rfl
                  have hownA : wr.ownsRow wo.heap.size 5 1 (.slice ao (4 * 8) co) (g.list.flatMap wbytes).length ((g.list.flatMap wbytes).map bval) := by
                    rw [htk] at hown
                    rw [hl32]
                    exact hown
                  obtain ⟨bo, cpo, hvo, _, _, _, _, hco, _⟩ := (Ap.of_own hownA (by omega)).form
                  injection hvo with e1 e2 e3
                  subst e1 e3
                  have hcv2 := conv_back wr bo co (g.list.flatMap wbytes) hco
                  rw [hl32] at hcv2
                  simp only [show 4 * 8 = 32 from rfl]
                  have hres : g.list.flatMap wbytes = sha s := by rw [HSHA.out, HG.out]
                  rw [hres] at hcv2
                  clear hown hownA hco hres hl32 htk
                  go_wp2_with fail
                  go_ret
                  exact ⟨rfl, HKW.out.trans hkq⟩
end Go.Proofs.YtcidfldeiklcjaaGreatDoor
/- The hash function's padding and the hash, as the reference makes them. -/
namespace Go.Proofs.YtcidfldeiklcjaaGreatDoor
open Go.RowKit ShaP

end Go.Proofs.YtcidfldeiklcjaaGreatDoor
namespace Go.Proofs.YtcidfldeiklcjaaGreatDoor
open Go.RowKit ShaP

end Go.Proofs.YtcidfldeiklcjaaGreatDoor
