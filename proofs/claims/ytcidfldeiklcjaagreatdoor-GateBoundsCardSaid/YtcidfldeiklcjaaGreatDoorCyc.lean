/- The smallest cycle of negative weight from a node on: graph.cycle. -/
import Derived.Test.YtcidfldeiklcjaaGreatDoorPub
import Derived.Test.YtcidfldeiklcjaaGreatDoorApp
import Derived.Test.YtcidfldeiklcjaaGreatDoorRow
import Derived.Test.YtcidfldeiklcjaaGreatDoorBds
import Derived.Test.YtcidfldeiklcjaaGreatDoorImp
/- JOINED: Pbs Cyc -/
/- The public numbers of secrets: the law's publics. -/
namespace Go.Proofs.YtcidfldeiklcjaaGreatDoor
open Go.RowKit

theorem own_of_blk8 {w : World} {g : Nat} {T : TypeId} {cs : List Value} (h : Blk w g T cs.toArray) (hn : cs.length ≤ maxLen) : w.ownsRow g T 1 (.slice (some ⟨g, 0, none⟩) cs.length cs.length) cs.length cs :=
  ⟨by simp, Or.inr ⟨g, cs.length, cs.toArray, rfl, Nat.le_refl _, h, Nat.le_refl _, hn, by simp, by simp⟩⟩
theorem Kept.join {S T : List Nat} {w w' w'' : World} (h : Kept S w w') (k : Kept T w' w'') (hT : ∀ z ∈ T, z < w.heap.size → z ∈ S) : Kept S w w'' :=
  ⟨k.os.trans h.os, k.tape.trans h.tape, k.output.trans h.output, Nat.le_trans h.size k.size,
   fun i hi hS => (k.block i (Nat.lt_of_lt_of_le hi h.size) (fun hm => hS (hT i hm hi))).trans (h.block i hi hS)⟩
def pubL (s : Stp) (keys : List Int) : List Int := keys.map (pubN s)
def PbE (L : List Int) (w : World) (e : Ending) (w' : World) : Prop := ∃ a c, e = .returned (.slice a L.length c) ∧ Row w' 1 (.slice a L.length c) L.length (ints L) ∧ Kept [] w w'

set_option maxRecDepth 100000 in
set_option maxHeartbeats 4000000 in
theorem publics_any (vs vk : Value) (s : Stp) (keys : List Int) (w : World) (hs : StpV w vs s) (hk : Row w 1 vk keys.length (ints keys)) (hki : ∀ x ∈ keys, Wire.I64 x) (hl : keys.length ≤ 1000) (hE : Env2 w) :
    Calls Tryz.prog 8 #[vs, vk] w (PbE (pubL s keys) w) := by
  have hs' := hs
  obtain ⟨⟨ad, cc, rfl, hrow⟩, ip, iq, ig, ib, il⟩ := hs'
  obtain ⟨ka, kc, rfl, _, _⟩ := hk.form
  obtain ⟨W, hW⟩ : ∃ W, (w.alloc (.cells (stpA s (.slice ad s.bases.length cc)) 26)).alloc (.cells #[] 3) = W := ⟨_, rfl⟩
  have hb : Blk W w.heap.size 26 (stpA s (.slice ad s.bases.length cc)) := hW ▸ (Blk.new _ _ _).alloc _
  have hz : Blk W (w.heap.size + 1) 3 #[] := by
    have := Blk.new (w.alloc (.cells (stpA s (.slice ad s.bases.length cc)) 26)) 3 #[]
    rw [hW, World.size_alloc] at this
    exact this
  have hkW : Kept [] w W := hW ▸ ((Kept.refl _ _).alloc _).alloc _
  have hWs : W.heap.size = w.heap.size + 2 := by rw [← hW]; simp
  have PU : Hid (∀ x, Wire.I64 x → ∀ w', Kept [w.heap.size + 1] W w' → Calls Tryz.prog 23 #[.agg #[.int .i64 s.P, .int .i64 s.Q, .int .i64 s.G, .slice ad s.bases.length cc, .int .i64 s.blind], .int .i64 x] w' fun e w2 => e = .returned (.int .i64 (pubN s x)) ∧ Kept [] w' w2) := fun x hx w' k =>
    public_any _ s x w' (hs.kept (hkW.fresh k (by simp))) hx (hE.kept0 (hkW.fresh k (by simp)))
  have S0 : Hid (∀ w', Kept [w.heap.size + 1] W w' → w'.cell? ⟨w.heap.size, 0, none⟩ = some (.int .i64 s.P)) := fun w' k => (hb.kept k (by simp)).cell 0
  have S1 : Hid (∀ w', Kept [w.heap.size + 1] W w' → w'.cell? ⟨w.heap.size, 1, none⟩ = some (.int .i64 s.Q)) := fun w' k => (hb.kept k (by simp)).cell 1
  have S2 : Hid (∀ w', Kept [w.heap.size + 1] W w' → w'.cell? ⟨w.heap.size, 2, none⟩ = some (.int .i64 s.G)) := fun w' k => (hb.kept k (by simp)).cell 2
  have S3 : Hid (∀ w', Kept [w.heap.size + 1] W w' → w'.cell? ⟨w.heap.size, 3, none⟩ = some (.slice ad s.bases.length cc)) := fun w' k => (hb.kept k (by simp)).cell 3
  have S4 : Hid (∀ w', Kept [w.heap.size + 1] W w' → w'.cell? ⟨w.heap.size, 4, none⟩ = some (.int .i64 s.blind)) := fun w' k => (hb.kept k (by simp)).cell 4
  have HO0 : Hid (W.ownsRow (w.heap.size + 1) 3 1 (.slice (some ⟨w.heap.size + 1, 0, none⟩) 0 0) 0 (ints ([] : List Int))) := own_of_blk8 (cs := []) hz (by simp)
  have HKR : Hid (∀ w', Kept [w.heap.size + 1] W w' → Row w' 1 (.slice ka keys.length kc) keys.length (ints keys)) := fun w' k => hk.kept (hkW.fresh k (by simp))
  have HW := Lib.hid hW
  have HKW := Lib.hid hkW
  have HWS := Lib.hid hWs
  have HKI := Lib.hid hki
  obtain ⟨L, hL⟩ : ∃ L, pubL s keys = L := ⟨_, rfl⟩
  have HL := Lib.hid hL
  have hLl : L.length = keys.length := by rw [← hL]; simp [pubL]
  rw [hL]
  clear hW hb hz hrow hkW hs hE ib hk hki hL hWs
  show Calls _ _ #[.agg #[.int .i64 s.P, .int .i64 s.Q, .int .i64 s.G, .slice ad s.bases.length cc, .int .i64 s.blind], _] _ _
  go_enter Tryz.func8, Tryz.ntmps8
  go_upto_region 2 with (fail)
  have hW' : (w.alloc (.cells #[.int .i64 s.P, .int .i64 s.Q, .int .i64 s.G, .slice ad s.bases.length cc, .int .i64 s.blind] 26)).alloc (.cells #[] 3) = W := HW.out
  rw [hW']
  clear hW'
  have wk : IntKind.i64.wrap (keys.length : Int) = (keys.length : Int) := by rw [IntKind.wrap_i64]; omega
  go_wp2_with fail
  go_loopw [5, 6] (fun vj vi wr => ∃ (k : Nat) (a : Option Addr) (c : Nat), k ≤ keys.length ∧ vi = .int .i64 k ∧ vj = .slice a k c ∧ Hid (wr.ownsRow (w.heap.size + 1) 3 1 (.slice a k c) k (ints (L.take k))) ∧ Hid (Kept [w.heap.size + 1] W wr)) (fun _ vi _ => keys.length - (intOf vi).toNat)
  case atStart => exact ⟨0, _, _, by omega, rfl, rfl, HO0, Lib.hid (Kept.refl _ _)⟩
  case round =>
    obtain ⟨k, a, c, hkl, rfl, rfl, HO, HK⟩ := hrel
    by_cases hkn : k < keys.length
    · obtain ⟨kb, ko, rfl, hcell⟩ := (HKR.out wr HK.out).at_ (by omega)
      have hge := own_ge HO.out
      have hsz := HK.out.size
      have hxk := hcell k _ (ints_get hkn)
      have hkb := World.block_lt_of_cell? _ _ hxk
      have hkb2 : ∀ w', Kept (obl (.slice a k c)) wr w' → Kept [w.heap.size + 1] W w' := fun w' kk => HK.out.join kk (fun z hz hlt => by have := (hge z hz).1; have h2 := HWS.out; rw [List.mem_singleton]; omega)
      have s0 : ∀ w', Kept (obl (.slice a k c)) wr w' → w'.cell? ⟨w.heap.size, 0, none⟩ = some (.int .i64 s.P) := fun w' kk => S0.out w' (hkb2 w' kk)
      have s1 : ∀ w', Kept (obl (.slice a k c)) wr w' → w'.cell? ⟨w.heap.size, 1, none⟩ = some (.int .i64 s.Q) := fun w' kk => S1.out w' (hkb2 w' kk)
      have s2 : ∀ w', Kept (obl (.slice a k c)) wr w' → w'.cell? ⟨w.heap.size, 2, none⟩ = some (.int .i64 s.G) := fun w' kk => S2.out w' (hkb2 w' kk)
      have s3 : ∀ w', Kept (obl (.slice a k c)) wr w' → w'.cell? ⟨w.heap.size, 3, none⟩ = some (.slice ad s.bases.length cc) := fun w' kk => S3.out w' (hkb2 w' kk)
      have s4 : ∀ w', Kept (obl (.slice a k c)) wr w' → w'.cell? ⟨w.heap.size, 4, none⟩ = some (.int .i64 s.blind) := fun w' kk => S4.out w' (hkb2 w' kk)
      have x0 : ∀ w', Kept (obl (.slice a k c)) wr w' → w'.cell? ⟨kb, ko + k, none⟩ = some (.int .i64 keys[k]) := fun w' kk => by
        obtain ⟨kb', ko', he, hc'⟩ := (HKR.out w' (hkb2 w' kk)).at_ (by omega)
        injection he with he
        injection he with h1 h2 _
        subst h1 h2
        exact hc' k _ (ints_get hkn)
      have PK := Lib.hid (fun w' (kk : Kept [] wr w') => PU.out keys[k] (HKI.out _ (List.getElem_mem hkn)) w' (hkb2 w' (kk.mono (by simp))))
      have HD : Hid (L.take (k + 1) = L.take k ++ [pubN s keys[k]]) := by
        show _ = _
        rw [List.take_succ_eq_append_getElem (by omega)]
        have h1 : L[k] = pubN s keys[k] := by
          have h2 := HL.out
          unfold pubL at h2
          subst h2
          rw [List.getElem_map]
        rw [h1]
      have hkbl : Hid (∀ z ∈ obl (.slice a k c), w.heap.size + 1 ≤ z) := fun z hz => (hge z hz).1
      have HK2 := Lib.hid hkb2
      obtain ⟨x, hx⟩ : ∃ x, keys[k] = x := ⟨_, rfl⟩
      rw [hx] at x0 PK HD
      obtain ⟨y, hy⟩ : ∃ y, pubN s x = y := ⟨_, rfl⟩
      rw [hy] at PK HD
      have hk2 : (0 : Int) ≤ (k : Int) := by omega
      have hk3 : (k : Int) < (keys.length : Int) := by omega
      have hsz2 : w.heap.size + 1 ≤ wr.heap.size := by have := HWS.out; omega
      clear hx hy hkb2 hcell hxk hkb hge
      go_upto_region 5 with (fail)
      go_region_held3 (fun w' => Kept (obl (.slice a k c)) wr w') (repeat (first | (with_reducible assumption) | (with_reducible exact Kept.refl _ _) | (with_reducible refine Kept.drew ?_) | (with_reducible refine Kept.alloc ?_ _) | (with_reducible refine Kept.trans ?_ (hkC.mono (by simp))) | (refine Kept.trans ?_ hgE)))
        (first
          | (go_at_call 23; refine (PK.out _ (by (repeat (first | (with_reducible assumption) | (with_reducible exact Kept.refl _ _) | (with_reducible refine Kept.drew ?_) | (with_reducible refine Kept.alloc ?_ _) | (with_reducible refine Kept.trans ?_ hkC))))).mono ?_; rintro e wC ⟨rfl, hkC⟩)
          | (refine step_append_ints rfl _ _ rfl (w.heap.size + 1) (.slice a k c) k (L.take k) rfl (own_keep HO.out (S := []) (by (repeat (first | (with_reducible assumption) | (with_reducible exact Kept.refl _ _) | (with_reducible refine Kept.drew ?_) | (with_reducible refine Kept.alloc ?_ _) | (with_reducible refine Kept.trans ?_ hkC)))) (by simp)) _ 1 [y] rfl (row_of_blk (cs := ints [y]) (Blk.new _ _ _) rfl (by decide)) (by omega) (Nat.le_trans hsz2 (Kept.size (S := []) (w := wr) (by (repeat (first | (with_reducible assumption) | (with_reducible exact Kept.refl _ _) | (with_reducible refine Kept.drew ?_) | (with_reducible refine Kept.alloc ?_ _) | (with_reducible refine Kept.trans ?_ hkC)))))) ?_; intro a' c' wE hownE hgE hlE)
          | fail)
      rename_i hHeld
      have OE : Hid (wE.ownsRow (w.heap.size + 1) 3 1 (.slice a' (k + 1) c') (k + 1) (ints (L.take (k + 1)))) := by
        rw [HD.out]
        exact hownE
      have KN := Lib.hid (HK2.out wE hHeld)
      clear s0 s1 s2 s3 s4 x0 hHeld hownE hgE hlE
      go_wp2_with fail
      go_roundw
      case rel => exact ⟨k + 1, a', c', by omega, by go_num, rfl, OE, KN⟩
      case measure => simp [intOf]; omega
    · obtain rfl : k = keys.length := by omega
      have RE : Hid (Row wr 1 (.slice a keys.length c) keys.length (ints L)) := by
        have := HO.out
        rw [List.take_of_length_le (by omega)] at this
        exact Row.of_own this (by omega)
      have KE : Hid (Kept [] w wr) := HKW.out.fresh HK.out (by simp)
      go_wp2_with fail
      go_ret
      exact ⟨a, c, by rw [hLl]; rfl, by rw [hLl]; exact RE.out, KE.out⟩
end Go.Proofs.YtcidfldeiklcjaaGreatDoor
namespace Go.Proofs.YtcidfldeiklcjaaGreatDoor
open Go.RowKit Tm Bf

/-- a matrix among others -/
def GraR (n : Nat) (w : World) (c : List Value) (M : Gf) : Prop := ∃ v, c = [v] ∧ MatV w v n M
theorem GraR.kept {n : Nat} {w w' : World} {c : List Value} {M : Gf} (h : GraR n w c M) (k : Kept [] w w') : GraR n w' c M := by obtain ⟨v, h1, h2⟩ := h; exact ⟨v, h1, h2.kept k⟩
/-- weights of walks with a few edges are small -/
theorem back_small {G : Gf} {n k : Nat} {M : Gf} (hg : GBd n G) (hM : Back G n k M) (hk : k ≤ 20) {a b : Nat} (ha : a < n) (hb : b < n) : M a b = 1152921504606846976 ∨ (-274877906944 ≤ M a b ∧ M a b ≤ 274877906944) := by
  rcases hM a b ha hb with ⟨h1, _⟩ | ⟨_, ⟨l, h1, h2, h3⟩, _⟩
  · exact Or.inl h1
  · have := wt_small hg l h1.lt h1.steps
    right
    omega
def CycE (G : Gf) (n k first : Nat) (w : World) (e : Ending) (w' : World) : Prop := ∃ (o : List Nat) (at_ : Nat) (sum : Int) (a : Option Addr) (c : Nat), e = .returned (.slice a o.length c) ∧ Row w' 1 (.slice a o.length c) o.length (ints (natI o)) ∧ Path G n k first o at_ sum 0 ∧ Kept [] w w'

set_option maxRecDepth 100000 in
set_option maxHeartbeats 4000000 in
theorem cycle_any (vg vb : Value) (n first kk : Nat) (G : Gf) (Ms : List Gf) (w : World) (hg : MatV w vg n G) (hb : RowOf (GraR n) 1 w vb Ms) (hM : ∀ k (hk : k < Ms.length), Back G n k Ms[k]) (hl : Ms.length = kk + 1) (hkk : 1 ≤ kk) (hkn : kk ≤ 20) (hf : first < n) (hn : n ≤ 16) (hgb : GBd n G)
    (hneg : Neg G n kk first) (hmin : ∀ x, x < first → ¬ Neg G n kk x) :
    Calls Tryz.prog 34 #[vg, vb, .int .i64 first] w (CycE G n kk first w) := by
  obtain ⟨gb, gc, rb, cp, rfl, hgc, hm⟩ := hg
  obtain ⟨ba, bc, rfl, hbl, hbc⟩ := RowOf.form hb
  have HM := Lib.hid hm
  have HB := Lib.hid hb
  have HMS := Lib.hid hM
  have HGB := Lib.hid hgb
  have HP0 := Lib.hid (path_start hkk hf hneg hmin)
  have HL := Lib.hid hl
  rw [hl] at hbl hbc ⊢
  unfold CycE
  clear hm hb hM hgb hneg hmin hl
  go_enter Tryz.func34, Tryz.ntmps34
  go_wp2_with fail
  have HO0 : Hid ((w.alloc (.cells #[.int .i64 first] 3)).ownsRow w.heap.size 3 1 (.slice (some ⟨w.heap.size, 0, none⟩) 1 1) 1 (ints (natI [first]))) := own_of_blk8 (cs := [.int .i64 first]) (Blk.new _ _ _) (show 1 ≤ maxLen by decide)
  have HK0 : Hid (Kept [] w (w.alloc (.cells #[.int .i64 first] 3))) := (Kept.refl _ _).alloc _
  go_loopw [7, 8, 9, 10, 11] (fun vo vat vsum vl _ wr => ∃ (o : List Nat) (at_ : Nat) (sum : Int) (left : Nat) (a : Option Addr) (c : Nat), vo = .slice a o.length c ∧ vat = .int .i64 at_ ∧ vsum = .int .i64 sum ∧ vl = .int .i64 left ∧ left + 1 ≤ kk ∧ Hid (Path G n kk first o at_ sum left) ∧ Hid (wr.ownsRow w.heap.size 3 1 (.slice a o.length c) o.length (ints (natI o))) ∧ Hid (Kept [] w wr)) (fun _ _ _ vl _ _ => (intOf vl).toNat)
  case atStart => exact ⟨[first], first, 0, kk - 1, _, _, rfl, rfl, rfl, by congr 1; omega, by omega, HP0, HO0, HK0⟩
  case round =>
    obtain ⟨o, at_, sum, left, a, c, rfl, rfl, rfl, rfl, hlk, HP, HO, HK⟩ := hrel
    rcases Nat.eq_zero_or_pos left with rfl | hlp
    · have HR : Hid (Row wr 1 (.slice a o.length c) o.length (ints (natI o))) := Row.of_own HO.out (by have := HP.out.len; omega)
      go_wp2_with fail
      go_ret
      exact ⟨o, at_, sum, a, c, rfl, HR.out, HP.out, HK.out⟩
    · obtain ⟨left, rfl⟩ : ∃ q, left = q + 1 := ⟨left - 1, by omega⟩
      have hol := HP.out.len
      have hat : at_ < n := by
        obtain ⟨l, h1, _, _⟩ := HP.out.goes
        exact h1.lt _ (List.mem_of_mem_head? h1.head)
      have hms : left + 1 < Ms.length := by have := HL.out; omega
      have HBK : Hid (Back G n (left + 1) Ms[left + 1]) := HMS.out (left + 1) hms
      have HEX := Lib.hid (path_cond HP.out HBK.out hf)
      have hsb := wt_small HGB.out o HP.out.walk.lt HP.out.walk.steps
      rw [HP.out.wt] at hsb
      have hs1 : -171798691840 ≤ sum ∧ sum ≤ 171798691840 := by omega
      obtain ⟨bb, bo, bv, hbv, hbcell, vm, hvm, hmm⟩ := (HB.out).one (left + 1) hms
      injection hvm with hvm _
      subst hvm
      subst hbv
      obtain ⟨mb, mc, mrb, mcp, rfl, hmc, hmcell⟩ := hmm
      have HMM := Lib.hid hmcell
      have HBC := Lib.hid hbcell
      obtain ⟨M, hMq⟩ : ∃ M, Ms[left + 1] = M := ⟨_, rfl⟩
      rw [hMq] at HMM HBK HEX
      clear hsb hbcell hmcell hMq
      go_wp2_with fail
      go_loopw [11] (fun vb wr2 => ∃ b : Nat, b ≤ n ∧ vb = .int .i64 b ∧ Hid (∀ x, x < b → ¬ Cond G M first at_ sum x) ∧ Hid (Kept [] wr wr2)) (fun vb _ => n - (intOf vb).toNat)
      case atStart => exact ⟨0, by omega, rfl, fun x hx => by omega, Kept.refl _ _⟩
      case round =>
        obtain ⟨b, hbn', rfl, HNC, HK2⟩ := hrel
        have hbn : b < n := by
          rcases Nat.lt_or_ge b n with h | h
          · exact h
          · obtain ⟨x, hx, hc⟩ := HEX.out
            exact absurd hc (HNC.out x (by omega))
        have HKW := Lib.hid (HK.out.trans HK2.out)
        obtain ⟨hcp, hrow, hcell⟩ := HM.out at_ hat
        have g0 := Kept.cellOf hrow _ HKW.out
        have g1 := Kept.cellOf (hcell b hbn) _ HKW.out
        have m0 := Kept.cellOf HBC.out _ HKW.out
        obtain ⟨hmp, hmrow, hmcell⟩ := HMM.out b hbn
        have m1 := Kept.cellOf hmrow _ HKW.out
        have m2 := Kept.cellOf (hmcell first hf) _ HKW.out
        have gbd := HGB.out at_ b hat hbn
        have mbd := back_small HGB.out HBK.out (by omega) hbn hf
        have HG0 := Lib.hid hrow
        have HG1 := Lib.hid (hcell b hbn)
        have HST : Hid (Cond G M first at_ sum b → Path G n kk first (o ++ [b]) b (sum + G at_ b) left) := fun hc => path_step HP.out HBK.out hf hbn hc HNC.out
        have HCN : Hid (¬ Cond G M first at_ sum b → ∀ x, x < b + 1 → ¬ Cond G M first at_ sum x) := fun hc x hx => by
          rcases Nat.lt_or_ge x b with h | h
          · exact HNC.out x h
          · obtain rfl : x = b := by omega
            exact hc
        have HCD : Hid (Cond G M first at_ sum b ↔ (G at_ b < 1152921504606846976 ∧ M b first < 1152921504606846976 ∧ sum + G at_ b + M b first < 0)) := Iff.rfl
        obtain ⟨CN, hCN⟩ : ∃ C, Cond G M first at_ sum b = C := ⟨_, rfl⟩
        rw [hCN] at HST HCN HCD
        obtain ⟨g, hgq⟩ : ∃ g, G at_ b = g := ⟨_, rfl⟩
        obtain ⟨p, hpq⟩ : ∃ p, M b first = p := ⟨_, rfl⟩
        rw [hgq] at g1 gbd HST HCD HG1
        rw [hpq] at m2 mbd HCD
        have gsm : g = 1152921504606846976 ∨ (-8589934592 ≤ g ∧ g ≤ 8589934592) := gbd
        have GS := Lib.hid gsm
        clear hrow hcell hmrow hmcell hgq hpq hCN gbd
        by_cases c1 : g < 1152921504606846976
        · have d1 : decide (1152921504606846976 ≤ g) = false := by simpa using c1
          have hg2 : -8589934592 ≤ g ∧ g ≤ 8589934592 := by omega
          by_cases c2 : p < 1152921504606846976
          · have d2 : decide (1152921504606846976 ≤ p) = false := by simpa using c2
            have hp2 : -274877906944 ≤ p ∧ p ≤ 274877906944 := by omega
            have w1 : IntKind.i64.wrap (sum + g) = sum + g := by rw [IntKind.wrap_i64]; omega
            have w2 : IntKind.i64.wrap (sum + g + p) = sum + g + p := by rw [IntKind.wrap_i64]; omega
            by_cases c3 : sum + g + p < 0
            · have d3 : decide (0 ≤ sum + g + p) = false := by simp; omega
              have HPN := Lib.hid (HST.out (HCD.out.2 ⟨c1, c2, c3⟩))
              go_wp2_with fail
              go_quiet (fail)
              clear d1 d2 d3 g0 g1 m0 m1 m2 w2
              go_upto_region 8 with (fail)
              obtain ⟨W8, hW8⟩ : ∃ W8, wr.drewN nq = W8 := ⟨_, rfl⟩
              rw [hW8]
              have k8 : Kept [] _ W8 := hW8 ▸ HK2.out.drewN nq
              have HO8 := Lib.hid (own_keep HO.out k8 (by simp))
              have hkw8 := HK.out.trans k8
              have hge := own_ge HO.out
              have hkb : ∀ w', Kept (obl (.slice a o.length c)) W8 w' → Kept [] w w' := fun w' kk => hkw8.fresh kk (fun z hz => (hge z hz).1)
              have HKB := Lib.hid hkb
              have e0 : ∀ w', Kept (obl (.slice a o.length c)) W8 w' → w'.cell? ⟨gb, at_, none⟩ = some (.slice (some ⟨rb at_, 0, none⟩) n (cp at_)) := fun w' kk => Kept.cellOf HG0.out _ (hkb w' kk)
              have e1 : ∀ w', Kept (obl (.slice a o.length c)) W8 w' → w'.cell? ⟨rb at_, b, none⟩ = some (.int .i64 g) := fun w' kk => Kept.cellOf HG1.out _ (hkb w' kk)
              have hat0 : (0 : Int) ≤ (at_ : Int) := by omega
              have hat1 : (at_ : Int) < (n : Int) := by omega
              have hb0 : (0 : Int) ≤ (b : Int) := by omega
              have hb1 : (b : Int) < (n : Int) := by omega
              have hsz8 : w.heap.size ≤ W8.heap.size := hkw8.size
              have HNS := Lib.hid (natI_snoc o b)
              have hnl := natI_len o
              obtain ⟨ol, hol2⟩ : ∃ ol, o.length = ol := ⟨_, rfl⟩
              have HOL := Lib.hid hol2
              rw [hol2] at HO8 e0 e1 HKB hnl hol
              rw [hol2]
              obtain ⟨no, hno⟩ : ∃ no, natI o = no := ⟨_, rfl⟩
              rw [hno] at HO8 HNS hnl
              clear hW8 k8 hkw8 hge hkb hol2 hno
              go_region_held3 (fun w' => Kept (obl (.slice a ol c)) W8 w') (repeat (first | (with_reducible assumption) | (with_reducible exact Kept.refl _ _) | (with_reducible refine Kept.drew ?_) | (with_reducible refine Kept.alloc ?_ _) | (refine Kept.trans ?_ hgE)))
                (first
                  | (refine step_append_ints rfl _ _ rfl w.heap.size (.slice a ol c) ol no rfl (own_keep HO8.out (S := []) (by (repeat (first | (with_reducible assumption) | (with_reducible exact Kept.refl _ _) | (with_reducible refine Kept.drew ?_) | (with_reducible refine Kept.alloc ?_ _)))) (by simp)) _ 1 [(b : Int)] rfl (row_of_blk (cs := ints [(b : Int)]) (Blk.new _ _ _) rfl (by decide)) (by omega) (Nat.le_trans hsz8 (Kept.size (S := []) (w := W8) (by (repeat (first | (with_reducible assumption) | (with_reducible exact Kept.refl _ _) | (with_reducible refine Kept.drew ?_) | (with_reducible refine Kept.alloc ?_ _)))))) ?_; intro a' c' wE hownE hgE hlE)
                  | fail)
              rename_i hHeld
              have hnl2 : (o ++ [b]).length = ol + 1 := by rw [List.length_append, HOL.out]; rfl
              have OE : Hid (wE.ownsRow w.heap.size 3 1 (.slice a' (o ++ [b]).length c') (o ++ [b]).length (ints (natI (o ++ [b])))) := by
                rw [HNS.out, hnl2]
                exact hownE
              have KN := Lib.hid (HKB.out wE hHeld)
              have HLN := Lib.hid hnl2
              clear e0 e1 hHeld hownE hgE hlE hnl2
              go_wp2_with fail
              go_roundw
              case rel => exact ⟨o ++ [b], b, sum + g, left, a', c', by rw [HLN.out], rfl, rfl, by first | rfl | go_num, by omega, HPN, OE, KN⟩
              case measure => simp [intOf]
            · have d3 : decide (0 ≤ sum + g + p) = true := by simp; omega
              have HCX := Lib.hid (HCN.out fun hc => c3 (HCD.out.1 hc).2.2)
              go_wp2_with fail
              go_quiet (fail)
              go_wp2_with fail
              go_roundw
              case rel => exact ⟨b + 1, by omega, by go_num, HCX, HK2.out.drewN _⟩
              case measure => simp [intOf]; omega
          · have d2 : decide (1152921504606846976 ≤ p) = true := by simp; omega
            have HCX := Lib.hid (HCN.out fun hc => c2 (HCD.out.1 hc).2.1)
            go_wp2_with fail
            go_quiet (fail)
            go_wp2_with fail
            go_roundw
            case rel => exact ⟨b + 1, by omega, by go_num, HCX, HK2.out.drewN _⟩
            case measure => simp [intOf]; omega
        · have d1 : decide (1152921504606846976 ≤ g) = true := by simp; omega
          have HCX := Lib.hid (HCN.out fun hc => c1 (HCD.out.1 hc).1)
          go_wp2_with fail
          go_quiet (fail)
          go_wp2_with fail
          go_roundw
          case rel => exact ⟨b + 1, by omega, by go_num, HCX, HK2.out.drewN _⟩
          case measure => simp [intOf]; omega
end Go.Proofs.YtcidfldeiklcjaaGreatDoor
