/- Entries sealed with the secrets of their gates: the law's sealed. -/
import Derived.Test.YtcidfldeiklcjaaGreatDoorSea
import Derived.Test.YtcidfldeiklcjaaGreatDoorBds
import Derived.Deep.DeepCutAuto
import Derived.Deep.CutBlock
namespace Go.Proofs.YtcidfldeiklcjaaGreatDoor
open Go.RowKit Tm

/-- what Seal gives, and whether -/
def sealZ (s : Stp) (x : Int) (e : Ent) : Ent × Bool := if sealOk s x e then (sealS s x e, true) else (zeroEnt, false)
def SeaF (y : Ent) (sb : Bool) (w : World) (e : Ending) (w' : World) : Prop := ∃ ya yc, e = .returned (.tuple #[.agg #[.int .i64 y.gate, .int .i64 y.no, .int .i64 y.time, .int .i64 y.kind, .slice ya y.nums.length yc, .string ⟨y.text.toArray⟩, .int .i64 y.c, .int .i64 y.s], .bool sb]) ∧
  (∀ X : List Nat, (∀ z ∈ X, z < w.heap.size) → Stable X (fun w => Row w 1 (.slice ya y.nums.length yc) y.nums.length (ints y.nums)) w') ∧ Kept [] w w'
theorem row_nil0 (w : World) : Row w 1 (.slice none 0 0) 0 (ints []) := ⟨by simp [ints], by simp, _, _, rfl, by simp, fun h => absurd h (by simp)⟩
theorem seal_form {f : FuncId} {args : Array Value} {s : Stp} {x : Int} {e : Ent} {w : World} (h : Calls Tryz.prog f args w (SeaE s x e w)) : Calls Tryz.prog f args w (SeaF (sealZ s x e).1 (sealZ s x e).2 w) :=
  h.mono fun en w' hs => by
    obtain ⟨k, ⟨h1, rfl⟩ | ⟨h1, a, c, rfl, h2⟩⟩ := hs
    · have hz : sealZ s x e = (zeroEnt, false) := by unfold sealZ; rw [h1]; rfl
      rw [hz]
      exact ⟨none, 0, rfl, fun _ _ _ _ _ _ => row_nil0 _, k⟩
    · have hz : sealZ s x e = (sealS s x e, true) := by unfold sealZ; rw [h1]; rfl
      rw [hz]
      exact ⟨a, c, rfl, h2, k⟩
/-- an entry as the law's sealed leaves it -/
def sealA (s : Stp) (xs : List Int) (e : Ent) : Ent := if 0 ≤ e.gate ∧ e.gate < xs.length then (if sealOk s (nth xs e.gate.toNat) e then sealS s (nth xs e.gate.toNat) e else e) else e
def sealL (s : Stp) (xs : List Int) (l : List Ent) : List Ent := l.map (sealA s xs)
theorem bcell8 {W w1 : World} (hb : Kept [] W w1) : (∀ b o, b < W.heap.size → w1.cell? ⟨b, o, none⟩ = W.cell? ⟨b, o, none⟩) ∧ (∀ b o, b < W.heap.size → w1.frozen? ⟨b, o, none⟩ = W.frozen? ⟨b, o, none⟩) :=
  ⟨fun b o h => hb.cell (p := ⟨b, o, none⟩) h (by simp), fun b o h => World.frozen?_of_block (hb.block b h (by simp))⟩
def SlE (L : List Ent) (w : World) (e : Ending) (w' : World) : Prop := ∃ v, e = .returned v ∧ EntsV w' v L ∧ Kept [] w w'
/-- the list under way -/
structure SlW (w wr : World) (l : List Ent) (X : List Nat) (v : Value) : Prop where
  gr : Grow EntR 8 52 w.heap.size X wr v l
  vX : ∀ z ∈ obl v, z ∈ X
  hX : ∀ z ∈ X, z < wr.heap.size
  gX : ∀ z ∈ X, w.heap.size ≤ z
  kb : Kept [] w wr
theorem SlW.keep {w wr w' : World} {l : List Ent} {X : List Nat} {v : Value} (h : SlW w wr l X v) (k : Kept [] wr w') : SlW w w' l X v :=
  ⟨h.gr.step k (by simp) (by simp) (fun z hz => Or.inl hz), h.vX, fun z hz => Nat.lt_of_lt_of_le (h.hX z hz) k.size, h.gX, h.kb.trans k⟩
theorem SlW.push {w wr wu : World} {l : List Ent} {X : List Nat} {v : Value} {b : Ent} {p : Option Addr} {q : Nat} (h : SlW w wr l X v) (k1 : Kept (obl v) wr wu)
    (G : Grow EntR 8 52 w.heap.size (X ++ obl (.slice p (l.length + 1) q)) wu (.slice p (l.length + 1) q) (l ++ [b])) : SlW w wu (l ++ [b]) (X ++ obl (.slice p (l.length + 1) q)) (.slice p (l.length + 1) q) :=
  ⟨G, fun z hz => List.mem_append_right _ hz, fun z hz => by
    rcases List.mem_append.1 hz with e | e
    · exact Nat.lt_of_lt_of_le (h.hX z e) k1.size
    · exact (G.ge z e).2, fun z hz => by
    rcases List.mem_append.1 hz with e | e
    · exact h.gX z e
    · exact (G.ge z e).1, h.kb.fresh k1 (fun z hz => (h.gr.ge z hz).1)⟩
theorem SlW.keepS {w wr w' : World} {l : List Ent} {X X' S : List Nat} {v : Value} (h : SlW w wr l X v) (k : Kept S wr w') (hv : ∀ z ∈ obl v, z ∉ S) (hS : ∀ z ∈ S, z < wr.heap.size → z ∈ X) (hw : ∀ z ∈ S, w.heap.size ≤ z)
    (hX : ∀ z ∈ X', z ∈ X ∨ wr.heap.size ≤ z) (hX2 : ∀ z ∈ X', z < w'.heap.size) (hX3 : ∀ z ∈ X, z ∈ X') : SlW w w' l X' v :=
  ⟨h.gr.step k hv hS hX, fun z hz => hX3 z (h.vX z hz), hX2, fun z hz => by
    rcases hX z hz with e | e
    · exact h.gX z e
    · exact Nat.le_trans h.kb.size e, h.kb.fresh k hw⟩
/-- what lies in old memory stays -/
theorem stable_old {w wr : World} {X : List Nat} {v : Value} {n : Nat} {xs : List Value} (h : Row w 1 v n xs) (k : Kept [] w wr) (hX : ∀ z ∈ X, w.heap.size ≤ z) : Stable X (fun w => Row w 1 v n xs) wr := fun S w' kk hS =>
  h.kept (k.fresh kk (fun z hz => by
    rcases Nat.lt_or_ge z wr.heap.size with h1 | h1
    · exact hX z (hS z hz h1)
    · exact Nat.le_trans k.size h1))

set_option maxRecDepth 100000 in
set_option maxHeartbeats 8000000 in
theorem sealed_any8 (vs vk va : Value) (s : Stp) (xs : List Int) (l : List Ent) (w : World) (hs : StpV w vs s) (hk : Row w 1 vk xs.length (ints xs)) (ha : EntsV w va l) (hl : l.length ≤ 1000) (hI : ∀ e ∈ l, EntI e) (hki : ∀ x ∈ xs, Wire.I64 x) (hE : Env2 w) :
    Calls Tryz.prog 9 #[vs, vk, va] w (SlE (sealL s xs l) w) := by
  have hs' := hs
  obtain ⟨⟨ad, cc, rfl, hrow⟩, ip, iq, ig, ib, il⟩ := hs'
  obtain ⟨aa, ca, rfl, hla, _⟩ := RowOf.form ha
  obtain ⟨ka, kc, rfl, hkl, _⟩ := hk.form
  obtain ⟨W, hW⟩ : ∃ W, (w.alloc (.cells #[.int .i64 s.P, .int .i64 s.Q, .int .i64 s.G, .slice ad s.bases.length cc, .int .i64 s.blind] 26)).alloc (.cells #[] 52) = W := ⟨_, rfl⟩
  have hb : Blk W w.heap.size 26 #[.int .i64 s.P, .int .i64 s.Q, .int .i64 s.G, .slice ad s.bases.length cc, .int .i64 s.blind] := hW ▸ (Blk.new _ _ _).alloc _
  have hz : Blk W (w.heap.size + 1) 52 #[] := by
    have := Blk.new (w.alloc (.cells #[.int .i64 s.P, .int .i64 s.Q, .int .i64 s.G, .slice ad s.bases.length cc, .int .i64 s.blind] 26)) 52 #[]
    rw [hW, World.size_alloc] at this
    exact this
  have hkW : Kept [] w W := hW ▸ ((Kept.refl _ _).alloc _).alloc _
  have SE : Hid (∀ (k : Nat) (hk : k < l.length) (x0 : Int) (ve : Value) (w' : World), Wire.I64 x0 → Kept [] w w' → EntA w' ve l[k] → Calls Tryz.prog 24 #[.agg #[.int .i64 s.P, .int .i64 s.Q, .int .i64 s.G, .slice ad s.bases.length cc, .int .i64 s.blind], .int .i64 x0, ve] w' (SeaF (sealZ s x0 l[k]).1 (sealZ s x0 l[k]).2 w')) := fun k hk' x0 ve w' hx0 kk hev =>
    seal_form (seal_any _ ve s x0 l[k] w' (hs.kept kk) hev (hI _ (List.getElem_mem _)) hx0 (hE.kept0 kk))
  have HL0 : Hid (SlW w W [] [w.heap.size + 1] (.slice (some ⟨w.heap.size + 1, 0, none⟩) 0 0)) :=
    ⟨⟨[], ⟨by simp, Or.inr ⟨w.heap.size + 1, 0, #[], rfl, by omega, hz, Nat.le_refl _, by simp [maxLen], by simp, by simp⟩⟩, fun _ _ _ _ => Elems.nil_ _ _ _⟩, fun z hz => by rw [List.mem_singleton]; have h := obl_mem hz; have h2 : some (w.heap.size + 1) = some z := h; injection h2 with h3; exact h3.symm, fun z hz2 => by rw [List.mem_singleton] at hz2; subst hz2; exact hz.lt, fun z hz2 => by rw [List.mem_singleton] at hz2; omega, hkW⟩
  have HB := Lib.hid hb
  have HA := Lib.hid ha
  have HKK := Lib.hid hk
  have HKI := Lib.hid hki
  have HW := Lib.hid hW
  have HKW := Lib.hid hkW
  obtain ⟨i0, hi, hz0, hz1, hz2⟩ := info_parts infoEnt
  clear hW hb hz hrow hkW hs hk ha hki hE ib hI
  show Calls _ _ #[.agg #[.int .i64 s.P, .int .i64 s.Q, .int .i64 s.G, .slice ad s.bases.length cc, .int .i64 s.blind], _, _] _ _
  go_enter Tryz.func9, Tryz.ntmps9
  go_upto_region 2 with (fail)
  have hW' : (w.alloc (.cells #[.int .i64 s.P, .int .i64 s.Q, .int .i64 s.G, .slice ad s.bases.length cc, .int .i64 s.blind] 26)).alloc (.cells #[] 52) = W := HW.out
  rw [hW']
  clear hW'
  go_wp2_with fail
  go_loopw [7, 8] (fun vj vi wr => ∃ (k : Nat) (a : Option Addr) (c : Nat) (X : List Nat), k ≤ l.length ∧ vi = .int .i64 k ∧ vj = .slice a k c ∧ Hid (SlW w wr ((sealL s xs l).take k) X (.slice a k c)) ∧ Hid (Blk wr w.heap.size 26 #[.int .i64 s.P, .int .i64 s.Q, .int .i64 s.G, .slice ad s.bases.length cc, .int .i64 s.blind]) ∧ Hid (∀ z ∈ obl (.slice a k c), z ≠ w.heap.size)) (fun _ vi _ => l.length - (intOf vi).toNat)
  case atStart => exact ⟨0, _, _, _, by omega, rfl, rfl, HL0, HB, fun z hz => by have h := obl_mem hz; have h2 : some (w.heap.size + 1) = some z := h; injection h2 with h3; omega⟩
  case round =>
    obtain ⟨k, a, c, X, hkl', rfl, rfl, HS, HBW, HNB⟩ := hrel
    by_cases hkn : k < l.length
    · obtain ⟨xb, xo, xc', hx1, _, hx2⟩ := HA.out.at_ (by omega)
      injection hx1 with hx1 _ hx3
      subst hx1 hx3
      obtain ⟨u, hu, hc8⟩ := hx2 k hkn
      have HKB := Lib.hid HS.out.kb
      have hc8 := hc8.kept HKB.out
      obtain ⟨ga, gc, rfl, _, _⟩ := hu.form
      have HU := Lib.hid hu
      have SEk := Lib.hid (SE.out k hkn)
      have hLl : (sealL s xs l).length = l.length := by simp [sealL]
      have HTK : Hid ((sealL s xs l).take (k + 1) = (sealL s xs l).take k ++ [sealA s xs l[k]]) := by
        show _ = _
        rw [List.take_succ_eq_append_getElem (by rw [hLl]; exact hkn)]
        simp [sealL]
      have HLL := Lib.hid hLl
      obtain ⟨x, hx⟩ : ∃ x, l[k] = x := ⟨_, rfl⟩
      rw [hx] at SEk HU hc8 HTK
      obtain ⟨x0, x1, x2, x3, x4, x5, x6, x7⟩ := hc8
      clear hx hx2 hu hLl
      go_upto_region 6 with (fail)
      obtain ⟨W5, hW5⟩ : ∃ W5, wr.alloc (.cells #[.int .i64 x.gate, .int .i64 x.no, .int .i64 x.time, .int .i64 x.kind, .slice ga x.nums.length gc, .string ⟨x.text.toArray⟩, .int .i64 x.c, .int .i64 x.s] 52) = W5 := ⟨_, rfl⟩
      have hbx : Blk W5 wr.heap.size 52 #[.int .i64 x.gate, .int .i64 x.no, .int .i64 x.time, .int .i64 x.kind, .slice ga x.nums.length gc, .string ⟨x.text.toArray⟩, .int .i64 x.c, .int .i64 x.s] := hW5 ▸ Blk.new _ _ _
      have k5 : Kept [] wr W5 := hW5 ▸ (Kept.refl _ _).alloc _
      rw [hW5]
      have hsx0 : wr.heap.size < W5.heap.size := hbx.lt
      have hXb0 := HS.out.hX
      have hS5 := HS.out.keepS (X' := wr.heap.size :: X) k5 (by simp) (by simp) (by simp) (fun z hz => by rcases List.mem_cons.1 hz with e | e; exact Or.inr (by omega); exact Or.inl e) (fun z hz => by rcases List.mem_cons.1 hz with e | e; omega; have := hXb0 z e; omega) (fun z hz => List.mem_cons_of_mem _ hz)
      have HVX : Hid (∀ z ∈ obl (.slice a k c), z ≠ wr.heap.size) := fun z hz => by have := hXb0 z (HS.out.vX z hz); omega
      obtain ⟨acc, hacc⟩ : ∃ acc, (sealL s xs l).take k = acc := ⟨_, rfl⟩
      rw [hacc] at HTK hS5
      have hal : acc.length = k := by rw [← hacc, List.length_take, HLL.out]; omega
      have HAL := Lib.hid hal
      have HS5 := Lib.hid hS5
      have HBX := Lib.hid hbx
      have HBW5 := Lib.hid (HBW.out.kept k5 (by simp))
      have hwb : w.heap.size < wr.heap.size := HBW.out.lt
      have hwx : w.heap.size ≤ wr.heap.size := HKB.out.size
      obtain ⟨bx, hbxe⟩ : ∃ bx, wr.heap.size = bx := ⟨_, rfl⟩
      rw [hbxe] at HBX hwx HS5 HVX hsx0 hwb ⊢
      obtain ⟨XX, hXX⟩ : ∃ XX, bx :: X = XX := ⟨_, rfl⟩
      have hbXX : bx ∈ XX := by rw [← hXX]; exact List.mem_cons_self
      rw [hXX] at HS5
      have hXb : Hid (∀ z ∈ XX, z < W5.heap.size) := HS5.out.hX
      clear hW5 hbx k5 hS5 hacc hal hbxe hXX hXb0 x0 x1 x2 x3 x4 x5 x6 x7 HS HBW
      have HUS : Hid (∀ V, Kept [] W5 V → Stable XX (fun w => Row w 1 (.slice ga x.nums.length gc) x.nums.length (ints x.nums)) V) := fun V kk => stable_old HU.out (HS5.out.kb.trans kk) HS5.out.gX
      by_cases hin : 0 ≤ x.gate ∧ x.gate < (xs.length : Int)
      · obtain ⟨h0, h1⟩ := hin
        have HSA : Hid (sealA s xs x = if (sealZ s (nth xs x.gate.toNat) x).2 then (sealZ s (nth xs x.gate.toNat) x).1 else x) := by
          show _ = _
          unfold sealA sealZ
          rw [if_pos ⟨h0, h1⟩]
          cases sealOk s (nth xs x.gate.toNat) x <;> rfl
        have hgl : x.gate.toNat < xs.length := by omega
        obtain ⟨kb, ko, rfl, hkcell⟩ := HKK.out.at_ (by omega)
        have hkx := hkcell x.gate.toNat _ (ints_get hgl)
        have hnth : nth xs x.gate.toNat = xs[x.gate.toNat] := by unfold nth; rw [List.getD_eq_getElem?_getD, List.getElem?_eq_getElem hgl]; rfl
        have hi0 : Wire.I64 xs[x.gate.toNat] := HKI.out _ (List.getElem_mem hgl)
        obtain ⟨n0, hn0⟩ : ∃ n, xs[x.gate.toNat] = n := ⟨_, rfl⟩
        rw [hn0] at hkx hnth hi0
        rw [hnth] at HSA
        have SG5 : Hid (∀ w', Kept [] w w' → Calls Tryz.prog 24 #[.agg #[.int .i64 s.P, .int .i64 s.Q, .int .i64 s.G, .slice ad s.bases.length cc, .int .i64 s.blind], .int .i64 n0, .agg #[.int .i64 x.gate, .int .i64 x.no, .int .i64 x.time, .int .i64 x.kind, .slice ga x.nums.length gc, .string ⟨x.text.toArray⟩, .int .i64 x.c, .int .i64 x.s]] w' (SeaF (sealZ s n0 x).1 (sealZ s n0 x).2 w')) := fun w' kk => SEk.out n0 _ w' hi0 kk ⟨_, rfl, HU.out.kept kk⟩
        obtain ⟨y, hy⟩ : ∃ y, (sealZ s n0 x).1 = y := ⟨_, rfl⟩
        obtain ⟨sb, hsb⟩ : ∃ b, (sealZ s n0 x).2 = b := ⟨_, rfl⟩
        rw [hy, hsb] at SG5 HSA
        have SG6 : Hid (∀ w', Kept [] W5 w' → Calls Tryz.prog 24 #[.agg #[.int .i64 s.P, .int .i64 s.Q, .int .i64 s.G, .slice ad s.bases.length cc, .int .i64 s.blind], .int .i64 n0, .agg #[.int .i64 x.gate, .int .i64 x.no, .int .i64 x.time, .int .i64 x.kind, .slice ga x.nums.length gc, .string ⟨x.text.toArray⟩, .int .i64 x.c, .int .i64 x.s]] w' (SeaF y sb w')) := fun w' kk => SG5.out w' (HS5.out.kb.trans kk)
        have HKX := Lib.hid hkx
        have x0 : W5.cell? ⟨bx, 0, none⟩ = some (.int .i64 x.gate) := HBX.out.cell 0
        clear hkcell hnth hi0 hn0 hy hsb SG5 SEk hgl hkx
        go_upto_region 7 with (fail)
        clear x0
        go_cut [10, 11] (fun v10 v11 wx => ∃ (yb : Nat) (ya : Option Addr) (yc : Nat), v10 = .pointer (some ⟨yb, 0, none⟩) ∧ v11 = .bool sb ∧ yb ≠ bx ∧ Hid (Blk wx yb 52 #[.int .i64 y.gate, .int .i64 y.no, .int .i64 y.time, .int .i64 y.kind, .slice ya y.nums.length yc, .string ⟨y.text.toArray⟩, .int .i64 y.c, .int .i64 y.s]) ∧ Hid (Stable XX (fun w => Row w 1 (.slice ya y.nums.length yc) y.nums.length (ints y.nums)) wx) ∧ Hid (Kept [] W5 wx))
        case first =>
          have s0 : ∀ w', Kept [] W5 w' → w'.cell? ⟨w.heap.size, 0, none⟩ = some (.int .i64 s.P) := Kept.cellOf (HBW5.out.cell 0)
          have s1 : ∀ w', Kept [] W5 w' → w'.cell? ⟨w.heap.size, 1, none⟩ = some (.int .i64 s.Q) := Kept.cellOf (HBW5.out.cell 1)
          have s2 : ∀ w', Kept [] W5 w' → w'.cell? ⟨w.heap.size, 2, none⟩ = some (.int .i64 s.G) := Kept.cellOf (HBW5.out.cell 2)
          have s3 : ∀ w', Kept [] W5 w' → w'.cell? ⟨w.heap.size, 3, none⟩ = some (.slice ad s.bases.length cc) := Kept.cellOf (HBW5.out.cell 3)
          have s4 : ∀ w', Kept [] W5 w' → w'.cell? ⟨w.heap.size, 4, none⟩ = some (.int .i64 s.blind) := Kept.cellOf (HBW5.out.cell 4)
          have x0 : ∀ w', Kept [] W5 w' → w'.cell? ⟨bx, 0, none⟩ = some (.int .i64 x.gate) := Kept.cellOf (HBX.out.cell 0)
          have x1 : ∀ w', Kept [] W5 w' → w'.cell? ⟨bx, 1, none⟩ = some (.int .i64 x.no) := Kept.cellOf (HBX.out.cell 1)
          have x2 : ∀ w', Kept [] W5 w' → w'.cell? ⟨bx, 2, none⟩ = some (.int .i64 x.time) := Kept.cellOf (HBX.out.cell 2)
          have x3 : ∀ w', Kept [] W5 w' → w'.cell? ⟨bx, 3, none⟩ = some (.int .i64 x.kind) := Kept.cellOf (HBX.out.cell 3)
          have x4 : ∀ w', Kept [] W5 w' → w'.cell? ⟨bx, 4, none⟩ = some (.slice ga x.nums.length gc) := Kept.cellOf (HBX.out.cell 4)
          have x5 : ∀ w', Kept [] W5 w' → w'.cell? ⟨bx, 5, none⟩ = some (.string ⟨x.text.toArray⟩) := Kept.cellOf (HBX.out.cell 5)
          have x6 : ∀ w', Kept [] W5 w' → w'.cell? ⟨bx, 6, none⟩ = some (.int .i64 x.c) := Kept.cellOf (HBX.out.cell 6)
          have x7 : ∀ w', Kept [] W5 w' → w'.cell? ⟨bx, 7, none⟩ = some (.int .i64 x.s) := Kept.cellOf (HBX.out.cell 7)
          have q0 : ∀ w', Kept [] W5 w' → w'.cell? ⟨kb, ko + x.gate.toNat, none⟩ = some (.int .i64 n0) := Kept.cellOf (Kept.cellOf HKX.out _ HS5.out.kb)
          go_region_held3 (fun w' => Kept [] W5 w') (repeat (first | (with_reducible assumption) | (with_reducible exact Kept.refl _ _) | (with_reducible refine Kept.drew ?_) | (with_reducible refine Kept.alloc ?_ _) | (with_reducible refine Kept.setCell ?_ (Or.inr (by first | (simp; done) | (have := kC.size; simp; omega))) _)))
            (first
              | (go_at_call 24; (with_reducible refine (SG6.out _ (by first | assumption | exact (Kept.refl _ _).drew | exact ((Kept.refl _ _).drew.alloc _))).mono ?_); (rintro en wC ⟨ya, yc, rfl, hst, kC⟩); (have kC5 : Kept [] W5 wC := Kept.trans (by first | assumption | exact (Kept.refl _ _).drew | exact ((Kept.refl _ _).drew.alloc _)) kC); (obtain ⟨hc2, hf2⟩ := bcell8 kC); first | (have hz2 : W5.heap.size < wC.heap.size := by (have := kC.size; simp at this; omega)) | skip)
              | fail)
          · rename_i hHeld
            have hs8 : W5.heap.size ≤ wC.heap.size := kC5.size
            have KH := Lib.hid hHeld
            have HR1 : Hid (Blk (wC.alloc (.cells #[.int .i64 y.gate, .int .i64 y.no, .int .i64 y.time, .int .i64 y.kind, .slice ya y.nums.length yc, .string ⟨y.text.toArray⟩, .int .i64 y.c, .int .i64 y.s] 52)) wC.heap.size 52 #[.int .i64 y.gate, .int .i64 y.no, .int .i64 y.time, .int .i64 y.kind, .slice ya y.nums.length yc, .string ⟨y.text.toArray⟩, .int .i64 y.c, .int .i64 y.s]) := Blk.new _ _ _
            have HR2 : Hid (Stable XX (fun w => Row w 1 (.slice ya y.nums.length yc) y.nums.length (ints y.nums)) (wC.alloc (.cells #[.int .i64 y.gate, .int .i64 y.no, .int .i64 y.time, .int .i64 y.kind, .slice ya y.nums.length yc, .string ⟨y.text.toArray⟩, .int .i64 y.c, .int .i64 y.s] 52))) := (hst XX (fun z hz => hXb.out z hz)).step ((Kept.refl [] wC).alloc _) (by simp) (fun z hz => Or.inl hz)
            have hne : wC.heap.size ≠ bx := by omega
            clear hst kC hc2 hf2 hHeld s0 s1 s2 s3 s4 x0 x1 x2 x3 x4 x5 x6 x7 q0
            go_wp2_with fail
            go_meet
            case rel => exact ⟨wC.heap.size, ya, yc, rfl, rfl, hne, HR1, HR2, KH.out⟩
          · rename_i hHeld
            have KH := Lib.hid hHeld
            obtain ⟨Z, hZ⟩ : ∃ Z, (((((((wC.setCell ⟨W5.heap.size, 0, none⟩ (.int .i64 y.gate)).setCell ⟨W5.heap.size, 1, none⟩ (.int .i64 y.no)).setCell ⟨W5.heap.size, 2, none⟩ (.int .i64 y.time)).setCell ⟨W5.heap.size, 3, none⟩ (.int .i64 y.kind)).setCell ⟨W5.heap.size, 4, none⟩ (.slice ya y.nums.length yc)).setCell ⟨W5.heap.size, 5, none⟩ (.string ⟨y.text.toArray⟩)).setCell ⟨W5.heap.size, 6, none⟩ (.int .i64 y.c)).setCell ⟨W5.heap.size, 7, none⟩ (.int .i64 y.s) = Z := ⟨_, rfl⟩
            have HR1 : Hid (Blk Z W5.heap.size 52 #[.int .i64 y.gate, .int .i64 y.no, .int .i64 y.time, .int .i64 y.kind, .slice ya y.nums.length yc, .string ⟨y.text.toArray⟩, .int .i64 y.c, .int .i64 y.s]) := by
              have := ((((((((Blk.kept (w := (W5.alloc (.cells #[.int .i64 0, .int .i64 0, .int .i64 0, .int .i64 0, .slice none 0 0, .string ⟨#[]⟩, .int .i64 0, .int .i64 0] 52)).drew) (Blk.new W5 52 #[.int .i64 0, .int .i64 0, .int .i64 0, .int .i64 0, .slice none 0 0, .string ⟨#[]⟩, .int .i64 0, .int .i64 0]) kC (by simp)).set_ 0 (.int .i64 y.gate)).set_ 1 (.int .i64 y.no)).set_ 2 (.int .i64 y.time)).set_ 3 (.int .i64 y.kind)).set_ 4 (.slice ya y.nums.length yc)).set_ 5 (.string ⟨y.text.toArray⟩)).set_ 6 (.int .i64 y.c)).set_ 7 (.int .i64 y.s)
              rw [hZ] at this
              exact this
            have hkZ : Kept [W5.heap.size] wC Z := by
              rw [← hZ]
              repeat (refine Kept.setCell ?_ (Or.inl (by simp)) _)
              exact Kept.refl _ _
            have HR2 : Hid (Stable XX (fun w => Row w 1 (.slice ya y.nums.length yc) y.nums.length (ints y.nums)) Z) :=
              (hst (W5.heap.size :: XX) (fun z hz => by
                show z < (W5.alloc (.cells #[.int .i64 0, .int .i64 0, .int .i64 0, .int .i64 0, .slice none 0 0, .string ⟨#[]⟩, .int .i64 0, .int .i64 0] 52)).heap.size
                rw [World.size_alloc]
                rcases List.mem_cons.1 hz with e | e
                · omega
                · have := hXb.out z e; omega)).step hkZ (fun z hz _ => by rw [List.mem_singleton] at hz; subst hz; exact List.mem_cons_self) (fun z hz => Or.inl (List.mem_cons_of_mem _ hz))
            have hne : W5.heap.size ≠ bx := by omega
            rw [hZ] at KH ⊢
            clear hst kC hc2 hf2 hHeld hkZ hZ s0 s1 s2 s3 s4 x0 x1 x2 x3 x4 x5 x6 x7 q0
            go_wp2_with fail
            go_meet
            case rel => exact ⟨W5.heap.size, ya, yc, rfl, rfl, hne, HR1, HR2, KH.out⟩
        case rest =>
          obtain ⟨yb, ya, yc, rfl, rfl, hne, HBY, HST, KC⟩ := hcut
          cases sb
          · have HZA : Hid (sealA s xs x = x) := HSA.out
            have HBZ := Lib.hid (HBX.out.kept KC.out (by simp))
            have HSZ := Lib.hid (HUS.out _ KC.out)
            have HSV := Lib.hid (HS5.out.keep KC.out)
            have HBV := Lib.hid (HBW5.out.kept KC.out (by simp))
            have hbz := HBZ.out
            have e0 : wc.cell? ⟨bx, 0, none⟩ = some (.int .i64 x.gate) := hbz.cell 0
            have e1 : wc.cell? ⟨bx, 1, none⟩ = some (.int .i64 x.no) := hbz.cell 1
            have e2 : wc.cell? ⟨bx, 2, none⟩ = some (.int .i64 x.time) := hbz.cell 2
            have e3 : wc.cell? ⟨bx, 3, none⟩ = some (.int .i64 x.kind) := hbz.cell 3
            have e4 : wc.cell? ⟨bx, 4, none⟩ = some (.slice ga x.nums.length gc) := hbz.cell 4
            have e5 : wc.cell? ⟨bx, 5, none⟩ = some (.string ⟨x.text.toArray⟩) := hbz.cell 5
            have e6 : wc.cell? ⟨bx, 6, none⟩ = some (.int .i64 x.c) := hbz.cell 6
            have e7 : wc.cell? ⟨bx, 7, none⟩ = some (.int .i64 x.s) := hbz.cell 7
            have ka : Kept [] wc (wc.alloc (.cells #[.int .i64 x.gate, .int .i64 x.no, .int .i64 x.time, .int .i64 x.kind, .slice ga x.nums.length gc, .string ⟨x.text.toArray⟩, .int .i64 x.c, .int .i64 x.s] 52)) := (Kept.refl _ _).alloc _
            have HJ5 := Lib.hid (HSV.out.keep ka)
            have hst5 : Hid (Stable XX (fun w => EntR w (entC x (.slice ga x.nums.length gc)) x) (wc.alloc (.cells #[.int .i64 x.gate, .int .i64 x.no, .int .i64 x.time, .int .i64 x.kind, .slice ga x.nums.length gc, .string ⟨x.text.toArray⟩, .int .i64 x.c, .int .i64 x.s] 52))) := ((HSZ.out.step ka (by simp) (fun z hz => Or.inl hz)).imp fun _ h => ⟨_, rfl, h⟩)
            have hle := Lib.hid (show w.heap.size ≤ _ from HJ5.out.kb.size)
            have HB6 := Lib.hid (HBV.out.kept ka (by simp))
            have hal2 : acc.length ≤ 1000000000 := by rw [HAL.out]; omega
            clear hbz ka
            go_wp2_with (at_builtin; refine wpList_append_grow rfl _ _ 27 rfl i0 zeroEV 88 Tryz.underlying27 hi hz0 hz1 hz2 rfl (by decide) (by decide) rfl HJ5.out.gr _ (entC x (.slice ga x.nums.length gc)) x rfl (rowS rfl _ _ _ rfl) hst5.out (by simp [entC, Value.oneCell']) hal2 hle.out HJ5.out.vX ?_)
            intro p9 q9 y9 G9 k9 t9
            have hpn := HJ5.out.push k9 (by rw [HAL.out] at G9 ⊢; exact G9)
            rw [HAL.out] at hpn
            obtain ⟨X9, hX9⟩ : ∃ X9, XX ++ obl (.slice p9 (k + 1) q9) = X9 := ⟨_, rfl⟩
            rw [hX9] at hpn
            have HPN : Hid (SlW w y9 ((sealL s xs l).take (k + 1)) X9 (.slice p9 (k + 1) q9)) := by
              rw [HTK.out, HZA.out]
              exact hpn
            have HB9 := Lib.hid (HB6.out.kept k9 (fun hm => HNB.out _ hm rfl))
            have HN9 : Hid (∀ z ∈ obl (.slice p9 (k + 1) q9), z ≠ w.heap.size) := fun z hz => by
              rw [← HAL.out] at hz
              rcases t9 z hz with h | h
              · exact HNB.out z h
              · have := HBV.out.lt
                omega
            rw [HAL.out]
            clear G9 k9 t9 hst5 hpn hX9 hle HJ5 e0 e1 e2 e3 e4 e5 e6 e7
            go_wp2_with fail
            go_roundw
            case rel => exact ⟨k + 1, p9, q9, X9, by omega, by go_num, rfl, HPN, HB9, HN9⟩
            case measure => simp [intOf]; omega
          · have HZA : Hid (sealA s xs x = y) := HSA.out
            have hby := HBY.out
            have hbx := HBX.out.kept KC.out (by simp)
            have y0 : wc.cell? ⟨yb, 0, none⟩ = some (.int .i64 y.gate) := hby.cell 0
            have y1 : wc.cell? ⟨yb, 1, none⟩ = some (.int .i64 y.no) := hby.cell 1
            have y2 : wc.cell? ⟨yb, 2, none⟩ = some (.int .i64 y.time) := hby.cell 2
            have y3 : wc.cell? ⟨yb, 3, none⟩ = some (.int .i64 y.kind) := hby.cell 3
            have y4 : wc.cell? ⟨yb, 4, none⟩ = some (.slice ya y.nums.length yc) := hby.cell 4
            have y5 : wc.cell? ⟨yb, 5, none⟩ = some (.string ⟨y.text.toArray⟩) := hby.cell 5
            have y6 : wc.cell? ⟨yb, 6, none⟩ = some (.int .i64 y.c) := hby.cell 6
            have y7 : wc.cell? ⟨yb, 7, none⟩ = some (.int .i64 y.s) := hby.cell 7
            have x0 : wc.cell? ⟨bx, 0, none⟩ = some (.int .i64 x.gate) := hbx.cell 0
            have x1 : wc.cell? ⟨bx, 1, none⟩ = some (.int .i64 x.no) := hbx.cell 1
            have x2 : wc.cell? ⟨bx, 2, none⟩ = some (.int .i64 x.time) := hbx.cell 2
            have x3 : wc.cell? ⟨bx, 3, none⟩ = some (.int .i64 x.kind) := hbx.cell 3
            have x4 : wc.cell? ⟨bx, 4, none⟩ = some (.slice ga x.nums.length gc) := hbx.cell 4
            have x5 : wc.cell? ⟨bx, 5, none⟩ = some (.string ⟨x.text.toArray⟩) := hbx.cell 5
            have x6 : wc.cell? ⟨bx, 6, none⟩ = some (.int .i64 x.c) := hbx.cell 6
            have x7 : wc.cell? ⟨bx, 7, none⟩ = some (.int .i64 x.s) := hbx.cell 7
            have f0 : wc.frozen? ⟨bx, 0, none⟩ = false := hbx.frozen 0
            have f1 : wc.frozen? ⟨bx, 1, none⟩ = false := hbx.frozen 1
            have f2 : wc.frozen? ⟨bx, 2, none⟩ = false := hbx.frozen 2
            have f3 : wc.frozen? ⟨bx, 3, none⟩ = false := hbx.frozen 3
            have f4 : wc.frozen? ⟨bx, 4, none⟩ = false := hbx.frozen 4
            have f5 : wc.frozen? ⟨bx, 5, none⟩ = false := hbx.frozen 5
            have f6 : wc.frozen? ⟨bx, 6, none⟩ = false := hbx.frozen 6
            have f7 : wc.frozen? ⟨bx, 7, none⟩ = false := hbx.frozen 7
            clear hby hbx
            go_upto_region 10 with (fail)
            obtain ⟨V, hV⟩ : ∃ V, (((((((wc.setCell ⟨bx, 0, none⟩ (.int .i64 y.gate)).setCell ⟨bx, 1, none⟩ (.int .i64 y.no)).setCell ⟨bx, 2, none⟩ (.int .i64 y.time)).setCell ⟨bx, 3, none⟩ (.int .i64 y.kind)).setCell ⟨bx, 4, none⟩ (.slice ya y.nums.length yc)).setCell ⟨bx, 5, none⟩ (.string ⟨y.text.toArray⟩)).setCell ⟨bx, 6, none⟩ (.int .i64 y.c)).setCell ⟨bx, 7, none⟩ (.int .i64 y.s) = V := ⟨_, rfl⟩
            have HBZ : Hid (Blk V bx 52 #[.int .i64 y.gate, .int .i64 y.no, .int .i64 y.time, .int .i64 y.kind, .slice ya y.nums.length yc, .string ⟨y.text.toArray⟩, .int .i64 y.c, .int .i64 y.s]) := by
              have := (((((((((HBX.out.kept KC.out (by simp)).set_ 0 (.int .i64 y.gate)).set_ 1 (.int .i64 y.no)).set_ 2 (.int .i64 y.time)).set_ 3 (.int .i64 y.kind)).set_ 4 (.slice ya y.nums.length yc)).set_ 5 (.string ⟨y.text.toArray⟩)).set_ 6 (.int .i64 y.c)).set_ 7 (.int .i64 y.s))
              rw [hV] at this
              exact this
            have hkV : Kept [bx] wc V := by
              rw [← hV]
              repeat (refine Kept.setCell ?_ (Or.inl (by simp)) _)
              exact Kept.refl _ _
            have hmx : ∀ z ∈ [bx], z ∈ XX := fun z hz => by rw [List.mem_singleton] at hz; subst hz; exact hbXX
            have HSZ := Lib.hid (HST.out.step hkV (fun z hz _ => hmx z hz) (fun z hz => Or.inl hz))
            have HSV := Lib.hid ((HS5.out.keep KC.out).keepS (X' := XX) hkV (fun z hz hm => by rw [List.mem_singleton] at hm; exact HVX.out z hz hm) (fun z hz _ => hmx z hz) (fun z hz => by rw [List.mem_singleton] at hz; subst hz; exact hwx) (fun z hz => Or.inl hz) (fun z hz => Nat.lt_of_lt_of_le (hXb.out z hz) (Nat.le_trans KC.out.size hkV.size)) (fun z hz => hz))
            have HBV := Lib.hid ((HBW5.out.kept KC.out (by simp)).kept hkV (by rw [List.mem_singleton]; omega))
            rw [hV]
            clear hV hkV hmx y0 y1 y2 y3 y4 y5 y6 y7 x0 x1 x2 x3 x4 x5 x6 x7 f0 f1 f2 f3 f4 f5 f6 f7
            have hbz := HBZ.out
            have e0 : V.cell? ⟨bx, 0, none⟩ = some (.int .i64 y.gate) := hbz.cell 0
            have e1 : V.cell? ⟨bx, 1, none⟩ = some (.int .i64 y.no) := hbz.cell 1
            have e2 : V.cell? ⟨bx, 2, none⟩ = some (.int .i64 y.time) := hbz.cell 2
            have e3 : V.cell? ⟨bx, 3, none⟩ = some (.int .i64 y.kind) := hbz.cell 3
            have e4 : V.cell? ⟨bx, 4, none⟩ = some (.slice ya y.nums.length yc) := hbz.cell 4
            have e5 : V.cell? ⟨bx, 5, none⟩ = some (.string ⟨y.text.toArray⟩) := hbz.cell 5
            have e6 : V.cell? ⟨bx, 6, none⟩ = some (.int .i64 y.c) := hbz.cell 6
            have e7 : V.cell? ⟨bx, 7, none⟩ = some (.int .i64 y.s) := hbz.cell 7
            have ka : Kept [] V (V.alloc (.cells #[.int .i64 y.gate, .int .i64 y.no, .int .i64 y.time, .int .i64 y.kind, .slice ya y.nums.length yc, .string ⟨y.text.toArray⟩, .int .i64 y.c, .int .i64 y.s] 52)) := (Kept.refl _ _).alloc _
            have HJ5 := Lib.hid (HSV.out.keep ka)
            have hst5 : Hid (Stable XX (fun w => EntR w (entC y (.slice ya y.nums.length yc)) y) (V.alloc (.cells #[.int .i64 y.gate, .int .i64 y.no, .int .i64 y.time, .int .i64 y.kind, .slice ya y.nums.length yc, .string ⟨y.text.toArray⟩, .int .i64 y.c, .int .i64 y.s] 52))) := ((HSZ.out.step ka (by simp) (fun z hz => Or.inl hz)).imp fun _ h => ⟨_, rfl, h⟩)
            have hle := Lib.hid (show w.heap.size ≤ _ from HJ5.out.kb.size)
            have HB6 := Lib.hid (HBV.out.kept ka (by simp))
            have hal2 : acc.length ≤ 1000000000 := by rw [HAL.out]; omega
            clear hbz ka
            go_wp2_with (at_builtin; refine wpList_append_grow rfl _ _ 27 rfl i0 zeroEV 88 Tryz.underlying27 hi hz0 hz1 hz2 rfl (by decide) (by decide) rfl HJ5.out.gr _ (entC y (.slice ya y.nums.length yc)) y rfl (rowS rfl _ _ _ rfl) hst5.out (by simp [entC, Value.oneCell']) hal2 hle.out HJ5.out.vX ?_)
            intro p9 q9 y9 G9 k9 t9
            have hpn := HJ5.out.push k9 (by rw [HAL.out] at G9 ⊢; exact G9)
            rw [HAL.out] at hpn
            obtain ⟨X9, hX9⟩ : ∃ X9, XX ++ obl (.slice p9 (k + 1) q9) = X9 := ⟨_, rfl⟩
            rw [hX9] at hpn
            have HPN : Hid (SlW w y9 ((sealL s xs l).take (k + 1)) X9 (.slice p9 (k + 1) q9)) := by
              rw [HTK.out, HZA.out]
              exact hpn
            have HB9 := Lib.hid (HB6.out.kept k9 (fun hm => HNB.out _ hm rfl))
            have HN9 : Hid (∀ z ∈ obl (.slice p9 (k + 1) q9), z ≠ w.heap.size) := fun z hz => by
              rw [← HAL.out] at hz
              rcases t9 z hz with h | h
              · exact HNB.out z h
              · have := HBV.out.lt
                omega
            rw [HAL.out]
            clear G9 k9 t9 hst5 hpn hX9 hle HJ5 e0 e1 e2 e3 e4 e5 e6 e7
            go_wp2_with fail
            go_roundw
            case rel => exact ⟨k + 1, p9, q9, X9, by omega, by go_num, rfl, HPN, HB9, HN9⟩
            case measure => simp [intOf]; omega
      · have HZA : Hid (sealA s xs x = x) := by
          show _ = _
          unfold sealA
          rw [if_neg hin]
        have HBZ := HBX
        have HSZ := Lib.hid (HUS.out W5 (Kept.refl _ _))
        have HSV := HS5
        have HBV := HBW5
        have x0 : W5.cell? ⟨bx, 0, none⟩ = some (.int .i64 x.gate) := HBX.out.cell 0
        by_cases h0 : 0 ≤ x.gate
        · have h1 : ¬ x.gate < (xs.length : Int) := fun h => hin ⟨h0, h⟩
          have d0 : decide (0 ≤ x.gate) = true := by simpa using h0
          have d1 : decide (x.gate < (xs.length : Int)) = false := by simpa using h1
          clear hin
          go_upto_region 10 with (fail)
          clear x0
          have hbz := HBZ.out
          have e0 : W5.cell? ⟨bx, 0, none⟩ = some (.int .i64 x.gate) := hbz.cell 0
          have e1 : W5.cell? ⟨bx, 1, none⟩ = some (.int .i64 x.no) := hbz.cell 1
          have e2 : W5.cell? ⟨bx, 2, none⟩ = some (.int .i64 x.time) := hbz.cell 2
          have e3 : W5.cell? ⟨bx, 3, none⟩ = some (.int .i64 x.kind) := hbz.cell 3
          have e4 : W5.cell? ⟨bx, 4, none⟩ = some (.slice ga x.nums.length gc) := hbz.cell 4
          have e5 : W5.cell? ⟨bx, 5, none⟩ = some (.string ⟨x.text.toArray⟩) := hbz.cell 5
          have e6 : W5.cell? ⟨bx, 6, none⟩ = some (.int .i64 x.c) := hbz.cell 6
          have e7 : W5.cell? ⟨bx, 7, none⟩ = some (.int .i64 x.s) := hbz.cell 7
          have ka : Kept [] W5 (W5.alloc (.cells #[.int .i64 x.gate, .int .i64 x.no, .int .i64 x.time, .int .i64 x.kind, .slice ga x.nums.length gc, .string ⟨x.text.toArray⟩, .int .i64 x.c, .int .i64 x.s] 52)) := (Kept.refl _ _).alloc _
          have HJ5 := Lib.hid (HSV.out.keep ka)
          have hst5 : Hid (Stable XX (fun w => EntR w (entC x (.slice ga x.nums.length gc)) x) (W5.alloc (.cells #[.int .i64 x.gate, .int .i64 x.no, .int .i64 x.time, .int .i64 x.kind, .slice ga x.nums.length gc, .string ⟨x.text.toArray⟩, .int .i64 x.c, .int .i64 x.s] 52))) := ((HSZ.out.step ka (by simp) (fun z hz => Or.inl hz)).imp fun _ h => ⟨_, rfl, h⟩)
          have hle := Lib.hid (show w.heap.size ≤ _ from HJ5.out.kb.size)
          have HB6 := Lib.hid (HBV.out.kept ka (by simp))
          have hal2 : acc.length ≤ 1000000000 := by rw [HAL.out]; omega
          clear hbz ka
          go_wp2_with (at_builtin; refine wpList_append_grow rfl _ _ 27 rfl i0 zeroEV 88 Tryz.underlying27 hi hz0 hz1 hz2 rfl (by decide) (by decide) rfl HJ5.out.gr _ (entC x (.slice ga x.nums.length gc)) x rfl (rowS rfl _ _ _ rfl) hst5.out (by simp [entC, Value.oneCell']) hal2 hle.out HJ5.out.vX ?_)
          intro p9 q9 y9 G9 k9 t9
          have hpn := HJ5.out.push k9 (by rw [HAL.out] at G9 ⊢; exact G9)
          rw [HAL.out] at hpn
          obtain ⟨X9, hX9⟩ : ∃ X9, XX ++ obl (.slice p9 (k + 1) q9) = X9 := ⟨_, rfl⟩
          rw [hX9] at hpn
          have HPN : Hid (SlW w y9 ((sealL s xs l).take (k + 1)) X9 (.slice p9 (k + 1) q9)) := by
            rw [HTK.out, HZA.out]
            exact hpn
          have HB9 := Lib.hid (HB6.out.kept k9 (fun hm => HNB.out _ hm rfl))
          have HN9 : Hid (∀ z ∈ obl (.slice p9 (k + 1) q9), z ≠ w.heap.size) := fun z hz => by
            rw [← HAL.out] at hz
            rcases t9 z hz with h | h
            · exact HNB.out z h
            · have := HBV.out.lt
              omega
          rw [HAL.out]
          clear G9 k9 t9 hst5 hpn hX9 hle HJ5 e0 e1 e2 e3 e4 e5 e6 e7
          go_wp2_with fail
          go_roundw
          case rel => exact ⟨k + 1, p9, q9, X9, by omega, by go_num, rfl, HPN, HB9, HN9⟩
          case measure => simp [intOf]; omega
        · have d0 : decide (0 ≤ x.gate) = false := by simpa using h0
          clear hin
          go_upto_region 10 with (fail)
          clear x0
          have hbz := HBZ.out
          have e0 : W5.cell? ⟨bx, 0, none⟩ = some (.int .i64 x.gate) := hbz.cell 0
          have e1 : W5.cell? ⟨bx, 1, none⟩ = some (.int .i64 x.no) := hbz.cell 1
          have e2 : W5.cell? ⟨bx, 2, none⟩ = some (.int .i64 x.time) := hbz.cell 2
          have e3 : W5.cell? ⟨bx, 3, none⟩ = some (.int .i64 x.kind) := hbz.cell 3
          have e4 : W5.cell? ⟨bx, 4, none⟩ = some (.slice ga x.nums.length gc) := hbz.cell 4
          have e5 : W5.cell? ⟨bx, 5, none⟩ = some (.string ⟨x.text.toArray⟩) := hbz.cell 5
          have e6 : W5.cell? ⟨bx, 6, none⟩ = some (.int .i64 x.c) := hbz.cell 6
          have e7 : W5.cell? ⟨bx, 7, none⟩ = some (.int .i64 x.s) := hbz.cell 7
          have ka : Kept [] W5 (W5.alloc (.cells #[.int .i64 x.gate, .int .i64 x.no, .int .i64 x.time, .int .i64 x.kind, .slice ga x.nums.length gc, .string ⟨x.text.toArray⟩, .int .i64 x.c, .int .i64 x.s] 52)) := (Kept.refl _ _).alloc _
          have HJ5 := Lib.hid (HSV.out.keep ka)
          have hst5 : Hid (Stable XX (fun w => EntR w (entC x (.slice ga x.nums.length gc)) x) (W5.alloc (.cells #[.int .i64 x.gate, .int .i64 x.no, .int .i64 x.time, .int .i64 x.kind, .slice ga x.nums.length gc, .string ⟨x.text.toArray⟩, .int .i64 x.c, .int .i64 x.s] 52))) := ((HSZ.out.step ka (by simp) (fun z hz => Or.inl hz)).imp fun _ h => ⟨_, rfl, h⟩)
          have hle := Lib.hid (show w.heap.size ≤ _ from HJ5.out.kb.size)
          have HB6 := Lib.hid (HBV.out.kept ka (by simp))
          have hal2 : acc.length ≤ 1000000000 := by rw [HAL.out]; omega
          clear hbz ka
          go_wp2_with (at_builtin; refine wpList_append_grow rfl _ _ 27 rfl i0 zeroEV 88 Tryz.underlying27 hi hz0 hz1 hz2 rfl (by decide) (by decide) rfl HJ5.out.gr _ (entC x (.slice ga x.nums.length gc)) x rfl (rowS rfl _ _ _ rfl) hst5.out (by simp [entC, Value.oneCell']) hal2 hle.out HJ5.out.vX ?_)
          intro p9 q9 y9 G9 k9 t9
          have hpn := HJ5.out.push k9 (by rw [HAL.out] at G9 ⊢; exact G9)
          rw [HAL.out] at hpn
          obtain ⟨X9, hX9⟩ : ∃ X9, XX ++ obl (.slice p9 (k + 1) q9) = X9 := ⟨_, rfl⟩
          rw [hX9] at hpn
          have HPN : Hid (SlW w y9 ((sealL s xs l).take (k + 1)) X9 (.slice p9 (k + 1) q9)) := by
            rw [HTK.out, HZA.out]
            exact hpn
          have HB9 := Lib.hid (HB6.out.kept k9 (fun hm => HNB.out _ hm rfl))
          have HN9 : Hid (∀ z ∈ obl (.slice p9 (k + 1) q9), z ≠ w.heap.size) := fun z hz => by
            rw [← HAL.out] at hz
            rcases t9 z hz with h | h
            · exact HNB.out z h
            · have := HBV.out.lt
              omega
          rw [HAL.out]
          clear G9 k9 t9 hst5 hpn hX9 hle HJ5 e0 e1 e2 e3 e4 e5 e6 e7
          go_wp2_with fail
          go_roundw
          case rel => exact ⟨k + 1, p9, q9, X9, by omega, by go_num, rfl, HPN, HB9, HN9⟩
          case measure => simp [intOf]; omega
    · obtain rfl : k = l.length := by omega
      have hLl : (sealL s xs l).length = l.length := by simp [sealL]
      have HR : Hid (EntsV wr (.slice a l.length c) (sealL s xs l)) := by
        have h := HS.out.gr
        rw [List.take_of_length_le (by omega)] at h
        exact h.row (by omega)
      have HKE := Lib.hid HS.out.kb
      go_wp2_with fail
      go_ret
      exact ⟨_, rfl, HR.out, HKE.out⟩
end Go.Proofs.YtcidfldeiklcjaaGreatDoor
