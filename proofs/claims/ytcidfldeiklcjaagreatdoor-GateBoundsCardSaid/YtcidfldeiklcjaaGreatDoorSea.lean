/- Sealed entries: gate.Seal. -/
import Derived.Test.YtcidfldeiklcjaaGreatDoorJn
import Derived.Test.YtcidfldeiklcjaaGreatDoorDeS
namespace Go.Proofs.YtcidfldeiklcjaaGreatDoor
open Go.RowKit Tm

/-- the number that Seal signs with -/
def sealK (s : Stp) (x : Int) (e : Ent) : Int := ((numN s.Q.toNat (Wire.intE x ++ bodyE e) : Nat) : Int)
/-- an entry with its signature -/
def sealS (s : Stp) (x : Int) (e : Ent) : Ent := { e with c := (signN s x (sealK s x e) (bodyE e)).1, s := (signN s x (sealK s x e) (bodyE e)).2.1 }
def sealOk (s : Stp) (x : Int) (e : Ent) : Bool := formedB s e && inB x 1 (s.Q - 1)
/-- how Seal ends -/
def SeaE (s : Stp) (x : Int) (e : Ent) (w : World) (en : Ending) (w' : World) : Prop := Kept [] w w' ∧
  ((sealOk s x e = false ∧ en = .returned (.tuple #[.agg #[.int .i64 0, .int .i64 0, .int .i64 0, .int .i64 0, .slice none 0 0, .string ⟨#[]⟩, .int .i64 0, .int .i64 0], .bool false])) ∨
   (sealOk s x e = true ∧ ∃ a c, en = .returned (.tuple #[.agg #[.int .i64 e.gate, .int .i64 e.no, .int .i64 e.time, .int .i64 e.kind, .slice a e.nums.length c, .string ⟨e.text.toArray⟩, .int .i64 (sealS s x e).c, .int .i64 (sealS s x e).s], .bool true]) ∧
     ∀ X : List Nat, (∀ z ∈ X, z < w.heap.size) → Stable X (fun w => Row w 1 (.slice a e.nums.length c) e.nums.length (ints e.nums)) w'))

set_option maxRecDepth 100000 in
set_option maxHeartbeats 4000000 in
theorem seal_any (vs ve : Value) (s : Stp) (x : Int) (e : Ent) (w : World) (hs : StpV w vs s) (he : EntA w ve e) (hi : EntI e) (hx : Wire.I64 x) (hE : Env2 w) :
    Calls Tryz.prog 24 #[vs, .int .i64 x, ve] w (SeaE s x e w) := by
  have hs' := hs
  have he' := he
  obtain ⟨⟨ad, cc, rfl, hrow⟩, ip, iq, ig, ib, il⟩ := hs'
  obtain ⟨u, rfl, hnu⟩ := he'
  obtain ⟨ua, uc, rfl, _, _⟩ := hnu.form
  obtain ⟨W, hW⟩ : ∃ W, ((w.alloc (.cells #[.int .i64 s.P, .int .i64 s.Q, .int .i64 s.G, .slice ad s.bases.length cc, .int .i64 s.blind] 26)).alloc (.cells #[.int .i64 e.gate, .int .i64 e.no, .int .i64 e.time, .int .i64 e.kind, .slice ua e.nums.length uc, .string ⟨e.text.toArray⟩, .int .i64 e.c, .int .i64 e.s] 52)).alloc (.cells #[.int .i64 0, .int .i64 0, .int .i64 0, .int .i64 0, .slice none 0 0, .string ⟨#[]⟩, .int .i64 0, .int .i64 0] 52) = W := ⟨_, rfl⟩
  have hb : Blk W w.heap.size 26 #[.int .i64 s.P, .int .i64 s.Q, .int .i64 s.G, .slice ad s.bases.length cc, .int .i64 s.blind] := hW ▸ ((Blk.new _ _ _).alloc _).alloc _
  have hz : Blk W (w.heap.size + 1) 52 #[.int .i64 e.gate, .int .i64 e.no, .int .i64 e.time, .int .i64 e.kind, .slice ua e.nums.length uc, .string ⟨e.text.toArray⟩, .int .i64 e.c, .int .i64 e.s] := by
    have := (Blk.new (w.alloc (.cells #[.int .i64 s.P, .int .i64 s.Q, .int .i64 s.G, .slice ad s.bases.length cc, .int .i64 s.blind] 26)) 52 #[.int .i64 e.gate, .int .i64 e.no, .int .i64 e.time, .int .i64 e.kind, .slice ua e.nums.length uc, .string ⟨e.text.toArray⟩, .int .i64 e.c, .int .i64 e.s]).alloc (.cells #[.int .i64 0, .int .i64 0, .int .i64 0, .int .i64 0, .slice none 0 0, .string ⟨#[]⟩, .int .i64 0, .int .i64 0] 52)
    rw [hW, World.size_alloc] at this
    exact this
  have hr : Blk W (w.heap.size + 1 + 1) 52 #[.int .i64 0, .int .i64 0, .int .i64 0, .int .i64 0, .slice none 0 0, .string ⟨#[]⟩, .int .i64 0, .int .i64 0] := by
    have := Blk.new ((w.alloc (.cells #[.int .i64 s.P, .int .i64 s.Q, .int .i64 s.G, .slice ad s.bases.length cc, .int .i64 s.blind] 26)).alloc (.cells #[.int .i64 e.gate, .int .i64 e.no, .int .i64 e.time, .int .i64 e.kind, .slice ua e.nums.length uc, .string ⟨e.text.toArray⟩, .int .i64 e.c, .int .i64 e.s] 52)) 52 #[.int .i64 0, .int .i64 0, .int .i64 0, .int .i64 0, .slice none 0 0, .string ⟨#[]⟩, .int .i64 0, .int .i64 0]
    rw [hW, World.size_alloc, World.size_alloc] at this
    exact this
  have hkW : Kept [] w W := hW ▸ (((Kept.refl _ _).alloc _).alloc _).alloc _
  have hWs : W.heap.size = w.heap.size + 3 := by rw [← hW]; simp
  have FO : Hid (Calls Tryz.prog 52 #[.agg #[.int .i64 s.P, .int .i64 s.Q, .int .i64 s.G, .slice ad s.bases.length cc, .int .i64 s.blind], .agg #[.int .i64 e.gate, .int .i64 e.no, .int .i64 e.time, .int .i64 e.kind, .slice ua e.nums.length uc, .string ⟨e.text.toArray⟩, .int .i64 e.c, .int .i64 e.s]] W fun en w2 => en = .returned (.bool (formedB s e)) ∧ Kept [] W w2) :=
    formed_any _ _ s e W (hs.kept hkW) (he.kept hkW) hi (hE.kept0 hkW)
  have WI : Hid (∀ w', Calls Tryz.prog 37 #[.int .i64 x, .int .i64 1, .int .i64 (s.Q - 1)] w' fun en w2 => en = .returned (.bool (inB x 1 (s.Q - 1))) ∧ Kept [] w' w2) := fun w' =>
    (within_any x 1 (s.Q - 1) w').mono fun en w2 ⟨h1, h2⟩ => ⟨h1, h2 ▸ Kept.refl _ _⟩
  have HOK : Hid (sealOk s x e = (formedB s e && inB x 1 (s.Q - 1))) := rfl
  have HSQ : Hid (formedB s e = true → ∃ q : Nat, s.Q = q ∧ 5 ≤ q ∧ q < 1152921504606846976) := fun h => by
    obtain ⟨q, hok, _⟩ := setupB_ok (formedB_wf h).2.1
    exact ⟨q, hok.hQ, hok.h5, hok.hq⟩
  have BO : Hid (∀ w', Kept [] W w' → Calls Tryz.prog 53 #[.agg #[.int .i64 e.gate, .int .i64 e.no, .int .i64 e.time, .int .i64 e.kind, .slice ua e.nums.length uc, .string ⟨e.text.toArray⟩, .int .i64 e.c, .int .i64 e.s]] w' fun en w2 => en = .returned (.string ⟨(bodyE e).toArray⟩) ∧ Kept [] w' w2) := fun w' k =>
    body_any _ e w' (he.kept (hkW.trans k)) hi (hE.kept0 (hkW.trans k)).toEnv
  have CL : Hid (∀ w', Kept [] W w' → Calls Tryz.prog 54 #[.slice ua e.nums.length uc] w' (ClnE e.nums w')) := fun w' k =>
    clone_nums e.nums ua uc w' (hnu.kept (hkW.trans k)) (by have := hi.l4; omega)
  have NU : Hid (0 ≤ x → ∀ w', Kept [w.heap.size + 1] W w' → Calls Tryz.prog 57 #[.int .i64 x] w' fun en w2 => en = .returned (.string ⟨(Wire.intE x).toArray⟩) ∧ Kept [] w' w2) := fun h0 w' k =>
    num_any x w' hx h0 (hE.kept0 (hkW.fresh k (by simp))).toEnv
  have NB : Hid (∀ q : Nat, s.Q = q → 5 ≤ q → q < 1152921504606846976 → ∀ w', Calls Tryz.prog 56 #[.string ⟨(Wire.intE x ++ bodyE e).toArray⟩, .int .i64 s.Q] w' fun en w2 => en = .returned (.int .i64 (sealK s x e)) ∧ Kept [] w' w2) := fun q h1 h2 h3 w' => by
    unfold sealK
    rw [h1]
    exact number_any q _ w' (by omega) (by omega) (by
      have := bodyE_len e hi
      have := intE_len x hx
      rw [List.length_append]; omega)
  have SG : Hid (∀ q : Nat, s.Q = q → 5 ≤ q → q < 1152921504606846976 → ∀ w', Kept [w.heap.size + 1] W w' → Calls Tryz.prog 55 #[.agg #[.int .i64 s.P, .int .i64 s.Q, .int .i64 s.G, .slice ad s.bases.length cc, .int .i64 s.blind], .int .i64 x, .int .i64 (sealK s x e), .string ⟨(bodyE e).toArray⟩] w' fun en w2 => en = .returned (.tuple #[.agg #[.int .i64 (signN s x (sealK s x e) (bodyE e)).1, .int .i64 (signN s x (sealK s x e) (bodyE e)).2.1], .bool (signN s x (sealK s x e) (bodyE e)).2.2]) ∧ Kept [] w' w2) := fun q h1 h2 h3 w' k =>
    sign_any _ s x _ (bodyE e) w' (hs.kept (hkW.fresh k (by simp))) hx (by
      have : numN q (Wire.intE x ++ bodyE e) < q := numK_lt _ _ _ (by omega)
      unfold sealK
      rw [h1]
      have e1 : ((q : Int)).toNat = q := rfl
      rw [e1]
      exact ⟨by omega, by omega⟩) (by have := bodyE_len e hi; omega) (hE.kept0 (hkW.fresh k (by simp)))
  have HLA : Hid ((Wire.intE x).length ≤ 21) := intE_len x hx
  have HLB : Hid ((bodyE e).length ≤ 6000000) := bodyE_len e hi
  have HSS : Hid ((sealS s x e).c = (signN s x (sealK s x e) (bodyE e)).1 ∧ (sealS s x e).s = (signN s x (sealK s x e) (bodyE e)).2.1) := ⟨rfl, rfl⟩
  obtain ⟨SC, hSC⟩ : ∃ z, (sealS s x e).c = z := ⟨_, rfl⟩
  obtain ⟨SS, hSS⟩ : ∃ z, (sealS s x e).s = z := ⟨_, rfl⟩
  rw [hSC, hSS] at HSS
  have HSC := Lib.hid hSC
  have HSD := Lib.hid hSS
  obtain ⟨K, hK⟩ : ∃ z, sealK s x e = z := ⟨_, rfl⟩
  rw [hK] at NB SG HSS
  obtain ⟨G3, hG3⟩ : ∃ z, (signN s x K (bodyE e)).2.2 = z := ⟨_, rfl⟩
  rw [← HSS.out.1, ← HSS.out.2, hG3] at SG
  obtain ⟨A, hA⟩ : ∃ z, Wire.intE x = z := ⟨_, rfl⟩
  obtain ⟨B, hB⟩ : ∃ z, bodyE e = z := ⟨_, rfl⟩
  rw [hA] at NU NB HLA
  rw [hB] at BO NB SG HLB
  clear HSS hSC hSS hK hG3 hA hB
  obtain ⟨b1, hb1⟩ : ∃ b, formedB s e = b := ⟨_, rfl⟩
  obtain ⟨b2, hb2⟩ : ∃ b, inB x 1 (s.Q - 1) = b := ⟨_, rfl⟩
  obtain ⟨ok, hok⟩ : ∃ b, sealOk s x e = b := ⟨_, rfl⟩
  have HIN : Hid (inB x 1 (s.Q - 1) = true → 0 ≤ x) := fun h => by have := ((inB_iff _ _ _).1 h).1; omega
  rw [hok, hb1, hb2] at HOK
  have HOQ := Lib.hid hok
  rw [hb1] at FO HSQ
  rw [hb2] at WI HIN
  clear hok hb1 hb2
  have s0 : W.cell? ⟨w.heap.size, 0, none⟩ = some (.int .i64 s.P) := hb.cell 0
  have s1 : W.cell? ⟨w.heap.size, 1, none⟩ = some (.int .i64 s.Q) := hb.cell 1
  have s2 : W.cell? ⟨w.heap.size, 2, none⟩ = some (.int .i64 s.G) := hb.cell 2
  have s3 : W.cell? ⟨w.heap.size, 3, none⟩ = some (.slice ad s.bases.length cc) := hb.cell 3
  have s4 : W.cell? ⟨w.heap.size, 4, none⟩ = some (.int .i64 s.blind) := hb.cell 4
  have x0 : W.cell? ⟨w.heap.size + 1, 0, none⟩ = some (.int .i64 e.gate) := hz.cell 0
  have x1 : W.cell? ⟨w.heap.size + 1, 1, none⟩ = some (.int .i64 e.no) := hz.cell 1
  have x2 : W.cell? ⟨w.heap.size + 1, 2, none⟩ = some (.int .i64 e.time) := hz.cell 2
  have x3 : W.cell? ⟨w.heap.size + 1, 3, none⟩ = some (.int .i64 e.kind) := hz.cell 3
  have x4 : W.cell? ⟨w.heap.size + 1, 4, none⟩ = some (.slice ua e.nums.length uc) := hz.cell 4
  have x5 : W.cell? ⟨w.heap.size + 1, 5, none⟩ = some (.string ⟨e.text.toArray⟩) := hz.cell 5
  have x6 : W.cell? ⟨w.heap.size + 1, 6, none⟩ = some (.int .i64 e.c) := hz.cell 6
  have x7 : W.cell? ⟨w.heap.size + 1, 7, none⟩ = some (.int .i64 e.s) := hz.cell 7
  have HB := Lib.hid hb
  have HZ := Lib.hid hz
  have HR := Lib.hid hr
  have HW := Lib.hid hW
  have HKW := Lib.hid hkW
  have HWS := Lib.hid hWs
  clear hW hb hz hr hrow hkW hs he hnu hi hE ib hWs hx
  show Calls _ _ #[.agg #[.int .i64 s.P, .int .i64 s.Q, .int .i64 s.G, .slice ad s.bases.length cc, .int .i64 s.blind], _, .agg #[.int .i64 e.gate, .int .i64 e.no, .int .i64 e.time, .int .i64 e.kind, .slice ua e.nums.length uc, .string ⟨e.text.toArray⟩, .int .i64 e.c, .int .i64 e.s]] _ _
  go_enter Tryz.func24, Tryz.ntmps24
  go_upto_region 1 with (fail)
  have hW' : ((w.alloc (.cells #[.int .i64 s.P, .int .i64 s.Q, .int .i64 s.G, .slice ad s.bases.length cc, .int .i64 s.blind] 26)).alloc (.cells #[.int .i64 e.gate, .int .i64 e.no, .int .i64 e.time, .int .i64 e.kind, .slice ua e.nums.length uc, .string ⟨e.text.toArray⟩, .int .i64 e.c, .int .i64 e.s] 52)).alloc (.cells #[.int .i64 0, .int .i64 0, .int .i64 0, .int .i64 0, .slice none 0 0, .string ⟨#[]⟩, .int .i64 0, .int .i64 0] 52) = W := HW.out
  rw [hW']
  clear hW'
  go_wp2_with (go_at_call 52; with_reducible refine FO.out.mono ?_)
  first | (rintro en w3 rfl k3) | (rintro en w3 ⟨rfl, k3⟩)
  clear s0 s1 s2 s3 s4 x0 x1 x2 x3 x4 x5 x6 x7 FO
  have K3 := Lib.hid k3
  clear k3
  cases b1
  · have hR : ok = false := HOK.out
    subst hR
    have hr3 := HR.out.kept K3.out (by simp)
    have z0 : w3.cell? ⟨w.heap.size + 1 + 1, 0, none⟩ = some (.int .i64 0) := hr3.cell 0
    have z1 : w3.cell? ⟨w.heap.size + 1 + 1, 1, none⟩ = some (.int .i64 0) := hr3.cell 1
    have z2 : w3.cell? ⟨w.heap.size + 1 + 1, 2, none⟩ = some (.int .i64 0) := hr3.cell 2
    have z3 : w3.cell? ⟨w.heap.size + 1 + 1, 3, none⟩ = some (.int .i64 0) := hr3.cell 3
    have z4 : w3.cell? ⟨w.heap.size + 1 + 1, 4, none⟩ = some (.slice none 0 0) := hr3.cell 4
    have z5 : w3.cell? ⟨w.heap.size + 1 + 1, 5, none⟩ = some (.string ⟨#[]⟩) := hr3.cell 5
    have z6 : w3.cell? ⟨w.heap.size + 1 + 1, 6, none⟩ = some (.int .i64 0) := hr3.cell 6
    have z7 : w3.cell? ⟨w.heap.size + 1 + 1, 7, none⟩ = some (.int .i64 0) := hr3.cell 7
    have y0 : w3.frozen? ⟨w.heap.size + 1 + 1, 0, none⟩ = false := hr3.frozen 0
    have y1 : w3.frozen? ⟨w.heap.size + 1 + 1, 1, none⟩ = false := hr3.frozen 1
    have y2 : w3.frozen? ⟨w.heap.size + 1 + 1, 2, none⟩ = false := hr3.frozen 2
    have y3 : w3.frozen? ⟨w.heap.size + 1 + 1, 3, none⟩ = false := hr3.frozen 3
    have y4 : w3.frozen? ⟨w.heap.size + 1 + 1, 4, none⟩ = false := hr3.frozen 4
    have y5 : w3.frozen? ⟨w.heap.size + 1 + 1, 5, none⟩ = false := hr3.frozen 5
    have y6 : w3.frozen? ⟨w.heap.size + 1 + 1, 6, none⟩ = false := hr3.frozen 6
    have y7 : w3.frozen? ⟨w.heap.size + 1 + 1, 7, none⟩ = false := hr3.frozen 7
    clear hr3
    go_wp2_with fail
    refine bodyPost_ret (v := .tuple #[.agg #[.int .i64 0, .int .i64 0, .int .i64 0, .int .i64 0, .slice none 0 0, .string ⟨#[]⟩, .int .i64 0, .int .i64 0], .bool false]) (by simp [results, Tryz.results24, go_sem, z0, z1, z2, z3, z4, z5, z6, z7]) rfl ?_
    unfold SeaE
    refine ⟨?_, Or.inl ⟨HOQ.out, rfl⟩⟩
    refine (HKW.out.trans K3.out).fresh (show Kept [w.heap.size + 1 + 1] _ _ from ?_) (by simp; omega)
    repeat (refine Kept.setCell ?_ (Or.inl (by simp)) _)
    exact Kept.refl _ _
  obtain ⟨q, hq1, hq2, hq3⟩ := HSQ.out (by trivial)
  have hqb : -9223372036854775808 ≤ s.Q - 1 ∧ s.Q - 1 ≤ 9223372036854775807 := by omega
  have wq : IntKind.i64.wrap (s.Q - 1) = s.Q - 1 := by rw [IntKind.wrap_i64]; omega
  have NB2 := Lib.hid (NB.out q hq1 hq2 hq3)
  have SG2 := Lib.hid (SG.out q hq1 hq2 hq3)
  clear HSQ hq1 hq2 hq3 NB SG hqb
  have hb3 := HB.out.kept K3.out (by simp)
  have s0 : w3.cell? ⟨w.heap.size, 0, none⟩ = some (.int .i64 s.P) := hb3.cell 0
  have s1 : w3.cell? ⟨w.heap.size, 1, none⟩ = some (.int .i64 s.Q) := hb3.cell 1
  have s2 : w3.cell? ⟨w.heap.size, 2, none⟩ = some (.int .i64 s.G) := hb3.cell 2
  have s3 : w3.cell? ⟨w.heap.size, 3, none⟩ = some (.slice ad s.bases.length cc) := hb3.cell 3
  have s4 : w3.cell? ⟨w.heap.size, 4, none⟩ = some (.int .i64 s.blind) := hb3.cell 4
  clear hb3
  go_wp2_with (go_at_call 37; with_reducible refine (WI.out _).mono ?_)
  first | (rintro en w4 rfl k4) | (rintro en w4 ⟨rfl, k4⟩)
  have K4 := Lib.hid (K3.out.trans k4)
  clear k4 wq s0 s1 s2 s3 s4
  cases b2
  · have hR : ok = false := HOK.out
    subst hR
    have hr3 := HR.out.kept K4.out (by simp)
    have z0 : w4.cell? ⟨w.heap.size + 1 + 1, 0, none⟩ = some (.int .i64 0) := hr3.cell 0
    have z1 : w4.cell? ⟨w.heap.size + 1 + 1, 1, none⟩ = some (.int .i64 0) := hr3.cell 1
    have z2 : w4.cell? ⟨w.heap.size + 1 + 1, 2, none⟩ = some (.int .i64 0) := hr3.cell 2
    have z3 : w4.cell? ⟨w.heap.size + 1 + 1, 3, none⟩ = some (.int .i64 0) := hr3.cell 3
    have z4 : w4.cell? ⟨w.heap.size + 1 + 1, 4, none⟩ = some (.slice none 0 0) := hr3.cell 4
    have z5 : w4.cell? ⟨w.heap.size + 1 + 1, 5, none⟩ = some (.string ⟨#[]⟩) := hr3.cell 5
    have z6 : w4.cell? ⟨w.heap.size + 1 + 1, 6, none⟩ = some (.int .i64 0) := hr3.cell 6
    have z7 : w4.cell? ⟨w.heap.size + 1 + 1, 7, none⟩ = some (.int .i64 0) := hr3.cell 7
    have y0 : w4.frozen? ⟨w.heap.size + 1 + 1, 0, none⟩ = false := hr3.frozen 0
    have y1 : w4.frozen? ⟨w.heap.size + 1 + 1, 1, none⟩ = false := hr3.frozen 1
    have y2 : w4.frozen? ⟨w.heap.size + 1 + 1, 2, none⟩ = false := hr3.frozen 2
    have y3 : w4.frozen? ⟨w.heap.size + 1 + 1, 3, none⟩ = false := hr3.frozen 3
    have y4 : w4.frozen? ⟨w.heap.size + 1 + 1, 4, none⟩ = false := hr3.frozen 4
    have y5 : w4.frozen? ⟨w.heap.size + 1 + 1, 5, none⟩ = false := hr3.frozen 5
    have y6 : w4.frozen? ⟨w.heap.size + 1 + 1, 6, none⟩ = false := hr3.frozen 6
    have y7 : w4.frozen? ⟨w.heap.size + 1 + 1, 7, none⟩ = false := hr3.frozen 7
    clear hr3
    go_wp2_with fail
    refine bodyPost_ret (v := .tuple #[.agg #[.int .i64 0, .int .i64 0, .int .i64 0, .int .i64 0, .slice none 0 0, .string ⟨#[]⟩, .int .i64 0, .int .i64 0], .bool false]) (by simp [results, Tryz.results24, go_sem, z0, z1, z2, z3, z4, z5, z6, z7]) rfl ?_
    unfold SeaE
    refine ⟨?_, Or.inl ⟨HOQ.out, rfl⟩⟩
    refine (HKW.out.trans K4.out).fresh (show Kept [w.heap.size + 1 + 1] _ _ from ?_) (by simp; omega)
    repeat (refine Kept.setCell ?_ (Or.inl (by simp)) _)
    exact Kept.refl _ _
  have hR : ok = true := HOK.out
  subst hR
  have NU2 := Lib.hid (NU.out (HIN.out (by trivial)))
  clear NU
  have hz4 := HZ.out.kept K4.out (by simp)
  have x0 : w4.cell? ⟨w.heap.size + 1, 0, none⟩ = some (.int .i64 e.gate) := hz4.cell 0
  have x1 : w4.cell? ⟨w.heap.size + 1, 1, none⟩ = some (.int .i64 e.no) := hz4.cell 1
  have x2 : w4.cell? ⟨w.heap.size + 1, 2, none⟩ = some (.int .i64 e.time) := hz4.cell 2
  have x3 : w4.cell? ⟨w.heap.size + 1, 3, none⟩ = some (.int .i64 e.kind) := hz4.cell 3
  have x4 : w4.cell? ⟨w.heap.size + 1, 4, none⟩ = some (.slice ua e.nums.length uc) := hz4.cell 4
  have x5 : w4.cell? ⟨w.heap.size + 1, 5, none⟩ = some (.string ⟨e.text.toArray⟩) := hz4.cell 5
  have x6 : w4.cell? ⟨w.heap.size + 1, 6, none⟩ = some (.int .i64 e.c) := hz4.cell 6
  have x7 : w4.cell? ⟨w.heap.size + 1, 7, none⟩ = some (.int .i64 e.s) := hz4.cell 7
  clear hz4
  have BO4 := Lib.hid (BO.out w4 K4.out)
  go_wp2_with (go_at_call 53; with_reducible refine BO4.out.mono ?_)
  first | (rintro en w5 rfl k5) | (rintro en w5 ⟨rfl, k5⟩)
  have K5 := Lib.hid (K4.out.trans k5)
  clear k5 BO BO4 x0 x1 x2 x3 x4 x5 x6 x7
  have hz5 := HZ.out.kept K5.out (by simp)
  have x4 : w5.cell? ⟨w.heap.size + 1, 4, none⟩ = some (.slice ua e.nums.length uc) := hz5.cell 4
  clear hz5
  have CL5 := Lib.hid (CL.out w5 K5.out)
  clear CL
  go_wp2_with (go_at_call 54; with_reducible refine CL5.out.mono ?_)
  rintro en w6 ⟨a1, c1, rfl, own, k6⟩
  clear x4
  have K6 := Lib.hid (K5.out.trans k6)
  have hz6 := HZ.out.kept K6.out (by simp)
  have y4 : w6.frozen? ⟨w.heap.size + 1, 4, none⟩ = false := hz6.frozen 4
  have x4 : w6.cell? ⟨w.heap.size + 1, 4, none⟩ = some (.slice ua e.nums.length uc) := hz6.cell 4
  have OWN := Lib.hid own
  clear k6 own hz6 CL5
  go_upto_region 5 with (fail)
  obtain ⟨W7, hW7⟩ : ∃ W7, w6.setCell ⟨w.heap.size + 1, 4, none⟩ (.slice a1 e.nums.length c1) = W7 := ⟨_, rfl⟩
  rw [hW7]
  have k67 : Kept [w.heap.size + 1] w6 W7 := hW7 ▸ (Kept.refl _ _).setCell (Or.inl (by simp)) _
  have HZ7 : Hid (Blk W7 (w.heap.size + 1) 52 #[.int .i64 e.gate, .int .i64 e.no, .int .i64 e.time, .int .i64 e.kind, .slice a1 e.nums.length c1, .string ⟨e.text.toArray⟩, .int .i64 e.c, .int .i64 e.s]) := by
    have := (HZ.out.kept K6.out (by simp)).set_ 4 (.slice a1 e.nums.length c1)
    rw [hW7] at this
    exact this
  have K67 := Lib.hid k67
  have KW7 : Hid (Kept [w.heap.size + 1] W W7) := (K6.out.mono (by simp)).trans k67
  clear hW7 k67 y4 x4
  have s0 : ∀ w', Kept [] W7 w' → w'.cell? ⟨w.heap.size, 0, none⟩ = some (.int .i64 s.P) := fun w' k => ((HB.out.kept KW7.out (by simp)).kept k (by simp)).cell 0
  have s1 : ∀ w', Kept [] W7 w' → w'.cell? ⟨w.heap.size, 1, none⟩ = some (.int .i64 s.Q) := fun w' k => ((HB.out.kept KW7.out (by simp)).kept k (by simp)).cell 1
  have s2 : ∀ w', Kept [] W7 w' → w'.cell? ⟨w.heap.size, 2, none⟩ = some (.int .i64 s.G) := fun w' k => ((HB.out.kept KW7.out (by simp)).kept k (by simp)).cell 2
  have s3 : ∀ w', Kept [] W7 w' → w'.cell? ⟨w.heap.size, 3, none⟩ = some (.slice ad s.bases.length cc) := fun w' k => ((HB.out.kept KW7.out (by simp)).kept k (by simp)).cell 3
  have s4 : ∀ w', Kept [] W7 w' → w'.cell? ⟨w.heap.size, 4, none⟩ = some (.int .i64 s.blind) := fun w' k => ((HB.out.kept KW7.out (by simp)).kept k (by simp)).cell 4
  have hab : ¬ 9223372036854775807 < A.length + B.length := by have := HLA.out; have := HLB.out; omega
  refine wp_region_T [16] (fun w' => Kept [] W7 w') (by kernel_rfl) (Kept.refl _ _).drew (fun hH => ?_)
  refine takeT [11, 12, 13, 14, 15, 16] (i := 0) (v := ?tv1) rfl (by kernel_rfl) (by kernel_rfl) (by kernel_rfl) (by kernel_rfl) (fun _ _ _ h => h) (Or.inl ⟨by rfl, ?ty1⟩) hH ?tr1
  case ty1 => intro w' hSw; (try dsimp only at hSw); go_simp; first | done | with_reducible rfl
  simp only [Act.put, List.setIfInBounds_toArray, List.set_cons_zero, List.set_cons_succ]
  refine takeT [11, 12, 13, 14, 15, 16] (i := 1) (v := ?tv2) rfl (by kernel_rfl) (by kernel_rfl) (by kernel_rfl) (by kernel_rfl) (fun _ _ _ h => h) (Or.inl ⟨by rfl, ?ty2⟩) hH ?tr2
  case ty2 => intro w' hSw; (try dsimp only at hSw); go_simp; first | done | with_reducible rfl
  simp only [Act.put, List.setIfInBounds_toArray, List.set_cons_zero, List.set_cons_succ]
  refine takeT [3, 5, 9, 11, 12, 13, 14, 15, 16] (i := 2) (v := ?tv3) rfl (by kernel_rfl) (by kernel_rfl) (by kernel_rfl) (by kernel_rfl) (fun _ _ _ h => h) (Or.inl ⟨by rfl, ?ty3⟩) hH ?tr3
  case ty3 => intro w' hSw; (try dsimp only at hSw); go_simp; first | done | with_reducible rfl
  simp only [Act.put, List.setIfInBounds_toArray, List.set_cons_zero, List.set_cons_succ]
  refine takeT [5, 9, 11, 12, 13, 14, 15, 16] (i := 4) (v := ?tv4) rfl (by kernel_rfl) (by kernel_rfl) (by kernel_rfl) (by kernel_rfl) (fun _ _ _ h => h) (Or.inl ⟨by rfl, ?ty4⟩) hH ?tr4
  case ty4 => intro w' hSw; (try dsimp only at hSw); go_simp; first | done | with_reducible rfl
  simp only [Act.put, List.setIfInBounds_toArray, List.set_cons_zero, List.set_cons_succ]
  refine takeT [7, 8, 9, 11, 12, 13, 14, 15, 16] (i := 6) (v := ?tv5) rfl (by kernel_rfl) (by kernel_rfl) (by kernel_rfl) (by kernel_rfl) (fun _ _ _ h => h) (Or.inl ⟨by rfl, ?ty5⟩) hH ?tr5
  case ty5 => intro w' hSw; (try dsimp only at hSw); go_simp; first | done | with_reducible rfl
  simp only [Act.put, List.setIfInBounds_toArray, List.set_cons_zero, List.set_cons_succ]
  refine takeT [8, 9, 11, 12, 13, 14, 15, 16] (i := 7) (v := ?tv6) rfl (by kernel_rfl) (by kernel_rfl) (by kernel_rfl) (by kernel_rfl) (fun _ _ _ h => h) (Or.inl ⟨by rfl, ?ty6⟩) hH ?tr6
  case ty6 => intro w' hSw; (try dsimp only at hSw); go_simp; first | done | with_reducible rfl
  simp only [Act.put, List.setIfInBounds_toArray, List.set_cons_zero, List.set_cons_succ]
  refine takeT [9, 11, 12, 13, 14, 15, 16] (i := 8) (v := ?tv7) rfl (by kernel_rfl) (by kernel_rfl) (by kernel_rfl) (by kernel_rfl) (fun _ _ _ h => h) (Or.inl ⟨by rfl, ?ty7⟩) hH ?tr7
  case ty7 => intro w' hSw; (try dsimp only at hSw); go_simp; first | done | with_reducible rfl
  simp only [Act.put, List.setIfInBounds_toArray, List.set_cons_zero, List.set_cons_succ]
  refine takeT [11, 12, 13, 14, 15, 16] (i := 10) (v := ?tv8) rfl (by kernel_rfl) (by kernel_rfl) (by kernel_rfl) (by kernel_rfl) (fun _ _ _ h => h) (Or.inl ⟨by rfl, ?ty8⟩) hH ?tr8
  case ty8 => intro w' hSw; (try dsimp only at hSw); go_simp; first | done | with_reducible rfl
  simp only [Act.put, List.setIfInBounds_toArray, List.set_cons_zero, List.set_cons_succ]
  refine wpAnyT_ready (rs := [3]) (by kernel_rfl) (by simp) ?_
  refine AllReadyT.cons rfl (fun K hK => ?_) AllReadyT.nil
  go_simp
  refine (NU2.out _ (KW7.out.trans (((Kept.refl [] W7).drew).mono (by simp)))).mono ?_
  first | (rintro en wA rfl kA) | (rintro en wA ⟨rfl, kA⟩)
  have k7A : Kept [] W7 wA := (Kept.refl [] W7).drew.trans kA
  refine hK.out _ _ k7A (fun hH => ?_)
  clear hK K
  (try simp only [Act.put, List.setIfInBounds_toArray, List.set_cons_zero, List.set_cons_succ])
  refine takeT [9, 11, 12, 13, 14, 15, 16] (i := 5) (v := ?tv9) rfl (by kernel_rfl) (by kernel_rfl) (by kernel_rfl) (by kernel_rfl) (fun _ _ _ h => h) (Or.inl ⟨by rfl, ?ty9⟩) hH ?tr9
  case ty9 => intro w' hSw; (try dsimp only at hSw); go_simp; first | done | with_reducible rfl
  simp only [Act.put, List.setIfInBounds_toArray, List.set_cons_zero, List.set_cons_succ]
  refine wpAnyT_ready (rs := [9]) (by kernel_rfl) (by simp) ?_
  refine AllReadyT.cons rfl (fun K hK => ?_) AllReadyT.nil
  go_simp
  refine (NB2.out _).mono ?_
  first | (rintro en wB rfl kB) | (rintro en wB ⟨rfl, kB⟩)
  have k7B : Kept [] W7 wB := k7A.trans kB
  refine hK.out _ _ k7B (fun hH => ?_)
  clear hK K
  (try simp only [Act.put, List.setIfInBounds_toArray, List.set_cons_zero, List.set_cons_succ])
  refine wpAnyT_ready (rs := [11]) (by kernel_rfl) (by simp) ?_
  refine AllReadyT.cons rfl (fun K hK => ?_) AllReadyT.nil
  go_simp
  refine (SG2.out _ (KW7.out.trans (k7B.mono (by simp)))).mono ?_
  first | (rintro en wC rfl kC) | (rintro en wC ⟨rfl, kC⟩)
  have k7C : Kept [] W7 wC := k7B.trans kC
  refine hK.out _ _ k7C (fun hH => ?_)
  clear hK K
  (try simp only [Act.put, List.setIfInBounds_toArray, List.set_cons_zero, List.set_cons_succ])
  refine takeT [13, 14, 15, 16] (i := 12) (v := ?tv10) rfl (by kernel_rfl) (by kernel_rfl) (by kernel_rfl) (by kernel_rfl) (fun _ _ _ h => h) (Or.inl ⟨by rfl, ?ty10⟩) hH ?tr10
  case ty10 => intro w' hSw; (try dsimp only at hSw); go_simp; first | done | with_reducible rfl
  simp only [Act.put, List.setIfInBounds_toArray, List.set_cons_zero, List.set_cons_succ]
  refine takeT [15, 16] (i := 13) (v := ?tv11) rfl (by kernel_rfl) (by kernel_rfl) (by kernel_rfl) (by kernel_rfl) (fun _ _ _ h => h) (Or.inl ⟨by rfl, ?ty11⟩) hH ?tr11
  case ty11 => intro w' hSw; (try dsimp only at hSw); go_simp; first | done | with_reducible rfl
  simp only [Act.put, List.setIfInBounds_toArray, List.set_cons_zero, List.set_cons_succ]
  refine takeT [16] (i := 15) (v := ?tv12) rfl (by kernel_rfl) (by kernel_rfl) (by kernel_rfl) (by kernel_rfl) (fun _ _ _ h => h) (Or.inl ⟨by rfl, ?ty12⟩) hH ?tr12
  case ty12 => intro w' hSw; (try dsimp only at hSw); go_simp; first | done | with_reducible rfl
  simp only [Act.put, List.setIfInBounds_toArray, List.set_cons_zero, List.set_cons_succ]
  have hz7 := HZ7.out.kept k7C (by simp)
  have x6' : wC.cell? ⟨w.heap.size + 1, 6, none⟩ = some (.int .i64 e.c) := hz7.cell 6
  have x7' : wC.cell? ⟨w.heap.size + 1, 7, none⟩ = some (.int .i64 e.s) := hz7.cell 7
  have y6 : wC.frozen? ⟨w.heap.size + 1, 6, none⟩ = false := hz7.frozen 6
  have y7 : wC.frozen? ⟨w.heap.size + 1, 7, none⟩ = false := hz7.frozen 7
  have KC := Lib.hid k7C
  clear s0 s1 s2 s3 s4 kA kB kC k7A k7B k7C
  refine wpAnyT_ready (rs := [14, 16]) (by kernel_rfl) (by simp) ?_
  refine AllReadyT.cons rfl (fun K hK => ?_) (AllReadyT.last rfl (by kernel_rfl) (fun K hK => ?_))
  · go_simp
    refine hK.out _ _ KC.out (fun hH => ?_)
    clear hK K
    (try simp only [Act.put, List.setIfInBounds_toArray, List.set_cons_zero, List.set_cons_succ])
    refine wpAnyT_ready (rs := [16]) (by kernel_rfl) (by simp) ?_
    refine AllReadyT.last rfl (by kernel_rfl) (fun K hK => ?_)
    go_simp
    refine hK.out _ _ ?_
    clear hK K
    (try simp only [Act.put, List.setIfInBounds_toArray, List.set_cons_zero, List.set_cons_succ])
    refine wpAnyT_done (by kernel_rfl) ?_ _
    obtain ⟨WF, hWF⟩ : ∃ WF, (wC.setCell ⟨w.heap.size + 1, 6, none⟩ (.int .i64 SC)).setCell ⟨w.heap.size + 1, 7, none⟩ (.int .i64 SS) = WF := ⟨_, rfl⟩
    rw [hWF]
    have hzF : Blk WF (w.heap.size + 1) 52 #[.int .i64 e.gate, .int .i64 e.no, .int .i64 e.time, .int .i64 e.kind, .slice a1 e.nums.length c1, .string ⟨e.text.toArray⟩, .int .i64 SC, .int .i64 SS] := by
      have := ((HZ7.out.kept KC.out (by simp)).set_ 6 (.int .i64 SC)).set_ 7 (.int .i64 SS)
      rw [hWF] at this
      exact this
    have kF : Kept [w.heap.size + 1] wC WF := hWF ▸ ((Kept.refl _ _).setCell (Or.inl (by simp)) _).setCell (Or.inl (by simp)) _
    have kCF : Kept [w.heap.size + 1] W7 WF := (KC.out.mono (by simp)).trans kF
    have KWF := Lib.hid (KW7.out.trans kCF)
    have hrF := HR.out.kept KWF.out (by simp)
    have x0 : WF.cell? ⟨w.heap.size + 1, 0, none⟩ = some (.int .i64 e.gate) := hzF.cell 0
    have x1 : WF.cell? ⟨w.heap.size + 1, 1, none⟩ = some (.int .i64 e.no) := hzF.cell 1
    have x2 : WF.cell? ⟨w.heap.size + 1, 2, none⟩ = some (.int .i64 e.time) := hzF.cell 2
    have x3 : WF.cell? ⟨w.heap.size + 1, 3, none⟩ = some (.int .i64 e.kind) := hzF.cell 3
    have x4 : WF.cell? ⟨w.heap.size + 1, 4, none⟩ = some (.slice a1 e.nums.length c1) := hzF.cell 4
    have x5 : WF.cell? ⟨w.heap.size + 1, 5, none⟩ = some (.string ⟨e.text.toArray⟩) := hzF.cell 5
    have x6 : WF.cell? ⟨w.heap.size + 1, 6, none⟩ = some (.int .i64 SC) := hzF.cell 6
    have x7 : WF.cell? ⟨w.heap.size + 1, 7, none⟩ = some (.int .i64 SS) := hzF.cell 7
    have z0 : WF.cell? ⟨w.heap.size + 1 + 1, 0, none⟩ = some (.int .i64 0) := hrF.cell 0
    have z1 : WF.cell? ⟨w.heap.size + 1 + 1, 1, none⟩ = some (.int .i64 0) := hrF.cell 1
    have z2 : WF.cell? ⟨w.heap.size + 1 + 1, 2, none⟩ = some (.int .i64 0) := hrF.cell 2
    have z3 : WF.cell? ⟨w.heap.size + 1 + 1, 3, none⟩ = some (.int .i64 0) := hrF.cell 3
    have z4 : WF.cell? ⟨w.heap.size + 1 + 1, 4, none⟩ = some (.slice none 0 0) := hrF.cell 4
    have z5 : WF.cell? ⟨w.heap.size + 1 + 1, 5, none⟩ = some (.string ⟨#[]⟩) := hrF.cell 5
    have z6 : WF.cell? ⟨w.heap.size + 1 + 1, 6, none⟩ = some (.int .i64 0) := hrF.cell 6
    have z7 : WF.cell? ⟨w.heap.size + 1 + 1, 7, none⟩ = some (.int .i64 0) := hrF.cell 7
    have v0 : WF.frozen? ⟨w.heap.size + 1 + 1, 0, none⟩ = false := hrF.frozen 0
    have v1 : WF.frozen? ⟨w.heap.size + 1 + 1, 1, none⟩ = false := hrF.frozen 1
    have v2 : WF.frozen? ⟨w.heap.size + 1 + 1, 2, none⟩ = false := hrF.frozen 2
    have v3 : WF.frozen? ⟨w.heap.size + 1 + 1, 3, none⟩ = false := hrF.frozen 3
    have v4 : WF.frozen? ⟨w.heap.size + 1 + 1, 4, none⟩ = false := hrF.frozen 4
    have v5 : WF.frozen? ⟨w.heap.size + 1 + 1, 5, none⟩ = false := hrF.frozen 5
    have v6 : WF.frozen? ⟨w.heap.size + 1 + 1, 6, none⟩ = false := hrF.frozen 6
    have v7 : WF.frozen? ⟨w.heap.size + 1 + 1, 7, none⟩ = false := hrF.frozen 7
    have K6F := Lib.hid (K67.out.trans kCF)
    clear hWF hzF kF kCF hrF x6' x7' y6 y7
    go_wp2_with fail
    refine bodyPost_ret (v := .tuple #[.agg #[.int .i64 e.gate, .int .i64 e.no, .int .i64 e.time, .int .i64 e.kind, .slice a1 e.nums.length c1, .string ⟨e.text.toArray⟩, .int .i64 SC, .int .i64 SS], .bool true]) (by simp [results, Tryz.results24, go_sem, z0, z1, z2, z3, z4, z5, z6, z7]) rfl ?_
    unfold SeaE
    rw [HSC.out, HSD.out]
    obtain ⟨w2, hw2⟩ : ∃ w2, (((((((WF.setCell ⟨w.heap.size + 1 + 1, 0, none⟩ (.int .i64 e.gate)).setCell ⟨w.heap.size + 1 + 1, 1, none⟩ (.int .i64 e.no)).setCell ⟨w.heap.size + 1 + 1, 2, none⟩ (.int .i64 e.time)).setCell ⟨w.heap.size + 1 + 1, 3, none⟩ (.int .i64 e.kind)).setCell ⟨w.heap.size + 1 + 1, 4, none⟩ (.slice a1 e.nums.length c1)).setCell ⟨w.heap.size + 1 + 1, 5, none⟩ (.string ⟨e.text.toArray⟩)).setCell ⟨w.heap.size + 1 + 1, 6, none⟩ (.int .i64 SC)).setCell ⟨w.heap.size + 1 + 1, 7, none⟩ (.int .i64 SS) = w2 := ⟨_, rfl⟩
    rw [hw2]
    have k2 : Kept [w.heap.size + 1 + 1] WF w2 := by
      rw [← hw2]
      repeat (refine Kept.setCell ?_ (Or.inl (by simp)) _)
      exact Kept.refl _ _
    have kk : Kept [w.heap.size + 1, w.heap.size + 1 + 1] W w2 := (KWF.out.mono (fun z _ hz => by rw [List.mem_singleton] at hz; subst hz; simp)).trans (k2.mono (fun z _ hz => by rw [List.mem_singleton] at hz; subst hz; simp))
    have kk6 : Kept [w.heap.size + 1, w.heap.size + 1 + 1] w6 w2 := (K6F.out.mono (fun z _ hz => by rw [List.mem_singleton] at hz; subst hz; simp)).trans (k2.mono (fun z _ hz => by rw [List.mem_singleton] at hz; subst hz; simp))
    have hs5 := K5.out.size
    have hWs := HWS.out
    refine ⟨HKW.out.fresh kk (fun z hz => by simp only [List.mem_cons, List.not_mem_nil, or_false] at hz; rcases hz with rfl | rfl <;> omega), Or.inr ⟨HOQ.out, a1, c1, rfl, fun X hX => ?_⟩⟩
    have ho := own_keep OWN.out kk6 (fun z hz hm => by
      have h1 := own_ge OWN.out z hz
      simp only [List.mem_cons, List.not_mem_nil, or_false] at hm
      rcases hm with rfl | rfl <;> omega)
    exact Stable.row ho (fun z hz hm => by have h1 := own_ge OWN.out z hz; have := hX z hm; omega) (by omega)
  · go_simp
    refine hK.out _ _ ?_
    clear hK K
    (try simp only [Act.put, List.setIfInBounds_toArray, List.set_cons_zero, List.set_cons_succ])
    refine wpAnyT_ready (rs := [14]) (by kernel_rfl) (by simp) ?_
    refine AllReadyT.last rfl (by kernel_rfl) (fun K hK => ?_)
    go_simp
    refine hK.out _ _ ?_
    clear hK K
    (try simp only [Act.put, List.setIfInBounds_toArray, List.set_cons_zero, List.set_cons_succ])
    refine wpAnyT_done (by kernel_rfl) ?_ _
    obtain ⟨WF, hWF⟩ : ∃ WF, (wC.setCell ⟨w.heap.size + 1, 6, none⟩ (.int .i64 SC)).setCell ⟨w.heap.size + 1, 7, none⟩ (.int .i64 SS) = WF := ⟨_, rfl⟩
    rw [hWF]
    have hzF : Blk WF (w.heap.size + 1) 52 #[.int .i64 e.gate, .int .i64 e.no, .int .i64 e.time, .int .i64 e.kind, .slice a1 e.nums.length c1, .string ⟨e.text.toArray⟩, .int .i64 SC, .int .i64 SS] := by
      have := ((HZ7.out.kept KC.out (by simp)).set_ 6 (.int .i64 SC)).set_ 7 (.int .i64 SS)
      rw [hWF] at this
      exact this
    have kF : Kept [w.heap.size + 1] wC WF := hWF ▸ ((Kept.refl _ _).setCell (Or.inl (by simp)) _).setCell (Or.inl (by simp)) _
    have kCF : Kept [w.heap.size + 1] W7 WF := (KC.out.mono (by simp)).trans kF
    have KWF := Lib.hid (KW7.out.trans kCF)
    have hrF := HR.out.kept KWF.out (by simp)
    have x0 : WF.cell? ⟨w.heap.size + 1, 0, none⟩ = some (.int .i64 e.gate) := hzF.cell 0
    have x1 : WF.cell? ⟨w.heap.size + 1, 1, none⟩ = some (.int .i64 e.no) := hzF.cell 1
    have x2 : WF.cell? ⟨w.heap.size + 1, 2, none⟩ = some (.int .i64 e.time) := hzF.cell 2
    have x3 : WF.cell? ⟨w.heap.size + 1, 3, none⟩ = some (.int .i64 e.kind) := hzF.cell 3
    have x4 : WF.cell? ⟨w.heap.size + 1, 4, none⟩ = some (.slice a1 e.nums.length c1) := hzF.cell 4
    have x5 : WF.cell? ⟨w.heap.size + 1, 5, none⟩ = some (.string ⟨e.text.toArray⟩) := hzF.cell 5
    have x6 : WF.cell? ⟨w.heap.size + 1, 6, none⟩ = some (.int .i64 SC) := hzF.cell 6
    have x7 : WF.cell? ⟨w.heap.size + 1, 7, none⟩ = some (.int .i64 SS) := hzF.cell 7
    have z0 : WF.cell? ⟨w.heap.size + 1 + 1, 0, none⟩ = some (.int .i64 0) := hrF.cell 0
    have z1 : WF.cell? ⟨w.heap.size + 1 + 1, 1, none⟩ = some (.int .i64 0) := hrF.cell 1
    have z2 : WF.cell? ⟨w.heap.size + 1 + 1, 2, none⟩ = some (.int .i64 0) := hrF.cell 2
    have z3 : WF.cell? ⟨w.heap.size + 1 + 1, 3, none⟩ = some (.int .i64 0) := hrF.cell 3
    have z4 : WF.cell? ⟨w.heap.size + 1 + 1, 4, none⟩ = some (.slice none 0 0) := hrF.cell 4
    have z5 : WF.cell? ⟨w.heap.size + 1 + 1, 5, none⟩ = some (.string ⟨#[]⟩) := hrF.cell 5
    have z6 : WF.cell? ⟨w.heap.size + 1 + 1, 6, none⟩ = some (.int .i64 0) := hrF.cell 6
    have z7 : WF.cell? ⟨w.heap.size + 1 + 1, 7, none⟩ = some (.int .i64 0) := hrF.cell 7
    have v0 : WF.frozen? ⟨w.heap.size + 1 + 1, 0, none⟩ = false := hrF.frozen 0
    have v1 : WF.frozen? ⟨w.heap.size + 1 + 1, 1, none⟩ = false := hrF.frozen 1
    have v2 : WF.frozen? ⟨w.heap.size + 1 + 1, 2, none⟩ = false := hrF.frozen 2
    have v3 : WF.frozen? ⟨w.heap.size + 1 + 1, 3, none⟩ = false := hrF.frozen 3
    have v4 : WF.frozen? ⟨w.heap.size + 1 + 1, 4, none⟩ = false := hrF.frozen 4
    have v5 : WF.frozen? ⟨w.heap.size + 1 + 1, 5, none⟩ = false := hrF.frozen 5
    have v6 : WF.frozen? ⟨w.heap.size + 1 + 1, 6, none⟩ = false := hrF.frozen 6
    have v7 : WF.frozen? ⟨w.heap.size + 1 + 1, 7, none⟩ = false := hrF.frozen 7
    have K6F := Lib.hid (K67.out.trans kCF)
    clear hWF hzF kF kCF hrF x6' x7' y6 y7
    go_wp2_with fail
    refine bodyPost_ret (v := .tuple #[.agg #[.int .i64 e.gate, .int .i64 e.no, .int .i64 e.time, .int .i64 e.kind, .slice a1 e.nums.length c1, .string ⟨e.text.toArray⟩, .int .i64 SC, .int .i64 SS], .bool true]) (by simp [results, Tryz.results24, go_sem, z0, z1, z2, z3, z4, z5, z6, z7]) rfl ?_
    unfold SeaE
    rw [HSC.out, HSD.out]
    obtain ⟨w2, hw2⟩ : ∃ w2, (((((((WF.setCell ⟨w.heap.size + 1 + 1, 0, none⟩ (.int .i64 e.gate)).setCell ⟨w.heap.size + 1 + 1, 1, none⟩ (.int .i64 e.no)).setCell ⟨w.heap.size + 1 + 1, 2, none⟩ (.int .i64 e.time)).setCell ⟨w.heap.size + 1 + 1, 3, none⟩ (.int .i64 e.kind)).setCell ⟨w.heap.size + 1 + 1, 4, none⟩ (.slice a1 e.nums.length c1)).setCell ⟨w.heap.size + 1 + 1, 5, none⟩ (.string ⟨e.text.toArray⟩)).setCell ⟨w.heap.size + 1 + 1, 6, none⟩ (.int .i64 SC)).setCell ⟨w.heap.size + 1 + 1, 7, none⟩ (.int .i64 SS) = w2 := ⟨_, rfl⟩
    rw [hw2]
    have k2 : Kept [w.heap.size + 1 + 1] WF w2 := by
      rw [← hw2]
      repeat (refine Kept.setCell ?_ (Or.inl (by simp)) _)
      exact Kept.refl _ _
    have kk : Kept [w.heap.size + 1, w.heap.size + 1 + 1] W w2 := (KWF.out.mono (fun z _ hz => by rw [List.mem_singleton] at hz; subst hz; simp)).trans (k2.mono (fun z _ hz => by rw [List.mem_singleton] at hz; subst hz; simp))
    have kk6 : Kept [w.heap.size + 1, w.heap.size + 1 + 1] w6 w2 := (K6F.out.mono (fun z _ hz => by rw [List.mem_singleton] at hz; subst hz; simp)).trans (k2.mono (fun z _ hz => by rw [List.mem_singleton] at hz; subst hz; simp))
    have hs5 := K5.out.size
    have hWs := HWS.out
    refine ⟨HKW.out.fresh kk (fun z hz => by simp only [List.mem_cons, List.not_mem_nil, or_false] at hz; rcases hz with rfl | rfl <;> omega), Or.inr ⟨HOQ.out, a1, c1, rfl, fun X hX => ?_⟩⟩
    have ho := own_keep OWN.out kk6 (fun z hz hm => by
      have h1 := own_ge OWN.out z hz
      simp only [List.mem_cons, List.not_mem_nil, or_false] at hm
      rcases hm with rfl | rfl <;> omega)
    exact Stable.row ho (fun z hz hm => by have h1 := own_ge OWN.out z hz; have := hX z hm; omega) (by omega)
end Go.Proofs.YtcidfldeiklcjaaGreatDoor
