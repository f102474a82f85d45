/- The one inverse modulo a number; small differences have one modulo what passes the primality test. -/
import Derived.Test.YtcidfldeiklcjaaGreatDoorSg2
import Derived.Test.YtcidfldeiklcjaaGreatDoorDeL
import Derived.Test.YtcidfldeiklcjaaGreatDoorDec
import Derived.Deep.DeepCutAuto
import Derived.Deep.CutBlock
import Derived.Test.YtcidfldeiklcjaaGreatDoorShaP
import Derived.Test.YtcidfldeiklcjaaGreatDoorFld5
/- JOINED: Fmd Zop Itp Ivz Ivu -/
/- The form of entries: formed. -/
namespace Go.Proofs.YtcidfldeiklcjaaGreatDoor
open Go.RowKit Tm Tape

/-- Decode's answer, spelled -/
def DecF (ok : Bool) (w : World) (e : Ending) (w' : World) : Prop := ∃ (u0 : Option Addr) (n0 c0 : Nat) (u1 : Option Addr) (n1 c1 : Nat) (u2 : Option Addr) (n2 c2 : Nat) (u3 : Option Addr) (n3 c3 : Nat) (u4 : Option Addr) (n4 c4 : Nat) (u5 : Option Addr) (n5 c5 : Nat) (u6 : Option Addr) (n6 c6 : Nat) (u7 : Option Addr) (n7 c7 : Nat) (u8 : Option Addr) (n8 c8 : Nat),
  e = .returned (.tuple #[.agg #[.slice u0 n0 c0, .slice u1 n1 c1, .slice u2 n2 c2, .slice u3 n3 c3, .slice u4 n4 c4, .slice u5 n5 c5, .slice u6 n6 c6, .slice u7 n7 c7, .slice u8 n8 c8], .bool ok]) ∧ Kept [] w w'
theorem decF_form {f : FuncId} {args : Array Value} {c : Rec} {ok : Bool} {w : World} (hc : Calls Tryz.prog f args w (DecRet (c, ok) w)) : Calls Tryz.prog f args w (DecF ok w) :=
  hc.mono fun _ _ ⟨v, he, ⟨tk, sp, lk, cm, ch, bt, es, da, an, hv, hr⟩, k⟩ => by
    subst hv
    obtain ⟨htk, hsp, hlk, hcm, hch, hbt, hes, hda, han⟩ := hr
    obtain ⟨u0, c0, rfl, _, _⟩ := htk.form
    obtain ⟨u1, c1, rfl, _, _⟩ := hsp.form
    obtain ⟨u2, c2, rfl, _, _⟩ := hlk.form
    obtain ⟨u3, c3, rfl, _, _⟩ := hcm.form
    obtain ⟨u4, c4, rfl, _, _⟩ := hch.form
    obtain ⟨u5, c5, rfl, _, _⟩ := hbt.form
    obtain ⟨u6, c6, rfl, _, _⟩ := hes.form
    obtain ⟨u7, c7, rfl, _, _⟩ := hda.form
    obtain ⟨u8, c8, rfl, _, _⟩ := han.form
    exact ⟨u0, _, c0, u1, _, c1, u2, _, c2, u3, _, c3, u4, _, c4, u5, _, c5, u6, _, c6, u7, _, c7, u8, _, c8, he, k⟩
theorem formedB_f (s : Stp) (e : Ent) : formedB s e = (setupB s && (inB e.gate 0 23 && (inB e.no 0 4095 && (inB e.time 0 2147483648 && (shapedB s e && textB e))))) := rfl

set_option maxRecDepth 100000 in
set_option maxHeartbeats 4000000 in
theorem formed_any (vs ve : Value) (s : Stp) (e : Ent) (w : World) (hs : StpV w vs s) (he : EntA w ve e) (hi : EntI e) (hE : Env2 w) :
    Calls Tryz.prog 52 #[vs, ve] w fun en w' => en = .returned (.bool (formedB s e)) ∧ Kept [] w w' := by
  have hs' := hs
  have he' := he
  obtain ⟨⟨ad, c, rfl, hrow⟩, ip, iq, ig, ib, il⟩ := hs'
  obtain ⟨u, rfl, hnu⟩ := he'
  obtain ⟨ua, uc, rfl, _, _⟩ := hnu.form
  obtain ⟨W, hW⟩ : ∃ W, (w.alloc (.cells (stpA s (.slice ad s.bases.length c)) 26)).alloc (.cells (entC e (.slice ua e.nums.length uc)).toArray 52) = W := ⟨_, rfl⟩
  have hb : Blk W w.heap.size 26 (stpA s (.slice ad s.bases.length c)) := hW ▸ (Blk.new _ _ _).alloc _
  have hz : Blk W (w.heap.size + 1) 52 (entC e (.slice ua e.nums.length uc)).toArray := by
    have := Blk.new (w.alloc (.cells (stpA s (.slice ad s.bases.length c)) 26)) 52 (entC e (.slice ua e.nums.length uc)).toArray
    rw [hW, World.size_alloc] at this
    exact this
  have hkW : Kept [] w W := hW ▸ ((Kept.refl _ _).alloc _).alloc _
  have VS : Hid (Calls Tryz.prog 58 #[.agg #[.int .i64 s.P, .int .i64 s.Q, .int .i64 s.G, .slice ad s.bases.length c, .int .i64 s.blind]] W fun e w2 => e = .returned (.bool (setupB s)) ∧ Kept [] W w2) := validSetup_any _ s W (hs.kept hkW) (hE.kept0 hkW)
  have SH : Hid (setupB s = true → 0 ≤ e.no → ∀ w', Kept [] W w' → Calls Tryz.prog 81 #[.agg #[.int .i64 s.P, .int .i64 s.Q, .int .i64 s.G, .slice ad s.bases.length c, .int .i64 s.blind], .agg #[.int .i64 e.gate, .int .i64 e.no, .int .i64 e.time, .int .i64 e.kind, .slice ua e.nums.length uc, .string ⟨e.text.toArray⟩, .int .i64 e.c, .int .i64 e.s]] w' fun en w2 => en = .returned (.bool (shapedB s e)) ∧ Kept [] w' w2) := fun h1 h2 w' k => by
    obtain ⟨q, hok, hgn⟩ := setupB_ok h1
    exact shaped_any _ _ s q e w' (hs.kept (hkW.trans k)) hok hgn (he.kept (hkW.trans k)) hi h2 (hE.kept0 (hkW.trans k))
  have DT : Hid (∀ w', Kept [] W w' → Calls Tryz.prog 82 #[.string ⟨e.text.toArray⟩] w' (DtE e.text w')) := fun w' k => decTask_any e.text w' hi.l5 (hE.kept0 (hkW.trans k)).toEnv
  have DC : Hid (∀ w', Kept [] W w' → Calls Tryz.prog 83 #[.string ⟨e.text.toArray⟩] w' (DecF (readR e.text).2 w')) := fun w' k => by
    have := hi.l5
    exact decF_form (dec_any e.text w' (hE.kept0 (hkW.trans k)).toEnv (by omega))
  have S0 : Hid (∀ w', Kept [] W w' → w'.cell? ⟨w.heap.size, 0, none⟩ = some (.int .i64 s.P)) := Kept.cellOf (hb.cell 0)
  have S1 : Hid (∀ w', Kept [] W w' → w'.cell? ⟨w.heap.size, 1, none⟩ = some (.int .i64 s.Q)) := Kept.cellOf (hb.cell 1)
  have S2 : Hid (∀ w', Kept [] W w' → w'.cell? ⟨w.heap.size, 2, none⟩ = some (.int .i64 s.G)) := Kept.cellOf (hb.cell 2)
  have S3 : Hid (∀ w', Kept [] W w' → w'.cell? ⟨w.heap.size, 3, none⟩ = some (.slice ad s.bases.length c)) := Kept.cellOf (hb.cell 3)
  have S4 : Hid (∀ w', Kept [] W w' → w'.cell? ⟨w.heap.size, 4, none⟩ = some (.int .i64 s.blind)) := Kept.cellOf (hb.cell 4)
  have C0 : Hid (∀ w', Kept [] W w' → w'.cell? ⟨w.heap.size + 1, 0, none⟩ = some (.int .i64 e.gate)) := Kept.cellOf (hz.cell 0)
  have C1 : Hid (∀ w', Kept [] W w' → w'.cell? ⟨w.heap.size + 1, 1, none⟩ = some (.int .i64 e.no)) := Kept.cellOf (hz.cell 1)
  have C2 : Hid (∀ w', Kept [] W w' → w'.cell? ⟨w.heap.size + 1, 2, none⟩ = some (.int .i64 e.time)) := Kept.cellOf (hz.cell 2)
  have C3 : Hid (∀ w', Kept [] W w' → w'.cell? ⟨w.heap.size + 1, 3, none⟩ = some (.int .i64 e.kind)) := Kept.cellOf (hz.cell 3)
  have C4 : Hid (∀ w', Kept [] W w' → w'.cell? ⟨w.heap.size + 1, 4, none⟩ = some (.slice ua e.nums.length uc)) := Kept.cellOf (hz.cell 4)
  have C5 : Hid (∀ w', Kept [] W w' → w'.cell? ⟨w.heap.size + 1, 5, none⟩ = some (.string ⟨e.text.toArray⟩)) := Kept.cellOf (hz.cell 5)
  have C6 : Hid (∀ w', Kept [] W w' → w'.cell? ⟨w.heap.size + 1, 6, none⟩ = some (.int .i64 e.c)) := Kept.cellOf (hz.cell 6)
  have C7 : Hid (∀ w', Kept [] W w' → w'.cell? ⟨w.heap.size + 1, 7, none⟩ = some (.int .i64 e.s)) := Kept.cellOf (hz.cell 7)
  have HNU := Lib.hid (hnu.kept hkW)
  have HW := Lib.hid hW
  have HKW := Lib.hid hkW
  have HFE := Lib.hid (formedB_f s e)
  have HSH : Hid (shapedB s e = true → e.kind = 3 → ∃ x y, e.nums = [x, y]) := fun h1 h2 => by
    unfold shapedB at h1
    rw [if_neg (by omega), if_neg (by omega), if_neg (by omega), if_pos h2] at h1
    obtain ⟨x, y, h3, _, _⟩ := twoB_iff h1
    exact ⟨x, y, h3⟩
  obtain ⟨R, hR⟩ : ∃ R, formedB s e = R := ⟨_, rfl⟩
  rw [hR] at HFE ⊢
  have G1 := Lib.hid (fun w => within_any e.gate 0 23 w)
  have G2 := Lib.hid (fun w => within_any e.no 0 4095 w)
  have G3 := Lib.hid (fun w => within_any e.time 0 2147483648 w)
  have HB2 : Hid (inB e.no 0 4095 = true → 0 ≤ e.no) := fun h => ((inB_iff _ _ _).1 h).1
  obtain ⟨b1, hb1⟩ : ∃ b, setupB s = b := ⟨_, rfl⟩
  obtain ⟨b2, hb2⟩ : ∃ b, inB e.gate 0 23 = b := ⟨_, rfl⟩
  obtain ⟨b3, hb3⟩ : ∃ b, inB e.no 0 4095 = b := ⟨_, rfl⟩
  obtain ⟨b4, hb4⟩ : ∃ b, inB e.time 0 2147483648 = b := ⟨_, rfl⟩
  obtain ⟨b5, hb5⟩ : ∃ b, shapedB s e = b := ⟨_, rfl⟩
  rw [hb1] at VS SH HFE
  rw [hb2] at G1 HFE
  rw [hb3] at G2 HFE HB2
  rw [hb4] at G3 HFE
  rw [hb5] at SH HFE HSH
  clear hW hb hz hrow hnu hE hi hs he hR ib hkW hb1 hb2 hb3 hb4 hb5
  show Calls _ _ #[.agg #[.int .i64 s.P, .int .i64 s.Q, .int .i64 s.G, .slice ad s.bases.length c, .int .i64 s.blind], .agg #[.int .i64 e.gate, .int .i64 e.no, .int .i64 e.time, .int .i64 e.kind, .slice ua e.nums.length uc, .string ⟨e.text.toArray⟩, .int .i64 e.c, .int .i64 e.s]] _ _
  cases b1
  · have hR := HFE.out
    simp only [Bool.false_and] at hR
    subst hR
    go_enter Tryz.func52, Tryz.ntmps52
    go_upto_region 1 with (fail)
    have hW' : (w.alloc (.cells #[.int .i64 s.P, .int .i64 s.Q, .int .i64 s.G, .slice ad s.bases.length c, .int .i64 s.blind] 26)).alloc (.cells #[.int .i64 e.gate, .int .i64 e.no, .int .i64 e.time, .int .i64 e.kind, .slice ua e.nums.length uc, .string ⟨e.text.toArray⟩, .int .i64 e.c, .int .i64 e.s] 52) = W := HW.out
    rw [hW']
    clear hW' HW
    have s0 := S0.out W (Kept.refl _ _)
    have s1 := S1.out W (Kept.refl _ _)
    have s2 := S2.out W (Kept.refl _ _)
    have s3 := S3.out W (Kept.refl _ _)
    have s4 := S4.out W (Kept.refl _ _)
    have c0 := C0.out W (Kept.refl _ _)
    have c1 := C1.out W (Kept.refl _ _)
    have c2 := C2.out W (Kept.refl _ _)
    have c3 := C3.out W (Kept.refl _ _)
    have c4 := C4.out W (Kept.refl _ _)
    have c5 := C5.out W (Kept.refl _ _)
    have c6 := C6.out W (Kept.refl _ _)
    have c7 := C7.out W (Kept.refl _ _)
    go_wp2_with (go_at_call 58; with_reducible refine VS.out.mono ?_)
    first | (rintro e1 w1 rfl k1) | (rintro e1 w1 ⟨rfl, k1⟩)
    clear s0 s1 s2 s3 s4 c0 c1 c2 c3 c4 c5 c6 c7
    have s0 := S0.out w1 k1
    have s1 := S1.out w1 k1
    have s2 := S2.out w1 k1
    have s3 := S3.out w1 k1
    have s4 := S4.out w1 k1
    have c0 := C0.out w1 k1
    have c1 := C1.out w1 k1
    have c2 := C2.out w1 k1
    have c3 := C3.out w1 k1
    have c4 := C4.out w1 k1
    have c5 := C5.out w1 k1
    have c6 := C6.out w1 k1
    have c7 := C7.out w1 k1
    go_wp2_with fail
    go_ret
    exact ⟨rfl, HKW.out.trans k1⟩
  cases b2
  · have hR := HFE.out
    simp only [Bool.false_and, Bool.true_and] at hR
    subst hR
    go_enter Tryz.func52, Tryz.ntmps52
    go_upto_region 1 with (fail)
    have hW' : (w.alloc (.cells #[.int .i64 s.P, .int .i64 s.Q, .int .i64 s.G, .slice ad s.bases.length c, .int .i64 s.blind] 26)).alloc (.cells #[.int .i64 e.gate, .int .i64 e.no, .int .i64 e.time, .int .i64 e.kind, .slice ua e.nums.length uc, .string ⟨e.text.toArray⟩, .int .i64 e.c, .int .i64 e.s] 52) = W := HW.out
    rw [hW']
    clear hW' HW
    have s0 := S0.out W (Kept.refl _ _)
    have s1 := S1.out W (Kept.refl _ _)
    have s2 := S2.out W (Kept.refl _ _)
    have s3 := S3.out W (Kept.refl _ _)
    have s4 := S4.out W (Kept.refl _ _)
    have c0 := C0.out W (Kept.refl _ _)
    have c1 := C1.out W (Kept.refl _ _)
    have c2 := C2.out W (Kept.refl _ _)
    have c3 := C3.out W (Kept.refl _ _)
    have c4 := C4.out W (Kept.refl _ _)
    have c5 := C5.out W (Kept.refl _ _)
    have c6 := C6.out W (Kept.refl _ _)
    have c7 := C7.out W (Kept.refl _ _)
    go_wp2_with (go_at_call 58; with_reducible refine VS.out.mono ?_)
    first | (rintro e1 w1 rfl k1) | (rintro e1 w1 ⟨rfl, k1⟩)
    clear s0 s1 s2 s3 s4 c0 c1 c2 c3 c4 c5 c6 c7
    have s0 := S0.out w1 k1
    have s1 := S1.out w1 k1
    have s2 := S2.out w1 k1
    have s3 := S3.out w1 k1
    have s4 := S4.out w1 k1
    have c0 := C0.out w1 k1
    have c1 := C1.out w1 k1
    have c2 := C2.out w1 k1
    have c3 := C3.out w1 k1
    have c4 := C4.out w1 k1
    have c5 := C5.out w1 k1
    have c6 := C6.out w1 k1
    have c7 := C7.out w1 k1
    go_wp2_with (first
        | (go_at_call 37; ((with_reducible refine (G1.out _).mono ?_); rintro e2 w2 ⟨rfl, rfl⟩)))
    go_ret
    exact ⟨rfl, HKW.out.trans k1⟩
  cases b3
  · have hR := HFE.out
    simp only [Bool.false_and, Bool.true_and] at hR
    subst hR
    go_enter Tryz.func52, Tryz.ntmps52
    go_upto_region 1 with (fail)
    have hW' : (w.alloc (.cells #[.int .i64 s.P, .int .i64 s.Q, .int .i64 s.G, .slice ad s.bases.length c, .int .i64 s.blind] 26)).alloc (.cells #[.int .i64 e.gate, .int .i64 e.no, .int .i64 e.time, .int .i64 e.kind, .slice ua e.nums.length uc, .string ⟨e.text.toArray⟩, .int .i64 e.c, .int .i64 e.s] 52) = W := HW.out
    rw [hW']
    clear hW' HW
    have s0 := S0.out W (Kept.refl _ _)
    have s1 := S1.out W (Kept.refl _ _)
    have s2 := S2.out W (Kept.refl _ _)
    have s3 := S3.out W (Kept.refl _ _)
    have s4 := S4.out W (Kept.refl _ _)
    have c0 := C0.out W (Kept.refl _ _)
    have c1 := C1.out W (Kept.refl _ _)
    have c2 := C2.out W (Kept.refl _ _)
    have c3 := C3.out W (Kept.refl _ _)
    have c4 := C4.out W (Kept.refl _ _)
    have c5 := C5.out W (Kept.refl _ _)
    have c6 := C6.out W (Kept.refl _ _)
    have c7 := C7.out W (Kept.refl _ _)
    go_wp2_with (go_at_call 58; with_reducible refine VS.out.mono ?_)
    first | (rintro e1 w1 rfl k1) | (rintro e1 w1 ⟨rfl, k1⟩)
    clear s0 s1 s2 s3 s4 c0 c1 c2 c3 c4 c5 c6 c7
    have s0 := S0.out w1 k1
    have s1 := S1.out w1 k1
    have s2 := S2.out w1 k1
    have s3 := S3.out w1 k1
    have s4 := S4.out w1 k1
    have c0 := C0.out w1 k1
    have c1 := C1.out w1 k1
    have c2 := C2.out w1 k1
    have c3 := C3.out w1 k1
    have c4 := C4.out w1 k1
    have c5 := C5.out w1 k1
    have c6 := C6.out w1 k1
    have c7 := C7.out w1 k1
    go_wp2_with (first
        | (go_at_call 37; ((with_reducible refine (G1.out _).mono ?_); rintro e2 w2 ⟨rfl, rfl⟩))
        | (go_at_call 37; ((with_reducible refine (G2.out _).mono ?_); rintro e2 w2 ⟨rfl, rfl⟩)))
    go_ret
    exact ⟨rfl, HKW.out.trans k1⟩
  cases b4
  · have hR := HFE.out
    simp only [Bool.false_and, Bool.true_and] at hR
    subst hR
    go_enter Tryz.func52, Tryz.ntmps52
    go_upto_region 1 with (fail)
    have hW' : (w.alloc (.cells #[.int .i64 s.P, .int .i64 s.Q, .int .i64 s.G, .slice ad s.bases.length c, .int .i64 s.blind] 26)).alloc (.cells #[.int .i64 e.gate, .int .i64 e.no, .int .i64 e.time, .int .i64 e.kind, .slice ua e.nums.length uc, .string ⟨e.text.toArray⟩, .int .i64 e.c, .int .i64 e.s] 52) = W := HW.out
    rw [hW']
    clear hW' HW
    have s0 := S0.out W (Kept.refl _ _)
    have s1 := S1.out W (Kept.refl _ _)
    have s2 := S2.out W (Kept.refl _ _)
    have s3 := S3.out W (Kept.refl _ _)
    have s4 := S4.out W (Kept.refl _ _)
    have c0 := C0.out W (Kept.refl _ _)
    have c1 := C1.out W (Kept.refl _ _)
    have c2 := C2.out W (Kept.refl _ _)
    have c3 := C3.out W (Kept.refl _ _)
    have c4 := C4.out W (Kept.refl _ _)
    have c5 := C5.out W (Kept.refl _ _)
    have c6 := C6.out W (Kept.refl _ _)
    have c7 := C7.out W (Kept.refl _ _)
    go_wp2_with (go_at_call 58; with_reducible refine VS.out.mono ?_)
    first | (rintro e1 w1 rfl k1) | (rintro e1 w1 ⟨rfl, k1⟩)
    clear s0 s1 s2 s3 s4 c0 c1 c2 c3 c4 c5 c6 c7
    have s0 := S0.out w1 k1
    have s1 := S1.out w1 k1
    have s2 := S2.out w1 k1
    have s3 := S3.out w1 k1
    have s4 := S4.out w1 k1
    have c0 := C0.out w1 k1
    have c1 := C1.out w1 k1
    have c2 := C2.out w1 k1
    have c3 := C3.out w1 k1
    have c4 := C4.out w1 k1
    have c5 := C5.out w1 k1
    have c6 := C6.out w1 k1
    have c7 := C7.out w1 k1
    go_wp2_with (first
        | (go_at_call 37; ((with_reducible refine (G1.out _).mono ?_); rintro e2 w2 ⟨rfl, rfl⟩))
        | (go_at_call 37; ((with_reducible refine (G2.out _).mono ?_); rintro e2 w2 ⟨rfl, rfl⟩))
        | (go_at_call 37; ((with_reducible refine (G3.out _).mono ?_); rintro e2 w2 ⟨rfl, rfl⟩)))
    go_ret
    exact ⟨rfl, HKW.out.trans k1⟩
  go_enter Tryz.func52, Tryz.ntmps52
  go_upto_region 1 with (fail)
  have hW' : (w.alloc (.cells #[.int .i64 s.P, .int .i64 s.Q, .int .i64 s.G, .slice ad s.bases.length c, .int .i64 s.blind] 26)).alloc (.cells #[.int .i64 e.gate, .int .i64 e.no, .int .i64 e.time, .int .i64 e.kind, .slice ua e.nums.length uc, .string ⟨e.text.toArray⟩, .int .i64 e.c, .int .i64 e.s] 52) = W := HW.out
  rw [hW']
  clear hW' HW
  have s0 := S0.out W (Kept.refl _ _)
  have s1 := S1.out W (Kept.refl _ _)
  have s2 := S2.out W (Kept.refl _ _)
  have s3 := S3.out W (Kept.refl _ _)
  have s4 := S4.out W (Kept.refl _ _)
  have c0 := C0.out W (Kept.refl _ _)
  have c1 := C1.out W (Kept.refl _ _)
  have c2 := C2.out W (Kept.refl _ _)
  have c3 := C3.out W (Kept.refl _ _)
  have c4 := C4.out W (Kept.refl _ _)
  have c5 := C5.out W (Kept.refl _ _)
  have c6 := C6.out W (Kept.refl _ _)
  have c7 := C7.out W (Kept.refl _ _)
  go_wp2_with (go_at_call 58; with_reducible refine VS.out.mono ?_)
  first | (rintro e1 w1 rfl k1) | (rintro e1 w1 ⟨rfl, k1⟩)
  clear s0 s1 s2 s3 s4 c0 c1 c2 c3 c4 c5 c6 c7
  have s0 := S0.out w1 k1
  have s1 := S1.out w1 k1
  have s2 := S2.out w1 k1
  have s3 := S3.out w1 k1
  have s4 := S4.out w1 k1
  have c0 := C0.out w1 k1
  have c1 := C1.out w1 k1
  have c2 := C2.out w1 k1
  have c3 := C3.out w1 k1
  have c4 := C4.out w1 k1
  have c5 := C5.out w1 k1
  have c6 := C6.out w1 k1
  have c7 := C7.out w1 k1
  have SH2 := Lib.hid (SH.out (by trivial) (HB2.out (by trivial)) w1 k1)
  go_wp2_with (first
      | (go_at_call 37; ((with_reducible refine (G1.out _).mono ?_); rintro e2 w2 ⟨rfl, rfl⟩))
      | (go_at_call 37; ((with_reducible refine (G2.out _).mono ?_); rintro e2 w2 ⟨rfl, rfl⟩))
      | (go_at_call 37; ((with_reducible refine (G3.out _).mono ?_); rintro e2 w2 ⟨rfl, rfl⟩))
      | (go_at_call 81; with_reducible refine SH2.out.mono ?_))
  first | (rintro e2 w2 rfl k2) | (rintro e2 w2 ⟨rfl, k2⟩)
  have K2 := Lib.hid (k1.trans k2)
  clear s0 s1 s2 s3 s4 c0 c1 c2 c3 c4 c5 c6 c7
  clear k1 k2 SH SH2 G1 G2 G3 VS HB2
  cases b5
  · have hR := HFE.out
    simp only [Bool.false_and, Bool.true_and] at hR
    subst hR
    go_wp2_with fail
    go_ret
    exact ⟨rfl, HKW.out.trans K2.out⟩
  have HTX : Hid (R = textB e) := by show _ = _; have := HFE.out; simpa using this
  have c3 := C3.out w2 K2.out
  have c4 := C4.out w2 K2.out
  have c5 := C5.out w2 K2.out
  by_cases h3 : e.kind = 3
  · have hR := HTX.out
    unfold textB at hR
    rw [if_pos h3] at hR
    obtain ⟨x, y, hxy⟩ := HSH.out (by trivial) h3
    have hn2 : e.nums.length = 2 := by rw [hxy]; rfl
    obtain ⟨rb, ro, rfl, _, x1⟩ := rowTwo HNU.out hxy hn2
    have X1 := Lib.hid (Kept.cellOf x1)
    have l1 : (1 : Nat) < e.nums.length := by omega
    rw [hxy] at hR
    have d3 : (e.kind == 3) = true := by simpa using h3
    have HR2 := Lib.hid hR
    clear hR hxy hn2 x1 h3
    go_wp2_with (go_at_call 82; with_reducible refine (DT.out w2 K2.out).mono ?_)
    rintro e3 w3 ⟨i0, i3, i6, i7, tq, pa, ra, pn, pc, rn, rc, rfl, k3⟩
    have HR3 := HR2.out
    obtain ⟨dd, hdd⟩ : ∃ d, Dt.dareT e.text = d := ⟨_, rfl⟩
    obtain ⟨kk, hkk⟩ : ∃ d, Dt.okT e.text = d := ⟨_, rfl⟩
    rw [hdd, hkk] at HR3 ⊢
    have HR4 := Lib.hid HR3
    clear hdd hkk HR3 HR2 c3 c4 c5 d3
    have K3 := Lib.hid (K2.out.trans k3)
    clear k3
    go_upto_region 6 with (fail)
    obtain ⟨w4, hw4⟩ : ∃ w4, w3.alloc (.cells #[.int .i64 i0, .string ⟨tq.toArray⟩, .slice pa pn pc, .int .i64 i3, .slice ra rn rc, .int .i64 dd, .int .i64 i6, .int .i64 i7] 88) = w4 := ⟨_, rfl⟩
    have hb4 : Blk w4 w3.heap.size 88 #[.int .i64 i0, .string ⟨tq.toArray⟩, .slice pa pn pc, .int .i64 i3, .slice ra rn rc, .int .i64 dd, .int .i64 i6, .int .i64 i7] := hw4 ▸ Blk.new _ _ _
    have K4 : Hid (Kept [] W w4) := Lib.hid (hw4 ▸ K3.out.alloc _)
    rw [hw4]
    have t5 : w4.cell? ⟨w3.heap.size, 5, none⟩ = some (.int .i64 dd) := hb4.cell 5
    have c4 := C4.out w4 K4.out
    have y1 := X1.out w4 K4.out
    clear hb4 hw4
    cases kk
    · have hR := HR4.out
      rw [Bool.false_and] at hR
      subst hR
      go_quiet (fail)
      go_wp2_with fail
      go_ret
      exact ⟨rfl, (HKW.out.trans K4.out).drewN _⟩
    · have hR : R = decide (dd = y) := HR4.out
      subst hR
      go_quiet (fail)
      go_wp2_with fail
      go_ret
      exact ⟨rfl, (HKW.out.trans K4.out).drewN _⟩
  · have d3 : (e.kind == 3) = false := by simpa using h3
    by_cases h4 : e.kind = 4
    · have hR := HTX.out
      unfold textB at hR
      rw [if_neg h3, if_pos h4] at hR
      have d4 : (e.kind == 4) = true := by simpa using h4
      have DC2 := DC.out w2 K2.out
      rw [← hR] at DC2
      have DC3 := Lib.hid DC2
      clear hR h3 h4 DC2
      go_wp2_with (go_at_call 83; with_reducible refine DC3.out.mono ?_)
      rintro e3 w3 ⟨u0, n0, m0, u1, n1, m1, u2, n2, m2, u3, n3, m3, u4, n4, m4, u5, n5, m5, u6, n6, m6, u7, n7, m7, u8, n8, m8, rfl, k3⟩
      go_wp2_with fail
      go_ret
      exact ⟨rfl, HKW.out.trans ((K2.out.trans k3).alloc _)⟩
    · have hR := HTX.out
      unfold textB at hR
      rw [if_neg h3, if_neg h4] at hR
      have d4 : (e.kind == 4) = false := by simpa using h4
      clear h3 h4
      subst hR
      go_wp2_with fail
      go_ret
      exact ⟨by rw [show decide (e.text = []) = e.text.isEmpty by cases e.text <;> rfl]; simp, HKW.out.trans K2.out⟩
end Go.Proofs.YtcidfldeiklcjaaGreatDoor
/- Sums, differences and products modulo any int: 0 where it is no modulus. -/
namespace Go.Proofs.YtcidfldeiklcjaaGreatDoor
open Go.RowKit

theorem ltSub (N : Nat) (a b : Int) (h : 1 ≤ N) : subN N a b < N := Nat.mod_lt _ (by omega)
section
set_option maxHeartbeats 400000
end
end Go.Proofs.YtcidfldeiklcjaaGreatDoor
/- Interpolation modulo a number, in plain numbers. -/
namespace Itp
def Cg (q a b : Int) : Prop := ∃ t, a - b = q * t
theorem Cg.symm {q a b : Int} : Cg q a b → Cg q b a := fun ⟨t, h⟩ => ⟨-t, by grind⟩
theorem Cg.trans {q a b c : Int} : Cg q a b → Cg q b c → Cg q a c := fun ⟨t, h⟩ ⟨u, k⟩ => ⟨t + u, by grind⟩
theorem Cg.mul {q a b c d : Int} : Cg q a b → Cg q c d → Cg q (a * c) (b * d) := fun ⟨t, h⟩ ⟨u, k⟩ => ⟨t * c + b * u, by grind⟩
theorem Cg.mod (q a : Int) : Cg q (a % q) a := ⟨-(a / q), by have := Int.emod_add_mul_ediv a q; grind⟩
theorem Cg.eq_of_lt {q a b : Int} (h : Cg q a b) (ha : 0 ≤ a) (ha' : a < q) (hb : 0 ≤ b) (hb' : b < q) : a = b := by
  obtain ⟨t, h⟩ := h
  have h1 : a % q = b % q := by
    rw [show a = b + q * t by omega, Int.add_mul_emod_self_left]
  rwa [Int.emod_eq_of_lt ha ha', Int.emod_eq_of_lt hb hb'] at h1

/-! Newton's polynomial by divided differences -/
section newton
variable (q : Int) (x : Nat → Int) (dd : Nat → Nat → Int)
variable (hd : ∀ k i, k + 1 ≤ i → Cg q (dd (k + 1) i * (x i - x (i - (k + 1)))) (dd k i - dd k (i - 1)))
include hd
omit hd
end newton

/-! a coefficient is set -/
end Itp
/- The inverse modulo a number: the program's and the reference's. -/
namespace Go.Proofs.YtcidfldeiklcjaaGreatDoor
open Go.RowKit

theorem ltMul (N : Nat) (a b : Int) (h : 1 ≤ N) : mulN N a b < N := Nat.mod_lt _ (by omega)
theorem mod_cg (q : Nat) (a : Int) (h : 1 ≤ q) : Itp.Cg q ((res q a : Nat) : Int) a := by rw [res_eq q a h]; exact Itp.Cg.mod q a
theorem mul_cg (q : Nat) (a b : Int) (h : 1 ≤ q) : Itp.Cg q ((mulN q a b : Nat) : Int) (a * b) := by
  unfold mulN
  rw [Int.natCast_emod, Int.natCast_mul]
  exact (Itp.Cg.mod _ _).trans ((mod_cg q a h).mul (mod_cg q b h))
theorem sub_cg (q : Nat) (a b : Int) (h : 1 ≤ q) : Itp.Cg q ((subN q a b : Nat) : Int) (a - b) := by
  unfold subN
  have l := res_lt q b h
  rw [Int.natCast_emod, Int.natCast_sub (by omega), Int.natCast_add]
  obtain ⟨t, ht⟩ := mod_cg q a h
  obtain ⟨u, hu⟩ := mod_cg q b h
  exact (Itp.Cg.mod _ _).trans ⟨t - u + 1, by grind⟩

/-- what stands between two rounds -/
structure InvS (q : Nat) (a : Int) (r s x y : Nat) : Prop where
  hr : r ≤ q
  hs : s < q
  hx : x < q
  hy : y < q
  cx : Itp.Cg q (x * a) r
  cy : Itp.Cg q (y * a) s
  g : Nat.gcd r s = 1
theorem InvS.start (q : Nat) (a : Int) (h2 : 2 ≤ q) (hg : Nat.gcd q (res q a) = 1) : InvS q a q (res q a) 0 1 :=
  ⟨Nat.le_refl _, res_lt q a (by omega), by omega, by omega, ⟨-1, by grind⟩, by have := (mod_cg q a (by omega)).symm; simpa using this, hg⟩
theorem InvS.next {q : Nat} {a : Int} {r s x y : Nat} (h : InvS q a r s x y) (h2 : 2 ≤ q) (h0 : s ≠ 0) :
    InvS q a s (r % s) y (subN q (x : Int) ((mulN q ((r / s : Nat) : Int) (y : Int) : Nat) : Int)) := by
  have hl : r % s < s := Nat.mod_lt _ (by omega)
  refine ⟨by have := h.hs; omega, by have := h.hs; omega, h.hy, ltSub _ _ _ (by omega), h.cy, ?_, ?_⟩
  · obtain ⟨t, ht⟩ := sub_cg q (x : Int) ((mulN q ((r / s : Nat) : Int) (y : Int) : Nat) : Int) (by omega)
    obtain ⟨u, hu⟩ := mul_cg q ((r / s : Nat) : Int) (y : Int) (by omega)
    obtain ⟨v, hv⟩ := h.cx
    obtain ⟨z, hz⟩ := h.cy
    have hd : (r : Int) = ((r / s : Nat) : Int) * s + ((r % s : Nat) : Int) := by
      have := Nat.div_add_mod r s
      rw [← Int.natCast_mul, ← Int.natCast_add, Nat.mul_comm]
      exact congrArg Nat.cast this.symm
    generalize ((r / s : Nat) : Int) = k at *
    generalize ((r % s : Nat) : Int) = m at *
    generalize ((mulN q k (y : Int) : Nat) : Int) = p at *
    generalize ((subN q (x : Int) p : Nat) : Int) = n at *
    exact ⟨t * a - u * a + v - k * z, by grind⟩
  · rw [← h.g, Nat.gcd_comm r s, Nat.gcd_rec s r, Nat.gcd_comm]
theorem InvS.done {q : Nat} {a : Int} {r x y : Nat} (h : InvS q a r 0 x y) : r = 1 ∧ Itp.Cg q (x * a) 1 := by
  have hr : r = 1 := by have := h.g; rwa [Nat.gcd_zero_right] at this
  exact ⟨hr, by have := h.cx; rwa [hr] at this⟩

/-- the inverse of a, and that there is one -/
def InvP (q : Nat) (a : Int) (w : World) (e : Ending) (w' : World) : Prop := (∃ u : Nat, e = .returned (.tuple #[.int .i64 (u : Int), .bool true]) ∧ u < q ∧ Itp.Cg q (u * a) 1) ∧ Kept [] w w'

theorem tdiv_nat (r s : Nat) : (r : Int).tdiv (s : Int) = ((r / s : Nat) : Int) := by
  rw [Int.tdiv_eq_ediv_of_nonneg (by omega)]; rfl
theorem tmod_nat {x q : Nat} (h : x < q) : (x : Int).tmod (q : Int) = (x : Int) := by
  rw [Int.tmod_eq_emod_of_nonneg (by omega), Int.emod_eq_of_lt (by omega) (by omega)]

set_option maxRecDepth 100000 in
set_option maxHeartbeats 800000 in
theorem finv_any (q : Nat) (a : Int) (w : World) (h2 : 2 ≤ q) (h3 : q < 2305843009213693952) (ha : Wire.I64 a) (hg : Nat.gcd q (res q a) = 1) :
    Calls Tryz.prog 187 #[.int .i64 q, .int .i64 a] w (InvP q a w) := by
  have V := Lib.hid (fvalid_any q w (by omega) h3)
  have R := Lib.hid (residue_any q a w (by omega) h3 ha)
  have H0 := Lib.hid (InvS.start q a h2 hg)
  have l0 := res_lt q a (by omega)
  obtain ⟨A, hA⟩ : ∃ A, res q a = A := ⟨_, rfl⟩
  rw [hA] at R H0 l0
  have hz' : ¬ (q : Int) = 0 := by omega
  clear hA hg
  go_enter Tryz.func187, Tryz.ntmps187
  go_wp2_with (first
    | (go_at_call 91; refine V.out.mono ?_; rintro e w' ⟨rfl, rfl⟩)
    | (go_at_call 141; with_reducible refine R.out.mono ?_; rintro e w' ⟨rfl, rfl⟩))
  go_loopw [6, 7, 8, 9] (fun vr vs vx vy wr => ∃ r s x y : Nat, vr = .int .i64 r ∧ vs = .int .i64 s ∧ vx = .int .i64 x ∧ vy = .int .i64 y ∧ InvS q a r s x y ∧ Kept [] w wr) (fun _ vs _ _ _ => (intOf vs).toNat)
  case atStart => exact ⟨q, A, 0, 1, rfl, rfl, rfl, rfl, H0.out, Kept.refl _ _⟩
  case round =>
    obtain ⟨r, s, x, y, rfl, rfl, rfl, rfl, hI, hkr⟩ := hrel
    by_cases h0 : s = 0
    · subst h0
      obtain ⟨rfl, hc⟩ := hI.done
      have hx := hI.hx
      have ht := tmod_nat hx
      have HC := Lib.hid hc
      clear hI hc
      go_wp2_with fail
      go_ret2
      exact ⟨⟨x, rfl, hx, HC.out⟩, hkr⟩
    · have hs := hI.hs
      have hr := hI.hr
      have hx := hI.hx
      have hy := hI.hy
      have HN := Lib.hid (hI.next h2 h0)
      have hs0 : ¬ (s : Int) = 0 := by omega
      have hd := tdiv_nat r s
      have hk : r / s ≤ r := Nat.div_le_self _ _
      have hm : ((r / s : Nat) : Int) * (s : Int) = ((r / s * s : Nat) : Int) := by rw [Int.natCast_mul]
      have hdm : r / s * s + r % s = r := Nat.div_add_mod' r s
      obtain ⟨k, hk'⟩ : ∃ k, r / s = k := ⟨_, rfl⟩
      obtain ⟨m, hm'⟩ : ∃ m, r % s = m := ⟨_, rfl⟩
      rw [hk'] at HN hd hk hm hdm
      rw [hm'] at HN hdm
      obtain ⟨p, hp⟩ : ∃ p, k * s = p := ⟨_, rfl⟩
      rw [hp] at hm hdm
      have hb : (r : Int) - (p : Int) = (m : Int) := by omega
      have HM : Hid (∀ w', Calls Tryz.prog 90 #[.int .i64 q, .int .i64 k, .int .i64 y] w' fun e w2 => e = .returned (.int .i64 ((mulN q (k : Int) (y : Int) : Nat) : Int)) ∧ Kept [] w' w2) := fun w' => fmul_any q k y w' (by omega) h3 ⟨by omega, by omega⟩ ⟨by omega, by omega⟩
      have lm := ltMul q (k : Int) (y : Int) (by omega)
      obtain ⟨M, hM⟩ : ∃ M, mulN q (k : Int) (y : Int) = M := ⟨_, rfl⟩
      rw [hM] at HM HN lm
      have HS : Hid (∀ w', Calls Tryz.prog 217 #[.int .i64 q, .int .i64 x, .int .i64 M] w' fun e w2 => e = .returned (.int .i64 ((subN q (x : Int) (M : Int) : Nat) : Int)) ∧ Kept [] w' w2) := fun w' => fsub_any q x M w' (by omega) h3 ⟨by omega, by omega⟩ ⟨by omega, by omega⟩
      obtain ⟨S, hS⟩ : ∃ S, subN q (x : Int) (M : Int) = S := ⟨_, rfl⟩
      rw [hS] at HS HN
      have hlt : m < s := by rw [← hm']; exact Nat.mod_lt _ (by omega)
      clear hI hk' hm' hp hM hS hdm
      go_wp2_with (go_at_call 90; refine (HM.out _).mono ?_)
      rintro e w2 ⟨rfl, k2⟩
      go_wp2_with (go_at_call 217; refine (HS.out _).mono ?_)
      rintro e w3 ⟨rfl, k3⟩
      go_wp2_with fail
      go_roundw
      case rel => exact ⟨s, m, y, S, rfl, by go_num, rfl, rfl, HN.out, hkr.trans (k2.trans k3)⟩
      case measure => simp [intOf]; omega
end Go.Proofs.YtcidfldeiklcjaaGreatDoor
namespace Go.Proofs.YtcidfldeiklcjaaGreatDoor
open Go.RowKit

theorem inv_one_ (q : Nat) (a : Int) {u v : Nat} (hu : u < q) (hv : v < q) (cu : Itp.Cg q (u * a) 1) (cv : Itp.Cg q (v * a) 1) : u = v := by
  obtain ⟨s, hs⟩ := cu
  obtain ⟨t, ht⟩ := cv
  have : Itp.Cg q (u : Int) (v : Int) := ⟨v * s - u * t, by grind⟩
  have := this.eq_of_lt (by omega) (by omega) (by omega) (by omega)
  omega
theorem finv_u (q : Nat) (a : Int) (u : Nat) (w : World) (h2 : 2 ≤ q) (h3 : q < 2305843009213693952) (ha : Wire.I64 a) (hg : Nat.gcd q (res q a) = 1) (hu : u < q) (hc : Itp.Cg q (u * a) 1) :
    Calls Tryz.prog 187 #[.int .i64 q, .int .i64 a] w fun e w' => e = .returned (.tuple #[.int .i64 (u : Int), .bool true]) ∧ Kept [] w w' :=
  (finv_any q a w h2 h3 ha hg).mono fun e w' ⟨⟨v, he, hv, cv⟩, k⟩ => ⟨by rw [inv_one_ q a hu hv hc cv]; exact he, k⟩
end Go.Proofs.YtcidfldeiklcjaaGreatDoor
