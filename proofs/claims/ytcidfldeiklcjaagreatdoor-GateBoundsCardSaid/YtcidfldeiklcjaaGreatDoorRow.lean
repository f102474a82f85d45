/- The methods of row: next, count (show, proof); list, ticket, spend (show). -/
import Derived.Test.YtcidfldeiklcjaaGreatDoorFmp
import Derived.Test.YtcidfldeiklcjaaGreatDoorFewT
import Derived.Test.YtcidfldeiklcjaaGreatDoorEbd
import Derived.Test.YtcidfldeiklcjaaGreatDoorStb
/- JOINED: Etk Row -/
/- The encoding of a task: EncodeTask. -/
namespace Go.Proofs.YtcidfldeiklcjaaGreatDoor
open Go.RowKit Tape

theorem row5e (w : World) (x y z u s : Int) (T : TypeId) : Row (w.alloc (.cells #[.int .i64 x, .int .i64 y, .int .i64 z, .int .i64 u, .int .i64 s] T)) 1 (.slice (some ⟨w.heap.size, 0, none⟩) 5 5) 5 (ints [x, y, z, u, s]) := by
  refine ⟨rfl, by omega, _, _, rfl, by omega, fun _ => ⟨_, _, rfl, fun k v hv => ?_⟩⟩
  rw [Nat.zero_add]
  have := (Blk.new w T #[.int .i64 x, .int .i64 y, .int .i64 z, .int .i64 u, .int .i64 s]).cell k
  rw [this]
  simpa [ints] using hv
abbrev tskA (t : Tsk) (pa va : Value) : Array Value := #[.int .i64 t.version, .string ⟨t.question.toArray⟩, pa, .int .i64 t.most, va, .int .i64 t.dare, .int .i64 t.quorum, .int .i64 t.jurors]

set_option maxRecDepth 100000 in
set_option maxHeartbeats 2000000 in
theorem encTask_any (t : Tsk) (pa va : Value) (w : World) (hT : TskS w pa va t) (hB : Dt.TkB (head5 t) t.question t.revoked t.passes) (hE : Env w) :
    Calls Tryz.prog 132 #[.agg (tskA t pa va)] w fun e w' => e = .returned (.string ⟨(Dt.taskE (head5 t) t.question t.revoked t.passes).toArray⟩) ∧ Kept [] w w' := by
  obtain ⟨hps, hrv⟩ := hT
  obtain ⟨ap, cp, rfl, _, hcp⟩ := RowOf.form hps
  obtain ⟨W, hW⟩ : ∃ W, w.alloc (.cells (tskA t (.slice ap t.passes.length cp) va) 88) = W := ⟨_, rfl⟩
  have hb : Blk W w.heap.size 88 (tskA t (.slice ap t.passes.length cp) va) := hW ▸ Blk.new _ _ _
  have hkW : Kept [] w W := hW ▸ (Kept.refl _ _).alloc _
  have hEW := hE.kept0 hkW
  have k0 : ∀ w', Kept [] W w' → w'.cell? ⟨w.heap.size, 0, none⟩ = some (.int .i64 t.version) := Kept.cellOf (hb.cell 0)
  have k1 : ∀ w', Kept [] W w' → w'.cell? ⟨w.heap.size, 1, none⟩ = some (.string ⟨t.question.toArray⟩) := Kept.cellOf (hb.cell 1)
  have k2 : ∀ w', Kept [] W w' → w'.cell? ⟨w.heap.size, 2, none⟩ = some (.slice ap t.passes.length cp) := Kept.cellOf (hb.cell 2)
  have k3 : ∀ w', Kept [] W w' → w'.cell? ⟨w.heap.size, 3, none⟩ = some (.int .i64 t.most) := Kept.cellOf (hb.cell 3)
  have k4 : ∀ w', Kept [] W w' → w'.cell? ⟨w.heap.size, 4, none⟩ = some va := Kept.cellOf (hb.cell 4)
  have k5 : ∀ w', Kept [] W w' → w'.cell? ⟨w.heap.size, 5, none⟩ = some (.int .i64 t.dare) := Kept.cellOf (hb.cell 5)
  have k6 : ∀ w', Kept [] W w' → w'.cell? ⟨w.heap.size, 6, none⟩ = some (.int .i64 t.quorum) := Kept.cellOf (hb.cell 6)
  have k7 : ∀ w', Kept [] W w' → w'.cell? ⟨w.heap.size, 7, none⟩ = some (.int .i64 t.jurors) := Kept.cellOf (hb.cell 7)
  have K2 := Lib.hid k2
  have hrvW := hrv.kept hkW
  have HPS := Lib.hid (RowOf.kept hps (fun _ _ x => PssR.kept x hkW) hkW)
  have b1 := hB.q
  have b2 := hB.rl
  have b3 := hB.rt
  have b4 := hB.pl
  have b5 := hB.pt
  have H5 : Hid (∀ x ∈ [t.version, t.most, t.dare, t.quorum, t.jurors], Wire.I64 x) := hB.h5
  have HB := Lib.hid hB
  have l0 : (Wire.numsE [t.version, t.most, t.dare, t.quorum, t.jurors]).length ≤ 1000 := by
    have h1 := flat_len _ H5.out
    have h2 := Wire.itoa_len ((5 : Nat) : Int) ⟨by omega, by omega⟩
    simp only [Wire.numsE, Wire.listE, List.length_append, List.length_cons, List.length_nil] at h1 h2 ⊢
    simp only [show (0 + 1 + 1 + 1 + 1 + 1 : Nat) = 5 from rfl] at *
    omega
  have l1 := textE_len t.question (by omega)
  have l2 := intE_len (t.passes.length : Int) ⟨by omega, by omega⟩
  obtain ⟨A, hA⟩ : ∃ A, Wire.numsE [t.version, t.most, t.dare, t.quorum, t.jurors] = A := ⟨_, rfl⟩
  obtain ⟨B, hBq⟩ : ∃ B, Wire.textE t.question = B := ⟨_, rfl⟩
  obtain ⟨C, hC⟩ : ∃ C, Wire.numsE t.revoked = C := ⟨_, rfl⟩
  obtain ⟨D, hD⟩ : ∃ D, Wire.intE (t.passes.length : Int) = D := ⟨_, rfl⟩
  rw [hA] at l0
  rw [hBq] at l1
  rw [hC] at b3
  rw [hD] at l2
  have N1 : Hid (∀ w' v, Kept [] W w' → Row w' 1 v 5 (ints [t.version, t.most, t.dare, t.quorum, t.jurors]) → Calls Tryz.prog 84 #[v] w' fun e w2 => e = .returned (.string ⟨A.toArray⟩) ∧ Kept [] w' w2) := fun w' v kk hr => by
    have := nums_any v [t.version, t.most, t.dare, t.quorum, t.jurors] w' hr (hEW.kept0 kk) (by simp) H5.out
    rwa [hA] at this
  have N2 : Hid (∀ w', Kept [] W w' → Calls Tryz.prog 84 #[va] w' fun e w2 => e = .returned (.string ⟨C.toArray⟩) ∧ Kept [] w' w2) := fun w' kk => by
    have := nums_any va t.revoked w' (hrvW.kept kk) (hEW.kept0 kk) b2 HB.out.ri
    rwa [hC] at this
  have T1 : Hid (∀ w', Kept [] W w' → Calls Tryz.prog 85 #[.string ⟨t.question.toArray⟩] w' fun e w2 => e = .returned (.string ⟨B.toArray⟩) ∧ Kept [] w' w2) := fun w' kk => by
    have := text_any t.question w' (by omega) (hEW.kept0 kk)
    rwa [hBq] at this
  have I1 : Hid (∀ w', Kept [] W w' → Calls Tryz.prog 57 #[.int .i64 t.passes.length] w' fun e w2 => e = .returned (.string ⟨D.toArray⟩) ∧ Kept [] w' w2) := fun w' kk => by
    have := num_any (t.passes.length : Int) w' ⟨by omega, by omega⟩ (by omega) (hEW.kept0 kk)
    rwa [hD] at this
  have s1 : ¬ 9223372036854775807 < A.length + B.length := by omega
  have s2 : ¬ 9223372036854775807 < A.length + (B.length + C.length) := by omega
  have s2' : ¬ 9223372036854775807 < A.length + B.length + C.length := by omega
  have s3 : ¬ 9223372036854775807 < A.length + (B.length + (C.length + D.length)) := by omega
  have s3' : ¬ 9223372036854775807 < A.length + (B.length + C.length) + D.length := by omega
  have s3'' : ¬ 9223372036854775807 < A.length + B.length + C.length + D.length := by omega
  obtain ⟨H, hH⟩ : ∃ H, A ++ (B ++ (C ++ D)) = H := ⟨_, rfl⟩
  have HH := Lib.hid hH
  have lH : H.length ≤ 300000000 := by rw [← hH]; simp only [List.length_append]; omega
  have HF : Hid (Dt.taskE (head5 t) t.question t.revoked t.passes = H ++ t.passes.flatMap Dt.pssE) := by
    show _ = _
    unfold Dt.taskE head5
    rw [hA, hBq, hC, hD, ← hH]
    simp
  have HEW := Lib.hid hEW
  have HKW := Lib.hid hkW
  clear l0 l1 l2 hA hBq hC hD hB b1 b2 b3 hb hps hrv hrvW hE hH hEW hkW
  have hcat := bcat
  have HW := Lib.hid hW
  clear hW
  show Calls _ _ #[.agg #[.int .i64 t.version, .string ⟨t.question.toArray⟩, .slice ap t.passes.length cp, .int .i64 t.most, va, .int .i64 t.dare, .int .i64 t.quorum, .int .i64 t.jurors]] _ _
  go_enter Tryz.func132, Tryz.ntmps132
  go_wp2_with fail
  have hW' : w.alloc (.cells #[.int .i64 t.version, .string ⟨t.question.toArray⟩, .slice ap t.passes.length cp, .int .i64 t.most, va, .int .i64 t.dare, .int .i64 t.quorum, .int .i64 t.jurors] 88) = W := HW.out
  rw [hW']
  clear hW'
  go_region_held3 (fun w' => Kept [] W w') (first | assumption | exact (Kept.refl _ _).drew | exact Kept.alloc (by assumption) _)
    (first
      | (go_at_call_of 84 va; with_reducible refine (kept_from (W := W) (by assumption) (N2.out _ (by assumption))).mono ?_; rintro e2 w2 ⟨rfl, hk2⟩)
      | (go_at_call 84; refine (kept_from (W := W) (by assumption) (N1.out _ _ (by assumption) (by exact (row5e _ _ _ _ _ _ _).drew))).mono ?_; rintro e2 w2 ⟨rfl, hk2⟩)
      | (go_at_call 85; with_reducible refine (kept_from (W := W) (by assumption) (T1.out _ (by assumption))).mono ?_; rintro e2 w3 ⟨rfl, hk3⟩)
      | (go_at_call 57; with_reducible refine (kept_from (W := W) (by assumption) (I1.out _ (by assumption))).mono ?_; rintro e2 w4 ⟨rfl, hk4⟩))
  have hcat4 : Hid ((A ++ (B ++ (C ++ D))) = H) := HH
  have c2 := K2.out w4 hk4
  clear k0 k1 k2 k3 k4 k5 k6 k7 N1 N2 T1 I1 s1 s2 s2' s3 s3' s3''
  go_wp2_with fail
  clear c2
  have HK4 := Lib.hid hk4
  clear hk4
  go_loopw [3, 5, 34] (fun o _ i wr => ∃ k : Nat, k ≤ t.passes.length ∧ i = .int .i64 k ∧ o = .string ⟨(H ++ (t.passes.take k).flatMap Dt.pssE).toArray⟩ ∧ Kept [] W wr) (fun _ _ i _ => t.passes.length - (intOf i).toNat)
  case atStart => exact ⟨0, Nat.zero_le _, rfl, by rw [← hcat4.out]; simp, HK4.out⟩
  case round =>
    obtain ⟨k, hk, rfl, rfl, hkr⟩ := hrel
    have HKR := Lib.hid hkr
    clear hkr
    by_cases hlt : k < t.passes.length
    · obtain ⟨pb, po, rfl, hcell⟩ := (RowOf.kept HPS.out (fun _ _ x => PssR.kept x HKR.out) HKR.out).at_ (by omega)
      obtain ⟨cs, hcl, ⟨av, gv, rfl, hra, hrg⟩, hc⟩ := hcell k _ (List.getElem?_eq_getElem hlt)
      obtain ⟨P, hP⟩ : ∃ P, t.passes[k] = P := ⟨_, rfl⟩
      rw [hP] at hra hrg hc
      have x0 := hc 0 _ (by omega) rfl
      have x1 := hc 1 _ (by omega) rfl
      have x2 := hc 2 _ (by omega) rfl
      have x3 := hc 3 _ (by omega) rfl
      simp only [Nat.add_zero, ← Nat.add_assoc] at x0 x1 x2 x3
      have HF1 : Hid ((t.passes.take (k + 1)).flatMap Dt.pssE = (t.passes.take k).flatMap Dt.pssE ++ Dt.pssE P) := by
        show _ = _
        rw [List.take_succ_eq_append_getElem hlt, List.flatMap_append, hP]
        simp
      have hPm : P ∈ t.passes := hP ▸ List.getElem_mem hlt
      have hlt1 : ((t.passes.take (k + 1)).flatMap Dt.pssE).length ≤ 100000000 := by
        have h1 := HB.out.pt
        rw [← List.take_append_drop (k + 1) t.passes, List.flatMap_append, List.length_append] at h1
        omega
      rw [HF1.out, List.length_append] at hlt1
      have hPl := Dt.pssE_len P
      have hPe : Dt.pssE P = Wire.textE P.name ++ (Wire.intE P.pub ++ (Wire.textsE P.attrs ++ Wire.numsE P.guests)) := rfl
      have hPk := HB.out.pk P hPm
      obtain ⟨F, hF⟩ : ∃ F, (t.passes.take k).flatMap Dt.pssE = F := ⟨_, rfl⟩
      rw [hF] at hlt1 HF1 ⊢
      have l1 := textE_len P.name (by omega)
      obtain ⟨A1, hA1⟩ : ∃ A, Wire.textE P.name = A := ⟨_, rfl⟩
      obtain ⟨B1, hB1⟩ : ∃ B, Wire.intE P.pub = B := ⟨_, rfl⟩
      obtain ⟨C1, hC1⟩ : ∃ C, Wire.textsE P.attrs = C := ⟨_, rfl⟩
      obtain ⟨D1, hD1⟩ : ∃ D, Wire.numsE P.guests = D := ⟨_, rfl⟩
      rw [hA1, hB1, hC1, hD1] at hPe
      have hPel := congrArg List.length hPe
      simp only [List.length_append] at hPel
      have s1 : ¬ 9223372036854775807 < A1.length + B1.length := by omega
      have s2 : ¬ 9223372036854775807 < A1.length + (B1.length + C1.length) := by omega
      have s2' : ¬ 9223372036854775807 < A1.length + B1.length + C1.length := by omega
      have s3 : ¬ 9223372036854775807 < A1.length + (B1.length + (C1.length + D1.length)) := by omega
      have s3' : ¬ 9223372036854775807 < A1.length + (B1.length + C1.length) + D1.length := by omega
      have s3'' : ¬ 9223372036854775807 < A1.length + B1.length + C1.length + D1.length := by omega
      have s4 : ¬ 9223372036854775807 < H.length + (F.length + (A1.length + (B1.length + (C1.length + D1.length)))) := by omega
      have s4' : ¬ 9223372036854775807 < H.length + F.length + (A1.length + (B1.length + (C1.length + D1.length))) := by omega
      obtain ⟨ava, avc, rfl, _, _⟩ := hra.form
      obtain ⟨gva, gvc, rfl, _, _⟩ := hrg.form
      have HRA := Lib.hid hra
      have HRG := Lib.hid hrg
      have HPK := Lib.hid hPk
      have HPE := Lib.hid hPe
      have HER : Hid (Env wr) := Lib.hid (HEW.out.kept0 HKR.out)
      have pl1 := hPl.1
      have pl2 := hPl.2.1
      have pl3 := hPl.2.2.1
      have pl4 := hPl.2.2.2
      have T1 : Hid (∀ w', Kept [] wr w' → Calls Tryz.prog 85 #[.string ⟨P.name.toArray⟩] w' fun e w2 => e = .returned (.string ⟨A1.toArray⟩) ∧ Kept [] w' w2) := fun w' kk => by
        have := text_any P.name w' (by omega) (HER.out.kept0 kk)
        rwa [hA1] at this
      have I1 : Hid (∀ w', Kept [] wr w' → Calls Tryz.prog 93 #[.int .i64 P.pub] w' fun e w2 => e = .returned (.string ⟨B1.toArray⟩) ∧ Kept [] w' w2) := fun w' kk => by
        have := int_any P.pub w' HPK.out.pub (HER.out.kept0 kk)
        rwa [hB1] at this
      have X1 : Hid (∀ w', Kept [] wr w' → Calls Tryz.prog 175 #[.slice ava P.attrs.length avc] w' fun e w2 => e = .returned (.string ⟨C1.toArray⟩) ∧ Kept [] w' w2) := fun w' kk => by
        have := texts_anyB _ P.attrs w' (HRA.out.kept kk) (HER.out.kept0 kk) (by omega) (by omega)
        rwa [hC1] at this
      have N1 : Hid (∀ w', Kept [] wr w' → Calls Tryz.prog 84 #[.slice gva P.guests.length gvc] w' fun e w2 => e = .returned (.string ⟨D1.toArray⟩) ∧ Kept [] w' w2) := fun w' kk => by
        have := nums_any _ P.guests w' (HRG.out.kept kk) (HER.out.kept0 kk) (by omega) HPK.out.gs
        rwa [hD1] at this
      clear hPl hPe hPel hra hrg hPk hPm hA1 hB1 hC1 hD1 hF hP hc hcell hcl l1 hlt1 pl1 pl2 pl3 pl4
      go_upto_region 5 with (fail)
      obtain ⟨W1, hW1⟩ : ∃ W1, wr.alloc (.cells #[.string ⟨P.name.toArray⟩, .int .i64 P.pub, .slice ava P.attrs.length avc, .slice gva P.guests.length gvc] 123) = W1 := ⟨_, rfl⟩
      have hbp : Blk W1 wr.heap.size 123 #[.string ⟨P.name.toArray⟩, .int .i64 P.pub, .slice ava P.attrs.length avc, .slice gva P.guests.length gvc] := hW1 ▸ Blk.new _ _ _
      have hk1 : Kept [] wr W1 := hW1 ▸ (Kept.refl _ _).alloc _
      rw [hW1]
      clear x0 x1 x2 x3 hW1
      have y0 : ∀ w', Kept [] W1 w' → w'.cell? ⟨wr.heap.size, 0, none⟩ = some (.string ⟨P.name.toArray⟩) := Kept.cellOf (hbp.cell 0)
      have y1 : ∀ w', Kept [] W1 w' → w'.cell? ⟨wr.heap.size, 1, none⟩ = some (.int .i64 P.pub) := Kept.cellOf (hbp.cell 1)
      have y2 : ∀ w', Kept [] W1 w' → w'.cell? ⟨wr.heap.size, 2, none⟩ = some (.slice ava P.attrs.length avc) := Kept.cellOf (hbp.cell 2)
      have y3 : ∀ w', Kept [] W1 w' → w'.cell? ⟨wr.heap.size, 3, none⟩ = some (.slice gva P.guests.length gvc) := Kept.cellOf (hbp.cell 3)
      clear hbp
      go_region_held3 (fun w' => Kept [] W1 w') (first | assumption | exact (Kept.refl _ _).drew | exact Kept.alloc (by assumption) _)
        (first
          | (go_at_call 85; with_reducible refine (kept_from (W := W1) (by assumption) (T1.out _ (hk1.trans (by assumption)))).mono ?_; rintro e2 w3 ⟨rfl, hk3⟩)
          | (go_at_call 93; with_reducible refine (kept_from (W := W1) (by assumption) (I1.out _ (hk1.trans (by assumption)))).mono ?_; rintro e2 w3 ⟨rfl, hk3⟩)
          | (go_at_call 175; with_reducible refine (kept_from (W := W1) (by assumption) (X1.out _ (hk1.trans (by assumption)))).mono ?_; rintro e2 w3 ⟨rfl, hk3⟩)
          | (go_at_call 84; with_reducible refine (kept_from (W := W1) (by assumption) (N1.out _ (hk1.trans (by assumption)))).mono ?_; rintro e2 w6 ⟨rfl, hk6⟩))
      have HK6 := Lib.hid (HKR.out.trans (hk1.trans hk6))
      clear y0 y1 y2 y3 T1 I1 X1 N1 s1 s2 s2' s3 s3' s3'' s4 s4' hk1
      go_wp2_with fail
      go_roundw
      case rel => exact ⟨k + 1, by omega, by go_num, by rw [HF1.out, HPE.out], HK6.out⟩
      case measure => simp [intOf]; omega
    · have hk' : Hid (k = t.passes.length) := Lib.hid (by omega)
      go_wp2_with fail
      go_ret
      exact ⟨by rw [HF.out, hk'.out, List.take_length]; rfl, HKW.out.trans HKR.out⟩
end Go.Proofs.YtcidfldeiklcjaaGreatDoor
namespace Go.Proofs.YtcidfldeiklcjaaGreatDoor
open Go.RowKit Tape

/-- what a reader leaves -/
def ReadP (T : TypeId) (b g : Nat) (v : Value) (r : Tp) (w : World) (e : Ending) (w' : World) : Prop := e = .returned v ∧ TpAt T w' b g r ∧ Kept [b] w w'

theorem count_of {r r1 : Tp} {n : Int} (hq : next r = (n, r1)) : (n < 0 → count r = (0, ⟨r1.left, true⟩)) ∧ (0 ≤ n → (r1.left.length : Int) < n → count r = (0, ⟨r1.left, true⟩)) ∧ (0 ≤ n → n ≤ r1.left.length → count r = (n.toNat, r1)) := by
  unfold count
  rw [hq]
  simp only
  exact ⟨fun h => if_pos (Or.inl h), fun _ h => if_pos (Or.inr h), fun h1 h2 => if_neg (by omega)⟩

set_option maxRecDepth 100000 in
set_option maxHeartbeats 1000000 in
theorem srow_next (b g : Nat) (r : Tp) (w : World) (h : TpAt 174 w b g r) :
    Calls Tryz.prog 178 #[.pointer (some ⟨b, 0, none⟩)] w (ReadP 174 b g (.int .i64 (next r).1) (next r).2 w) := by
  obtain ⟨⟨a, c, hb, hs⟩, hne⟩ := h
  obtain ⟨l, bd⟩ := r
  have f0 := hb.frozen 0
  have f1 := hb.frozen 1
  have HN : Hid (g ∉ [b]) := by show g ∉ [b]; simp; omega
  rcases l with _ | ⟨n, t⟩
  · have c0 : w.cell? ⟨b, 0, none⟩ = some (.slice a 0 c) := hb.cell 0
    have c1 : w.cell? ⟨b, 1, none⟩ = some (.bool bd) := hb.cell 1
    have HB := Lib.hid hb
    have HS := Lib.hid hs
    clear hb hs
    go_enter Tryz.func178, Tryz.ntmps178
    go_wp2
    go_ret
    rw [show next ⟨[], bd⟩ = (0, ⟨[], true⟩) from rfl]
    exact ⟨rfl, ⟨⟨a, c, by simpa using HB.out.set_ 1 (.bool true), (HS.out.keep (S := [b]) ((Kept.refl _ _).setCell (by simp) _) HN.out)⟩, hne⟩, (Kept.refl _ _).setCell (by simp) _⟩
  · have HS := Lib.hid hs
    have HB := Lib.hid hb
    have hcl : t.length + 1 ≤ c := hs.1
    have hml : t.length + 1 ≤ 9223372036854775807 := hs.2.1
    obtain ⟨off, rfl, hc⟩ := hs.2.2 (by simp)
    have c0 : w.cell? ⟨b, 0, none⟩ = some (.slice (some ⟨g, off, none⟩) (t.length + 1) c) := hb.cell 0
    have x0 : w.cell? ⟨g, off, none⟩ = some (.int .i64 n) := by simpa using hc 0 n rfl
    clear hb hs hc
    obtain ⟨L, hL⟩ : ∃ L, t.length = L := ⟨_, rfl⟩
    have HL := Lib.hid hL
    rw [hL] at hcl hml c0
    clear hL
    by_cases h1 : c = 1
    · subst h1
      obtain rfl : L = 0 := by omega
      go_enter Tryz.func178, Tryz.ntmps178
      go_wp2
      go_ret
      have ht : t = [] := List.eq_nil_of_length_eq_zero HL.out
      subst ht
      rw [show next ⟨[n], bd⟩ = (n, ⟨[], bd⟩) from rfl]
      exact ⟨rfl, ⟨⟨_, 0, by simpa using HB.out.set_ 0 (.slice (some ⟨g, off, none⟩) 0 0), Src.empty _ _ _ _⟩, hne⟩, (Kept.refl _ _).setCell (by simp) _⟩
    · go_enter Tryz.func178, Tryz.ntmps178
      go_wp2
      go_ret
      rw [show next ⟨n :: t, bd⟩ = (n, ⟨t, bd⟩) from rfl]
      refine ⟨rfl, ⟨⟨some ⟨g, off + 1, none⟩, c - 1, ?_, ?_⟩, hne⟩, (Kept.refl _ _).setCell (by simp) _⟩
      · have := HB.out.set_ 0 (.slice (some ⟨g, off + 1, none⟩) L (c - 1))
        show Blk _ _ _ #[.slice _ t.length _, _]
        rw [HL.out]
        simpa using this
      · exact (HS.out.keep (S := [b]) ((Kept.refl _ _).setCell (by simp) _) HN.out).drop 1 (by simp) (some ⟨g, off + 1, none⟩) (fun _ o ho => by injection ho with ho; injection ho with _ ho; subst ho; rfl)

set_option maxRecDepth 100000 in
set_option maxHeartbeats 1000000 in
theorem srow_count (b g : Nat) (r : Tp) (w : World) (h : TpAt 174 w b g r) :
    Calls Tryz.prog 134 #[.pointer (some ⟨b, 0, none⟩)] w (ReadP 174 b g (.int .i64 ((count r).1 : Nat)) (count r).2 w) := by
  have HC := Lib.hid (srow_next b g r w h)
  obtain ⟨n, r1, hq⟩ : ∃ n r1, next r = (n, r1) := ⟨_, _, rfl⟩
  have HQ := Lib.hid (count_of hq)
  rw [hq] at HC
  clear hq h
  go_enter Tryz.func134, Tryz.ntmps134
  go_wp2_with (go_at_call 178; refine HC.out.mono ?_)
  rintro e w1 ⟨rfl, h1, k1⟩
  have H1 := Lib.hid h1
  obtain ⟨⟨a, c, hb, hs⟩, hne⟩ := h1
  have c0 := hb.cell 0
  have f1 := hb.frozen 1
  have hml := hs.2.1
  have HN : Hid (g ∉ [b]) := by show g ∉ [b]; simp; omega
  have HB := Lib.hid hb
  have HS := Lib.hid hs
  have HK := Lib.hid k1
  clear hb hs HC k1
  obtain ⟨l, bd⟩ := r1
  replace c0 : w1.cell? ⟨b, 0, none⟩ = some (.slice a l.length c) := c0
  have c1 : w1.cell? ⟨b, 1, none⟩ = some (.bool bd) := HB.out.cell 1
  replace hml : l.length ≤ 9223372036854775807 := hml
  by_cases hn : n < 0
  · have e1 := Lib.hid (HQ.out.1 hn)
    clear HQ
    go_wp2
    go_ret
    rw [e1.out]
    exact ⟨rfl, ⟨⟨a, c, by simpa using HB.out.set_ 1 (.bool true), HS.out.keep (S := [b]) ((Kept.refl _ _).setCell (by simp) _) HN.out⟩, hne⟩, HK.out.setCell (by simp) _⟩
  · by_cases hl : (l.length : Int) < n
    · have e1 := Lib.hid (HQ.out.2.1 (by omega) hl)
      clear HQ
      go_wp2
      go_ret
      rw [e1.out]
      exact ⟨rfl, ⟨⟨a, c, by simpa using HB.out.set_ 1 (.bool true), HS.out.keep (S := [b]) ((Kept.refl _ _).setCell (by simp) _) HN.out⟩, hne⟩, HK.out.setCell (by simp) _⟩
    · have e1 := Lib.hid (HQ.out.2.2 (by omega) (by simpa using hl))
      have hle : n ≤ (l.length : Int) := by omega
      clear HQ
      go_wp2
      go_ret
      rw [e1.out]
      refine ⟨?_, H1.out, HK.out⟩
      show Ending.returned (.int .i64 n) = .returned (.int .i64 (n.toNat : Int))
      rw [Int.toNat_of_nonneg (by omega)]

set_option maxRecDepth 100000 in
set_option maxHeartbeats 1000000 in
theorem prow_next (b g : Nat) (r : Tp) (w : World) (h : TpAt 210 w b g r) :
    Calls Tryz.prog 177 #[.pointer (some ⟨b, 0, none⟩)] w (ReadP 210 b g (.int .i64 (next r).1) (next r).2 w) := by
  obtain ⟨⟨a, c, hb, hs⟩, hne⟩ := h
  obtain ⟨l, bd⟩ := r
  have f0 := hb.frozen 0
  have f1 := hb.frozen 1
  have HN : Hid (g ∉ [b]) := by show g ∉ [b]; simp; omega
  rcases l with _ | ⟨n, t⟩
  · have c0 : w.cell? ⟨b, 0, none⟩ = some (.slice a 0 c) := hb.cell 0
    have c1 : w.cell? ⟨b, 1, none⟩ = some (.bool bd) := hb.cell 1
    have HB := Lib.hid hb
    have HS := Lib.hid hs
    clear hb hs
    go_enter Tryz.func177, Tryz.ntmps177
    go_wp2
    go_ret
    rw [show next ⟨[], bd⟩ = (0, ⟨[], true⟩) from rfl]
    exact ⟨rfl, ⟨⟨a, c, by simpa using HB.out.set_ 1 (.bool true), (HS.out.keep (S := [b]) ((Kept.refl _ _).setCell (by simp) _) HN.out)⟩, hne⟩, (Kept.refl _ _).setCell (by simp) _⟩
  · have HS := Lib.hid hs
    have HB := Lib.hid hb
    have hcl : t.length + 1 ≤ c := hs.1
    have hml : t.length + 1 ≤ 9223372036854775807 := hs.2.1
    obtain ⟨off, rfl, hc⟩ := hs.2.2 (by simp)
    have c0 : w.cell? ⟨b, 0, none⟩ = some (.slice (some ⟨g, off, none⟩) (t.length + 1) c) := hb.cell 0
    have x0 : w.cell? ⟨g, off, none⟩ = some (.int .i64 n) := by simpa using hc 0 n rfl
    clear hb hs hc
    obtain ⟨L, hL⟩ : ∃ L, t.length = L := ⟨_, rfl⟩
    have HL := Lib.hid hL
    rw [hL] at hcl hml c0
    clear hL
    by_cases h1 : c = 1
    · subst h1
      obtain rfl : L = 0 := by omega
      go_enter Tryz.func177, Tryz.ntmps177
      go_wp2
      go_ret
      have ht : t = [] := List.eq_nil_of_length_eq_zero HL.out
      subst ht
      rw [show next ⟨[n], bd⟩ = (n, ⟨[], bd⟩) from rfl]
      exact ⟨rfl, ⟨⟨_, 0, by simpa using HB.out.set_ 0 (.slice (some ⟨g, off, none⟩) 0 0), Src.empty _ _ _ _⟩, hne⟩, (Kept.refl _ _).setCell (by simp) _⟩
    · go_enter Tryz.func177, Tryz.ntmps177
      go_wp2
      go_ret
      rw [show next ⟨n :: t, bd⟩ = (n, ⟨t, bd⟩) from rfl]
      refine ⟨rfl, ⟨⟨some ⟨g, off + 1, none⟩, c - 1, ?_, ?_⟩, hne⟩, (Kept.refl _ _).setCell (by simp) _⟩
      · have := HB.out.set_ 0 (.slice (some ⟨g, off + 1, none⟩) L (c - 1))
        show Blk _ _ _ #[.slice _ t.length _, _]
        rw [HL.out]
        simpa using this
      · exact (HS.out.keep (S := [b]) ((Kept.refl _ _).setCell (by simp) _) HN.out).drop 1 (by simp) (some ⟨g, off + 1, none⟩) (fun _ o ho => by injection ho with ho; injection ho with _ ho; subst ho; rfl)

set_option maxRecDepth 100000 in
set_option maxHeartbeats 1000000 in
theorem prow_count (b g : Nat) (r : Tp) (w : World) (h : TpAt 210 w b g r) :
    Calls Tryz.prog 176 #[.pointer (some ⟨b, 0, none⟩)] w (ReadP 210 b g (.int .i64 ((count r).1 : Nat)) (count r).2 w) := by
  have HC := Lib.hid (prow_next b g r w h)
  obtain ⟨n, r1, hq⟩ : ∃ n r1, next r = (n, r1) := ⟨_, _, rfl⟩
  have HQ := Lib.hid (count_of hq)
  rw [hq] at HC
  clear hq h
  go_enter Tryz.func176, Tryz.ntmps176
  go_wp2_with (go_at_call 177; refine HC.out.mono ?_)
  rintro e w1 ⟨rfl, h1, k1⟩
  have H1 := Lib.hid h1
  obtain ⟨⟨a, c, hb, hs⟩, hne⟩ := h1
  have c0 := hb.cell 0
  have f1 := hb.frozen 1
  have hml := hs.2.1
  have HN : Hid (g ∉ [b]) := by show g ∉ [b]; simp; omega
  have HB := Lib.hid hb
  have HS := Lib.hid hs
  have HK := Lib.hid k1
  clear hb hs HC k1
  obtain ⟨l, bd⟩ := r1
  replace c0 : w1.cell? ⟨b, 0, none⟩ = some (.slice a l.length c) := c0
  have c1 : w1.cell? ⟨b, 1, none⟩ = some (.bool bd) := HB.out.cell 1
  replace hml : l.length ≤ 9223372036854775807 := hml
  by_cases hn : n < 0
  · have e1 := Lib.hid (HQ.out.1 hn)
    clear HQ
    go_wp2
    go_ret
    rw [e1.out]
    exact ⟨rfl, ⟨⟨a, c, by simpa using HB.out.set_ 1 (.bool true), HS.out.keep (S := [b]) ((Kept.refl _ _).setCell (by simp) _) HN.out⟩, hne⟩, HK.out.setCell (by simp) _⟩
  · by_cases hl : (l.length : Int) < n
    · have e1 := Lib.hid (HQ.out.2.1 (by omega) hl)
      clear HQ
      go_wp2
      go_ret
      rw [e1.out]
      exact ⟨rfl, ⟨⟨a, c, by simpa using HB.out.set_ 1 (.bool true), HS.out.keep (S := [b]) ((Kept.refl _ _).setCell (by simp) _) HN.out⟩, hne⟩, HK.out.setCell (by simp) _⟩
    · have e1 := Lib.hid (HQ.out.2.2 (by omega) (by simpa using hl))
      have hle : n ≤ (l.length : Int) := by omega
      clear HQ
      go_wp2
      go_ret
      rw [e1.out]
      refine ⟨?_, H1.out, HK.out⟩
      show Ending.returned (.int .i64 n) = .returned (.int .i64 (n.toNat : Int))
      rw [Int.toNat_of_nonneg (by omega)]

/-- a copy of the first ints -/
def CloneP (l : List Int) (w : World) (e : Ending) (w' : World) : Prop := ∃ a c, e = .returned (.slice a l.length c) ∧ w'.ownsRow w.heap.size 3 1 (.slice a l.length c) l.length (ints l) ∧ Kept [] w w'
theorem clone_ints (g : Nat) (a : Option Addr) (c m : Nat) (l : List Int) (w : World) (h : Src w g a c l) (hm : m ≤ l.length) (hl : l.length ≤ 1000000000) :
    Calls Tryz.prog 54 #[.slice a m c] w (CloneP (l.take m) w) := by
  have htl : (l.take m).length = m := by rw [List.length_take]; omega
  cases a with
  | none =>
    have h0 : m = 0 := by
      rcases Nat.eq_zero_or_pos m with h0 | hp
      · exact h0
      · obtain ⟨off, ha, _⟩ := h.2.2 (by omega)
        cases ha
    subst h0
    exact (Tryz.slices_Clone_int_nil 0 c w).mono fun e w' ⟨he, hw⟩ => ⟨none, 0, by simpa using he, by subst hw; simpa [ints] using World.ownsRow_nil _ _ _ _, by subst hw; exact Kept.refl _ _⟩
  | some x =>
    rcases Nat.eq_zero_or_pos m with h0 | hp
    · subst h0
      refine (Tryz.slices_Clone_int_zero x c w).mono fun e w' ⟨v, he, ho, _, hb⟩ => ?_
      obtain ⟨a', c', rfl⟩ := own_len ho (by decide)
      exact ⟨a', c', by simpa using he, by simpa [ints] using ho, Kept.of_below hb⟩
    · obtain ⟨off, ha, hc⟩ := h.2.2 (by omega)
      injection ha with ha
      subst ha
      refine (Tryz.slices_Clone_int g off m c l w hm (by omega) (fun j hj => ?_)).mono fun e w' ⟨v, he, ho, _, hb⟩ => ?_
      · rw [hc j l[j] (List.getElem?_eq_getElem hj)]
        simp [List.getD, List.getElem?_eq_getElem hj]
      · obtain ⟨a', c', rfl⟩ := own_len ho (by decide)
        exact ⟨a', c', by rw [htl]; exact he, by rw [htl]; exact ho, Kept.of_below hb⟩
end Go.Proofs.YtcidfldeiklcjaaGreatDoor
