/- inquiry.Cast. -/
import Derived.Test.YtpcdfepndmconaaGreatDoorKnu
import Derived.Test.YtpcdfepndmconaaGreatDoorSgP
namespace Go.Proofs.YtpcdfepndmconaaGreatDoor
open Go.RowKit

/-- a vote that is cast, its signature, and whether it is -/
def castN (s : Stp) (x k : Int) (t : Vote) : Vote × Int × Int × Bool :=
  if (signN s x k (ballotE t)).2.2 = true then (t, (signN s x k (ballotE t)).1, (signN s x k (ballotE t)).2.1, true) else (zeroVt, 0, 0, false)
def CastP (s : Stp) (x k : Int) (t : Vote) (w : World) (e : Ending) (w' : World) : Prop :=
  ∃ v, e = .returned (.tuple #[v, .bool (castN s x k t).2.2.2]) ∧ VoteX w' v (castN s x k t).1 (castN s x k t).2.1 (castN s x k t).2.2.1 ∧ Kept [] w w'

theorem bcell {W w1 : World} (hb : Kept [] W w1) : (∀ b o, b < W.heap.size → w1.cell? ⟨b, o, none⟩ = W.cell? ⟨b, o, none⟩) ∧ (∀ b o, b < W.heap.size → w1.frozen? ⟨b, o, none⟩ = W.frozen? ⟨b, o, none⟩) :=
  ⟨fun b o h => hb.cell (p := ⟨b, o, none⟩) h (by simp), fun b o h => hb.frozen (p := ⟨b, o, none⟩) h (by simp)⟩

set_option maxRecDepth 100000 in
set_option maxHeartbeats 4000000 in
theorem cast_any (v vt : Value) (s : Stp) (x k : Int) (t : Vote) (w : World) (hs : StpV w v s) (hx' : VoteV w vt t) (ix : Wire.I64 x) (ik : Wire.I64 k) (hr : t.reason.length ≤ 1000000) (hp : t.pts.length ≤ 900000) (hE : Env2 w) :
    Calls Tryz.prog 14 #[v, .int .i64 x, .int .i64 k, vt] w (CastP s x k t w) := by
  have hbl := ballot_len t w vt hx' hr hp
  have hs' := hs
  obtain ⟨⟨ad, c, rfl, hrow⟩, ip, iq, ig, ib, il⟩ := hs'
  obtain ⟨ps, n, c0, s0, rfl, hpr⟩ := hx'.form
  obtain ⟨pa, pc, rfl, hn1, hn2⟩ := hpr.form
  have hx : VoteX w (.agg #[.int .i64 t.juror, .int .i64 t.version, .int .i64 t.gate, .int .i64 t.no, .string ⟨t.reason.toArray⟩, .slice pa n pc, .int .i64 c0, .int .i64 s0]) t c0 s0 := ⟨⟨_, n, rfl, hpr⟩, hx'.h0, hx'.h1, hx'.h2, hx'.h3, hx'.hp⟩
  have hnp : n ≤ 300000 := by have : t.pts.length = n * 3 := by simpa [ints] using hpr.1
                              omega
  obtain ⟨W, hW⟩ : ∃ W, ((w.alloc (.cells #[.int .i64 s.P, .int .i64 s.Q, .int .i64 s.G, .slice ad s.bases.length c, .int .i64 s.blind] 26)).alloc (.cells #[.int .i64 t.juror, .int .i64 t.version, .int .i64 t.gate, .int .i64 t.no, .string ⟨t.reason.toArray⟩, .slice pa n pc, .int .i64 c0, .int .i64 s0] 35)).alloc (.cells #[.int .i64 0, .int .i64 0, .int .i64 0, .int .i64 0, .string ⟨#[]⟩, .slice none 0 0, .int .i64 0, .int .i64 0] 35) = W := ⟨_, rfl⟩
  have hbS : Blk W w.heap.size 26 #[.int .i64 s.P, .int .i64 s.Q, .int .i64 s.G, .slice ad s.bases.length c, .int .i64 s.blind] := hW ▸ ((Blk.new _ _ _).alloc _).alloc _
  have hbV : Blk W (w.heap.size + 1) 35 #[.int .i64 t.juror, .int .i64 t.version, .int .i64 t.gate, .int .i64 t.no, .string ⟨t.reason.toArray⟩, .slice pa n pc, .int .i64 c0, .int .i64 s0] := by
    have := Blk.new (w.alloc (.cells #[.int .i64 s.P, .int .i64 s.Q, .int .i64 s.G, .slice ad s.bases.length c, .int .i64 s.blind] 26)) 35 #[.int .i64 t.juror, .int .i64 t.version, .int .i64 t.gate, .int .i64 t.no, .string ⟨t.reason.toArray⟩, .slice pa n pc, .int .i64 c0, .int .i64 s0]
    rw [World.size_alloc] at this
    exact hW ▸ this.alloc _
  have hbR : Blk W (w.heap.size + 1 + 1) 35 #[.int .i64 0, .int .i64 0, .int .i64 0, .int .i64 0, .string ⟨#[]⟩, .slice none 0 0, .int .i64 0, .int .i64 0] := by
    have := Blk.new ((w.alloc (.cells #[.int .i64 s.P, .int .i64 s.Q, .int .i64 s.G, .slice ad s.bases.length c, .int .i64 s.blind] 26)).alloc (.cells #[.int .i64 t.juror, .int .i64 t.version, .int .i64 t.gate, .int .i64 t.no, .string ⟨t.reason.toArray⟩, .slice pa n pc, .int .i64 c0, .int .i64 s0] 35)) 35 #[.int .i64 0, .int .i64 0, .int .i64 0, .int .i64 0, .string ⟨#[]⟩, .slice none 0 0, .int .i64 0, .int .i64 0]
    rw [hW, World.size_alloc, World.size_alloc] at this
    exact this
  have hkW : Kept [] w W := hW ▸ (((Kept.refl _ _).alloc _).alloc _).alloc _
  have hszW : W.heap.size = w.heap.size + 3 := by rw [← hW]; simp
  have KS0 : Hid (∀ w', Kept [] W w' → w'.cell? ⟨w.heap.size, 0, none⟩ = some (.int .i64 s.P)) := Kept.cellOf (hbS.cell 0)
  have KS1 : Hid (∀ w', Kept [] W w' → w'.cell? ⟨w.heap.size, 1, none⟩ = some (.int .i64 s.Q)) := Kept.cellOf (hbS.cell 1)
  have KS2 : Hid (∀ w', Kept [] W w' → w'.cell? ⟨w.heap.size, 2, none⟩ = some (.int .i64 s.G)) := Kept.cellOf (hbS.cell 2)
  have KS3 : Hid (∀ w', Kept [] W w' → w'.cell? ⟨w.heap.size, 3, none⟩ = some (.slice ad s.bases.length c)) := Kept.cellOf (hbS.cell 3)
  have KS4 : Hid (∀ w', Kept [] W w' → w'.cell? ⟨w.heap.size, 4, none⟩ = some (.int .i64 s.blind)) := Kept.cellOf (hbS.cell 4)
  have KV0 : Hid (∀ w', Kept [] W w' → w'.cell? ⟨w.heap.size + 1, 0, none⟩ = some (.int .i64 t.juror)) := Kept.cellOf (hbV.cell 0)
  have KV1 : Hid (∀ w', Kept [] W w' → w'.cell? ⟨w.heap.size + 1, 1, none⟩ = some (.int .i64 t.version)) := Kept.cellOf (hbV.cell 1)
  have KV2 : Hid (∀ w', Kept [] W w' → w'.cell? ⟨w.heap.size + 1, 2, none⟩ = some (.int .i64 t.gate)) := Kept.cellOf (hbV.cell 2)
  have KV3 : Hid (∀ w', Kept [] W w' → w'.cell? ⟨w.heap.size + 1, 3, none⟩ = some (.int .i64 t.no)) := Kept.cellOf (hbV.cell 3)
  have KV4 : Hid (∀ w', Kept [] W w' → w'.cell? ⟨w.heap.size + 1, 4, none⟩ = some (.string ⟨t.reason.toArray⟩)) := Kept.cellOf (hbV.cell 4)
  have KV5 : Hid (∀ w', Kept [] W w' → w'.cell? ⟨w.heap.size + 1, 5, none⟩ = some (.slice pa n pc)) := Kept.cellOf (hbV.cell 5)
  have KV6 : Hid (∀ w', Kept [] W w' → w'.cell? ⟨w.heap.size + 1, 6, none⟩ = some (.int .i64 c0)) := Kept.cellOf (hbV.cell 6)
  have KV7 : Hid (∀ w', Kept [] W w' → w'.cell? ⟨w.heap.size + 1, 7, none⟩ = some (.int .i64 s0)) := Kept.cellOf (hbV.cell 7)
  have BL : Hid (∀ w', Kept [] W w' → Calls Tryz.prog 22 #[.agg #[.int .i64 t.juror, .int .i64 t.version, .int .i64 t.gate, .int .i64 t.no, .string ⟨t.reason.toArray⟩, .slice pa n pc, .int .i64 c0, .int .i64 s0]] w' fun e w2 => e = .returned (.string ⟨(ballotE t).toArray⟩) ∧ Kept [] w' w2) := fun w' kk => ballot_any _ t w' (hx.v.kept (hkW.trans kk)) (hE.kept0 (hkW.trans kk)).toEnv (by omega) hp
  have SG : Hid (∀ w', Kept [] W w' → Calls Tryz.prog 56 #[.agg #[.int .i64 s.P, .int .i64 s.Q, .int .i64 s.G, .slice ad s.bases.length c, .int .i64 s.blind], .int .i64 x, .int .i64 k, .string ⟨(ballotE t).toArray⟩] w' fun e w2 => e = .returned (sigV (signN s x k (ballotE t))) ∧ Kept [] w' w2) := fun w' kk => sign_any _ s x k (ballotE t) w' (hs.kept (hkW.trans kk)) ix ik hbl (hE.kept0 (hkW.trans kk))
  have HCN : Hid (castN s x k t = if (signN s x k (ballotE t)).2.2 = true then (t, (signN s x k (ballotE t)).1, (signN s x k (ballotE t)).2.1, true) else (zeroVt, 0, 0, false)) := rfl
  obtain ⟨⟨sc, ss, ok⟩, hsg⟩ : ∃ r, signN s x k (ballotE t) = r := ⟨_, rfl⟩
  rw [hsg] at SG HCN
  have SG' : Hid (∀ w', Kept [] W w' → Calls Tryz.prog 56 #[.agg #[.int .i64 s.P, .int .i64 s.Q, .int .i64 s.G, .slice ad s.bases.length c, .int .i64 s.blind], .int .i64 x, .int .i64 k, .string ⟨(ballotE t).toArray⟩] w' fun e w2 => e = .returned (.tuple #[.agg #[.int .i64 sc, .int .i64 ss], .bool ok]) ∧ Kept [] w' w2) := SG.out
  have HV := Lib.hid hbV
  have HR := Lib.hid hbR
  have HX := Lib.hid (hx.kept hkW)
  have HW := Lib.hid hW
  have HSZ := Lib.hid hszW
  obtain ⟨B, hB⟩ : ∃ B, ballotE t = B := ⟨_, rfl⟩
  rw [hB] at BL SG' hbl
  clear SG hsg hB ib hrow hpr hx hx' hs hW hbS hbV hbR hszW
  show Calls _ _ #[.agg #[.int .i64 s.P, .int .i64 s.Q, .int .i64 s.G, .slice ad s.bases.length c, .int .i64 s.blind], .int .i64 x, .int .i64 k, .agg #[.int .i64 t.juror, .int .i64 t.version, .int .i64 t.gate, .int .i64 t.no, .string ⟨t.reason.toArray⟩, .slice pa n pc, .int .i64 c0, .int .i64 s0]] _ _
  go_enter Tryz.func14, Tryz.ntmps14
  go_wp2_with fail
  have hW' : ((w.alloc (.cells #[.int .i64 s.P, .int .i64 s.Q, .int .i64 s.G, .slice ad s.bases.length c, .int .i64 s.blind] 26)).alloc (.cells #[.int .i64 t.juror, .int .i64 t.version, .int .i64 t.gate, .int .i64 t.no, .string ⟨t.reason.toArray⟩, .slice pa n pc, .int .i64 c0, .int .i64 s0] 35)).alloc (.cells #[.int .i64 0, .int .i64 0, .int .i64 0, .int .i64 0, .string ⟨#[]⟩, .slice none 0 0, .int .i64 0, .int .i64 0] 35) = W := HW.out
  rw [hW']
  clear hW'
  have qs0 := KS0.out
  have qs1 := KS1.out
  have qs2 := KS2.out
  have qs3 := KS3.out
  have qs4 := KS4.out
  have qv0 := KV0.out
  have qv1 := KV1.out
  have qv2 := KV2.out
  have qv3 := KV3.out
  have qv4 := KV4.out
  have qv5 := KV5.out
  have qv6 := KV6.out
  have qv7 := KV7.out
  go_region_held3 (fun w' => Kept [] W w') (repeat (first | (with_reducible assumption) | (with_reducible exact Kept.refl _ _) | (with_reducible refine Kept.drew ?_) | (with_reducible refine Kept.alloc ?_ _) | (with_reducible refine Kept.setCell ?_ (Or.inr (by first | (simp; done) | (have := hk3.size; simp; omega) | (have := hk2.size; simp; omega))) _)))
    (first
      | (go_at_call 22; with_reducible refine (BL.out _ (by first | assumption | exact (Kept.refl _ _).drew | exact ((Kept.refl _ _).drew.alloc _))).mono ?_; rintro e w2 ⟨rfl, hkb⟩; have hk2 : Kept [] W w2 := Kept.trans (by first | assumption | exact (Kept.refl _ _).drew | exact ((Kept.refl _ _).drew.alloc _)) hkb; obtain ⟨hc2, hf2⟩ := bcell hkb; first | (have hz2 : W.heap.size < w2.heap.size := by (have := hkb.size; simp at this; omega)) | skip)
      | (go_at_call 56; with_reducible refine (SG'.out _ (by first | assumption | exact Kept.alloc (by assumption) _)).mono ?_; rintro e w3 ⟨rfl, hks⟩; have hk3 : Kept [] W w3 := Kept.trans (by first | assumption | exact Kept.alloc (by assumption) _) hks; obtain ⟨hc3, hf3⟩ := bcell hks; first | (have hz3 : w2.heap.size < w3.heap.size := by (have := hks.size; simp at this; omega)) | skip; first | (have hz4 : W.heap.size < w3.heap.size := by (have := hks.size; omega)) | skip)
      | fail)
  · rename_i hHeld
    have hbz : Blk (w3.alloc (.cells #[.int .i64 sc, .int .i64 ss] 33)) w3.heap.size 33 #[.int .i64 sc, .int .i64 ss] := Blk.new _ _ _
    have hkz : Kept [] W (w3.alloc (.cells #[.int .i64 sc, .int .i64 ss] 33)) := hHeld
    have hge : w.heap.size + 3 ≤ w3.heap.size := by have := HSZ.out; have := hk3.size; omega
    clear hHeld qs0 qs1 qs2 qs3 qs4 qv0 qv1 qv2 qv3 qv4 qv5 qv6 qv7 hc2 hf2 hc3 hf3
    have HBZ := Lib.hid hbz
    have HKZ := Lib.hid hkz
    generalize (w3.alloc (.cells #[.int .i64 sc, .int .i64 ss] 33)) = Z at HBZ HKZ ⊢
    generalize w3.heap.size = bz at HBZ hge ⊢
    clear hbz hkz
    have hkz := HKZ.out
    have hR := HR.out.kept hkz (by simp)
    have hV := HV.out.kept hkz (by simp)
    have z0 : Z.cell? ⟨w.heap.size + 1 + 1, 0, none⟩ = some (.int .i64 0) := hR.cell 0
    have z1 : Z.cell? ⟨w.heap.size + 1 + 1, 1, none⟩ = some (.int .i64 0) := hR.cell 1
    have z2 : Z.cell? ⟨w.heap.size + 1 + 1, 2, none⟩ = some (.int .i64 0) := hR.cell 2
    have z3 : Z.cell? ⟨w.heap.size + 1 + 1, 3, none⟩ = some (.int .i64 0) := hR.cell 3
    have z4 : Z.cell? ⟨w.heap.size + 1 + 1, 4, none⟩ = some (.string ⟨#[]⟩) := hR.cell 4
    have z5 : Z.cell? ⟨w.heap.size + 1 + 1, 5, none⟩ = some (.slice none 0 0) := hR.cell 5
    have z6 : Z.cell? ⟨w.heap.size + 1 + 1, 6, none⟩ = some (.int .i64 0) := hR.cell 6
    have z7 : Z.cell? ⟨w.heap.size + 1 + 1, 7, none⟩ = some (.int .i64 0) := hR.cell 7
    have y0 := hR.frozen 0
    have y1 := hR.frozen 1
    have y2 := hR.frozen 2
    have y3 := hR.frozen 3
    have y4 := hR.frozen 4
    have y5 := hR.frozen 5
    have y6 := hR.frozen 6
    have y7 := hR.frozen 7
    cases ok
    · have HF : Hid (castN s x k t = (zeroVt, 0, 0, false)) := by
        show _ = _
        rw [HCN.out]; rfl
      go_wp2_with fail
      refine bodyPost_ret (v := .tuple #[.agg zerosVt, .bool false]) (by simp [results, Tryz.results14, go_sem, zerosVt, z0, z1, z2, z3, z4, z5, z6, z7]) rfl ⟨_, by rw [HF.out], by rw [HF.out]; exact voteX_zero _, ?_⟩
      exact (hkW.trans hkz).fresh (S' := [w.heap.size + 1 + 1]) (by repeat (first | (with_reducible exact Kept.refl _ _) | (with_reducible refine Kept.setCell ?_ (Or.inl (by simp)) _))) (by simp; omega)
    · have HF : Hid (castN s x k t = (t, sc, ss, true)) := by
        show _ = _
        rw [HCN.out]; rfl
      clear z0 y0 z1 y1 z2 y2 z3 y3 z4 y4 z5 y5 z6 y6 z7 y7
      have hne1 : bz ≠ w.heap.size + 1 := by have := HSZ.out; omega
      have c5 : Z.cell? ⟨w.heap.size + 1, 5, none⟩ = some (.slice pa n pc) := hV.cell 5
      have u5 : ∀ w', Kept [] Z w' → w'.frozen? ⟨w.heap.size + 1, 5, none⟩ = false := fun w' kk => (HV.out.kept (HKZ.out.trans kk) (by simp)).frozen 5
      have u6 : ∀ w', Kept [] Z w' → w'.frozen? ⟨w.heap.size + 1, 6, none⟩ = false := fun w' kk => (HV.out.kept (HKZ.out.trans kk) (by simp)).frozen 6
      have u7 : ∀ w', Kept [] Z w' → w'.frozen? ⟨w.heap.size + 1, 7, none⟩ = false := fun w' kk => (HV.out.kept (HKZ.out.trans kk) (by simp)).frozen 7
      have p5 : ∀ w', Kept [] Z w' → w'.cell? ⟨w.heap.size + 1, 5, none⟩ = some (.slice pa n pc) := fun w' kk => (HV.out.kept (HKZ.out.trans kk) (by simp)).cell 5
      have p6 : ∀ w', Kept [] Z w' → w'.cell? ⟨w.heap.size + 1, 6, none⟩ = some (.int .i64 c0) := fun w' kk => (HV.out.kept (HKZ.out.trans kk) (by simp)).cell 6
      have p7 : ∀ w', Kept [] Z w' → w'.cell? ⟨w.heap.size + 1, 7, none⟩ = some (.int .i64 s0) := fun w' kk => (HV.out.kept (HKZ.out.trans kk) (by simp)).cell 7
      have g0 : ∀ w', Kept [w.heap.size + 1] Z w' → w'.cell? ⟨bz, 0, none⟩ = some (.int .i64 sc) := fun w' kk => (HBZ.out.kept kk (by simpa using hne1)).cell 0
      have g1 : ∀ w', Kept [w.heap.size + 1] Z w' → w'.cell? ⟨bz, 1, none⟩ = some (.int .i64 ss) := fun w' kk => (HBZ.out.kept kk (by simpa using hne1)).cell 1
      have hlt1 : w.heap.size + 1 < Z.heap.size := hV.lt
      have hlt2 : w.heap.size + 1 + 1 < Z.heap.size := hR.lt
      have hrow : Row Z 3 (.slice pa n pc) n (ints t.pts) := by
        obtain ⟨ps', n', he, hr'⟩ := (HX.out.kept HKZ.out).form
        injection he with he
        have h5 : Value.slice pa n pc = ps' := by have := congrArg (fun a : Array Value => a[5]?) he; simpa using this
        have hf := hr'.form
        obtain ⟨_, _, hf, _⟩ := hf
        rw [← h5] at hf hr'
        injection hf with _ hf _
        subst hf
        exact hr'
      have HROW := Lib.hid hrow
      clear hV hR hrow hkz
      have CL : Hid (∀ w', Kept [] Z w' → Calls Tryz.prog 57 #[.slice pa n pc] w' (ClonePts t.pts n w')) := fun w' kk => clone_pts _ n t.pts w' (HROW.out.kept kk) (by omega)
      go_upto_region 4 with (fail)
      refine wp_region_held_drew (S := fun w' => Kept [w.heap.size + 1] Z w') (by kernel_rfl) (Kept.refl _ _).drew (fun hH0 => ?_)
      refine take_mk (i := 0) (v := ?v0w1) rfl (by kernel_rfl) (by kernel_rfl) (by kernel_rfl) (fun _ _ _ h => h) (Or.inl ⟨by rfl, ?hy0w1⟩) hH0 ?rest0w1
      case hy0w1 => intro w' hSw; (try dsimp only at hSw); go_simp; first | done | with_reducible rfl
      simp only [Act.put, List.setIfInBounds_toArray, List.set_cons_zero, List.set_cons_succ]
      refine take_mk (i := 3) (v := ?v3w1) rfl (by kernel_rfl) (by kernel_rfl) (by kernel_rfl) (fun _ _ _ h => h) (Or.inl ⟨by rfl, ?hy3w1⟩) hH0 ?rest3w1
      case hy3w1 => intro w' hSw; (try dsimp only at hSw); go_simp; first | done | with_reducible rfl
      simp only [Act.put, List.setIfInBounds_toArray, List.set_cons_zero, List.set_cons_succ]
      refine wpAnyH_ready (rs := [1]) (by kernel_rfl) (by simp) ?_
      refine AllReadyH.cons rfl (fun K hK => ?_) AllReadyH.nil
      go_simp
      refine hK.out _ _ (by repeat (first | (with_reducible assumption) | (with_reducible exact Kept.refl _ _) | (with_reducible refine Kept.drew ?_) | (with_reducible refine Kept.setCell ?_ (Or.inl (by simp)) _))) (fun hH1 => ?_)
      clear hK K
      (try simp only [Act.put, List.setIfInBounds_toArray, List.set_cons_zero, List.set_cons_succ])
      refine wpAnyH_ready (rs := [2]) (by kernel_rfl) (by simp) ?_
      refine AllReadyH.cons rfl (fun K hK => ?_) AllReadyH.nil
      go_simp
      go_at_call 57
      refine (CL.out _ ((Kept.refl _ _).drew)).mono ?_
      rintro e w4 ⟨a4, c4, rfl, hown, hkx⟩
      have hk4 : Kept [] Z w4 := (Kept.refl [] Z).drew.trans hkx
      have hk4r : Kept [w.heap.size + 1] Z w4 := hk4.mono (by simp)
      refine hK.out _ _ (by repeat (first | (with_reducible assumption) | (with_reducible exact Kept.refl _ _) | (with_reducible refine Kept.drew ?_) | (with_reducible refine Kept.setCell ?_ (Or.inl (by simp)) _))) (fun hH2 => ?_)
      clear hK K
      (try simp only [Act.put, List.setIfInBounds_toArray, List.set_cons_zero, List.set_cons_succ])
      refine take_mk (i := 4) (v := ?v4w1) rfl (by kernel_rfl) (by kernel_rfl) (by kernel_rfl) (fun _ _ _ h => h) (Or.inl ⟨by rfl, ?hy4w1⟩) hH2 ?rest4w1
      case hy4w1 => intro w' hSw; (try dsimp only at hSw); go_simp; first | done | with_reducible rfl
      simp only [Act.put, List.setIfInBounds_toArray, List.set_cons_zero, List.set_cons_succ]
      refine wpAnyH_ready (rs := [5]) (by kernel_rfl) (by simp) ?_
      refine AllReadyH.cons rfl (fun K hK => ?_) AllReadyH.nil
      go_simp
      refine hK.out _ _ (by repeat (first | (with_reducible assumption) | (with_reducible exact Kept.refl _ _) | (with_reducible refine Kept.drew ?_) | (with_reducible refine Kept.setCell ?_ (Or.inl (by simp)) _))) (fun hH5 => ?_)
      clear hK K
      (try simp only [Act.put, List.setIfInBounds_toArray, List.set_cons_zero, List.set_cons_succ])
      refine take_mk (i := 6) (v := ?v6w1) rfl (by kernel_rfl) (by kernel_rfl) (by kernel_rfl) (fun _ _ _ h => h) (Or.inl ⟨by rfl, ?hy6w1⟩) hH5 ?rest6w1
      case hy6w1 => intro w' hSw; (try dsimp only at hSw); go_simp; first | done | with_reducible rfl
      simp only [Act.put, List.setIfInBounds_toArray, List.set_cons_zero, List.set_cons_succ]
      refine wpAnyH_ready (rs := [7]) (by kernel_rfl) (by simp) ?_
      refine AllReadyH.cons rfl (fun K hK => ?_) AllReadyH.nil
      go_simp
      refine hK.out _ _ (by repeat (first | (with_reducible assumption) | (with_reducible exact Kept.refl _ _) | (with_reducible refine Kept.drew ?_) | (with_reducible refine Kept.setCell ?_ (Or.inl (by simp)) _))) (fun hH7 => ?_)
      clear hK K
      (try simp only [Act.put, List.setIfInBounds_toArray, List.set_cons_zero, List.set_cons_succ])
      refine wpAnyH_done (by kernel_rfl) ?_ _
      clear hH0 hH1 hH2 hH5 hH7
      have hbY : Blk (((w4.setCell ⟨w.heap.size + 1, 5, none⟩ (.slice a4 n c4)).setCell ⟨w.heap.size + 1, 6, none⟩ (.int .i64 sc)).setCell ⟨w.heap.size + 1, 7, none⟩ (.int .i64 ss)) (w.heap.size + 1) 35 #[.int .i64 t.juror, .int .i64 t.version, .int .i64 t.gate, .int .i64 t.no, .string ⟨t.reason.toArray⟩, .slice a4 n c4, .int .i64 sc, .int .i64 ss] := by simpa using (((HV.out.kept (HKZ.out.trans hk4) (by simp)).set_ 5 (.slice a4 n c4)).set_ 6 (.int .i64 sc)).set_ 7 (.int .i64 ss)
      have hkY : Kept [w.heap.size + 1] Z (((w4.setCell ⟨w.heap.size + 1, 5, none⟩ (.slice a4 n c4)).setCell ⟨w.heap.size + 1, 6, none⟩ (.int .i64 sc)).setCell ⟨w.heap.size + 1, 7, none⟩ (.int .i64 ss)) := by repeat (first | (with_reducible assumption) | (with_reducible refine Kept.setCell ?_ (Or.inl (by simp)) _))
      have hoY := own_kept (S := [w.heap.size + 1]) (w' := (((w4.setCell ⟨w.heap.size + 1, 5, none⟩ (.slice a4 n c4)).setCell ⟨w.heap.size + 1, 6, none⟩ (.int .i64 sc)).setCell ⟨w.heap.size + 1, 7, none⟩ (.int .i64 ss))) hown (by repeat (first | (with_reducible exact Kept.refl _ _) | (with_reducible refine Kept.setCell ?_ (Or.inl (by simp)) _))) (by intro x hx; rw [List.mem_singleton] at hx; subst hx; first | exact hlt1 | exact hlt2 | (simp; omega))
      clear u5 u6 u7 p5 p6 p7 g0 g1 c5
      have HBY := Lib.hid hbY
      have HKY := Lib.hid hkY
      have HOY := Lib.hid hoY
      clear hbY hkY hoY hown
      generalize (((w4.setCell ⟨w.heap.size + 1, 5, none⟩ (.slice a4 n c4)).setCell ⟨w.heap.size + 1, 6, none⟩ (.int .i64 sc)).setCell ⟨w.heap.size + 1, 7, none⟩ (.int .i64 ss)) = Y at HBY HKY HOY ⊢
      have hR := (HR.out.kept HKZ.out (by simp)).kept HKY.out (by simp)
      have z0 : Y.cell? ⟨w.heap.size + 1 + 1, 0, none⟩ = some (.int .i64 0) := hR.cell 0
      have z1 : Y.cell? ⟨w.heap.size + 1 + 1, 1, none⟩ = some (.int .i64 0) := hR.cell 1
      have z2 : Y.cell? ⟨w.heap.size + 1 + 1, 2, none⟩ = some (.int .i64 0) := hR.cell 2
      have z3 : Y.cell? ⟨w.heap.size + 1 + 1, 3, none⟩ = some (.int .i64 0) := hR.cell 3
      have z4 : Y.cell? ⟨w.heap.size + 1 + 1, 4, none⟩ = some (.string ⟨#[]⟩) := hR.cell 4
      have z5 : Y.cell? ⟨w.heap.size + 1 + 1, 5, none⟩ = some (.slice none 0 0) := hR.cell 5
      have z6 : Y.cell? ⟨w.heap.size + 1 + 1, 6, none⟩ = some (.int .i64 0) := hR.cell 6
      have z7 : Y.cell? ⟨w.heap.size + 1 + 1, 7, none⟩ = some (.int .i64 0) := hR.cell 7
      have y0 := hR.frozen 0
      have y1 := hR.frozen 1
      have y2 := hR.frozen 2
      have y3 := hR.frozen 3
      have y4 := hR.frozen 4
      have y5 := hR.frozen 5
      have y6 := hR.frozen 6
      have y7 := hR.frozen 7
      have v0 : Y.cell? ⟨w.heap.size + 1, 0, none⟩ = some (.int .i64 t.juror) := HBY.out.cell 0
      have v1 : Y.cell? ⟨w.heap.size + 1, 1, none⟩ = some (.int .i64 t.version) := HBY.out.cell 1
      have v2 : Y.cell? ⟨w.heap.size + 1, 2, none⟩ = some (.int .i64 t.gate) := HBY.out.cell 2
      have v3 : Y.cell? ⟨w.heap.size + 1, 3, none⟩ = some (.int .i64 t.no) := HBY.out.cell 3
      have v4 : Y.cell? ⟨w.heap.size + 1, 4, none⟩ = some (.string ⟨t.reason.toArray⟩) := HBY.out.cell 4
      have v5 : Y.cell? ⟨w.heap.size + 1, 5, none⟩ = some (.slice a4 n c4) := HBY.out.cell 5
      have v6 : Y.cell? ⟨w.heap.size + 1, 6, none⟩ = some (.int .i64 sc) := HBY.out.cell 6
      have v7 : Y.cell? ⟨w.heap.size + 1, 7, none⟩ = some (.int .i64 ss) := HBY.out.cell 7
      clear hR
      go_wp2_with fail
      refine bodyPost_ret (v := .tuple #[.agg #[.int .i64 t.juror, .int .i64 t.version, .int .i64 t.gate, .int .i64 t.no, .string ⟨t.reason.toArray⟩, .slice a4 n c4, .int .i64 sc, .int .i64 ss], .bool true]) (by simp [results, Tryz.results14, go_sem, z0, z1, z2, z3, z4, z5, z6, z7]) rfl ⟨_, by rw [HF.out], ?_, ?_⟩
      · rw [HF.out]
        refine ⟨⟨_, n, rfl, Row.of_own (own_kept (S := [w.heap.size + 1 + 1]) HOY.out (by repeat (first | (with_reducible exact Kept.refl _ _) | (with_reducible refine Kept.setCell ?_ (Or.inl (by simp)) _))) (by intro x hx; rw [List.mem_singleton] at hx; subst hx; first | exact hlt1 | exact hlt2 | (simp; omega))) (by omega)⟩, HX.out.h0, HX.out.h1, HX.out.h2, HX.out.h3, HX.out.hp⟩
      · exact ((hkW.trans HKZ.out).fresh HKY.out (by simp)).fresh (S' := [w.heap.size + 1 + 1]) (by repeat (first | (with_reducible exact Kept.refl _ _) | (with_reducible refine Kept.setCell ?_ (Or.inl (by simp)) _))) (by simp; omega)
  · rename_i hHeld
    have hbz : Blk ((w3.setCell ⟨w2.heap.size, 0, none⟩ (.int .i64 sc)).setCell ⟨w2.heap.size, 1, none⟩ (.int .i64 ss)) w2.heap.size 33 #[.int .i64 sc, .int .i64 ss] := by simpa using (((Blk.new w2 33 #[.int .i64 0, .int .i64 0]).kept hks (by simp)).set_ 0 (.int .i64 sc)).set_ 1 (.int .i64 ss)
    have hkz : Kept [] W ((w3.setCell ⟨w2.heap.size, 0, none⟩ (.int .i64 sc)).setCell ⟨w2.heap.size, 1, none⟩ (.int .i64 ss)) := hHeld
    have hge : w.heap.size + 3 ≤ w2.heap.size := by have := HSZ.out; have := hk2.size; omega
    clear hHeld qs0 qs1 qs2 qs3 qs4 qv0 qv1 qv2 qv3 qv4 qv5 qv6 qv7 hc2 hf2 hc3 hf3
    have HBZ := Lib.hid hbz
    have HKZ := Lib.hid hkz
    generalize ((w3.setCell ⟨w2.heap.size, 0, none⟩ (.int .i64 sc)).setCell ⟨w2.heap.size, 1, none⟩ (.int .i64 ss)) = Z at HBZ HKZ ⊢
    generalize w2.heap.size = bz at HBZ hge ⊢
    clear hbz hkz
    have hkz := HKZ.out
    have hR := HR.out.kept hkz (by simp)
    have hV := HV.out.kept hkz (by simp)
    have z0 : Z.cell? ⟨w.heap.size + 1 + 1, 0, none⟩ = some (.int .i64 0) := hR.cell 0
    have z1 : Z.cell? ⟨w.heap.size + 1 + 1, 1, none⟩ = some (.int .i64 0) := hR.cell 1
    have z2 : Z.cell? ⟨w.heap.size + 1 + 1, 2, none⟩ = some (.int .i64 0) := hR.cell 2
    have z3 : Z.cell? ⟨w.heap.size + 1 + 1, 3, none⟩ = some (.int .i64 0) := hR.cell 3
    have z4 : Z.cell? ⟨w.heap.size + 1 + 1, 4, none⟩ = some (.string ⟨#[]⟩) := hR.cell 4
    have z5 : Z.cell? ⟨w.heap.size + 1 + 1, 5, none⟩ = some (.slice none 0 0) := hR.cell 5
    have z6 : Z.cell? ⟨w.heap.size + 1 + 1, 6, none⟩ = some (.int .i64 0) := hR.cell 6
    have z7 : Z.cell? ⟨w.heap.size + 1 + 1, 7, none⟩ = some (.int .i64 0) := hR.cell 7
    have y0 := hR.frozen 0
    have y1 := hR.frozen 1
    have y2 := hR.frozen 2
    have y3 := hR.frozen 3
    have y4 := hR.frozen 4
    have y5 := hR.frozen 5
    have y6 := hR.frozen 6
    have y7 := hR.frozen 7
    cases ok
    · have HF : Hid (castN s x k t = (zeroVt, 0, 0, false)) := by
        show _ = _
        rw [HCN.out]; rfl
      go_wp2_with fail
      refine bodyPost_ret (v := .tuple #[.agg zerosVt, .bool false]) (by simp [results, Tryz.results14, go_sem, zerosVt, z0, z1, z2, z3, z4, z5, z6, z7]) rfl ⟨_, by rw [HF.out], by rw [HF.out]; exact voteX_zero _, ?_⟩
      exact (hkW.trans hkz).fresh (S' := [w.heap.size + 1 + 1]) (by repeat (first | (with_reducible exact Kept.refl _ _) | (with_reducible refine Kept.setCell ?_ (Or.inl (by simp)) _))) (by simp; omega)
    · have HF : Hid (castN s x k t = (t, sc, ss, true)) := by
        show _ = _
        rw [HCN.out]; rfl
      clear z0 y0 z1 y1 z2 y2 z3 y3 z4 y4 z5 y5 z6 y6 z7 y7
      have hne1 : bz ≠ w.heap.size + 1 := by have := HSZ.out; omega
      have c5 : Z.cell? ⟨w.heap.size + 1, 5, none⟩ = some (.slice pa n pc) := hV.cell 5
      have u5 : ∀ w', Kept [] Z w' → w'.frozen? ⟨w.heap.size + 1, 5, none⟩ = false := fun w' kk => (HV.out.kept (HKZ.out.trans kk) (by simp)).frozen 5
      have u6 : ∀ w', Kept [] Z w' → w'.frozen? ⟨w.heap.size + 1, 6, none⟩ = false := fun w' kk => (HV.out.kept (HKZ.out.trans kk) (by simp)).frozen 6
      have u7 : ∀ w', Kept [] Z w' → w'.frozen? ⟨w.heap.size + 1, 7, none⟩ = false := fun w' kk => (HV.out.kept (HKZ.out.trans kk) (by simp)).frozen 7
      have p5 : ∀ w', Kept [] Z w' → w'.cell? ⟨w.heap.size + 1, 5, none⟩ = some (.slice pa n pc) := fun w' kk => (HV.out.kept (HKZ.out.trans kk) (by simp)).cell 5
      have p6 : ∀ w', Kept [] Z w' → w'.cell? ⟨w.heap.size + 1, 6, none⟩ = some (.int .i64 c0) := fun w' kk => (HV.out.kept (HKZ.out.trans kk) (by simp)).cell 6
      have p7 : ∀ w', Kept [] Z w' → w'.cell? ⟨w.heap.size + 1, 7, none⟩ = some (.int .i64 s0) := fun w' kk => (HV.out.kept (HKZ.out.trans kk) (by simp)).cell 7
      have g0 : ∀ w', Kept [w.heap.size + 1] Z w' → w'.cell? ⟨bz, 0, none⟩ = some (.int .i64 sc) := fun w' kk => (HBZ.out.kept kk (by simpa using hne1)).cell 0
      have g1 : ∀ w', Kept [w.heap.size + 1] Z w' → w'.cell? ⟨bz, 1, none⟩ = some (.int .i64 ss) := fun w' kk => (HBZ.out.kept kk (by simpa using hne1)).cell 1
      have hlt1 : w.heap.size + 1 < Z.heap.size := hV.lt
      have hlt2 : w.heap.size + 1 + 1 < Z.heap.size := hR.lt
      have hrow : Row Z 3 (.slice pa n pc) n (ints t.pts) := by
        obtain ⟨ps', n', he, hr'⟩ := (HX.out.kept HKZ.out).form
        injection he with he
        have h5 : Value.slice pa n pc = ps' := by have := congrArg (fun a : Array Value => a[5]?) he; simpa using this
        have hf := hr'.form
        obtain ⟨_, _, hf, _⟩ := hf
        rw [← h5] at hf hr'
        injection hf with _ hf _
        subst hf
        exact hr'
      have HROW := Lib.hid hrow
      clear hV hR hrow hkz
      have CL : Hid (∀ w', Kept [] Z w' → Calls Tryz.prog 57 #[.slice pa n pc] w' (ClonePts t.pts n w')) := fun w' kk => clone_pts _ n t.pts w' (HROW.out.kept kk) (by omega)
      go_upto_region 4 with (fail)
      refine wp_region_held_drew (S := fun w' => Kept [w.heap.size + 1] Z w') (by kernel_rfl) (Kept.refl _ _).drew (fun hH0 => ?_)
      refine take_mk (i := 0) (v := ?v0w2) rfl (by kernel_rfl) (by kernel_rfl) (by kernel_rfl) (fun _ _ _ h => h) (Or.inl ⟨by rfl, ?hy0w2⟩) hH0 ?rest0w2
      case hy0w2 => intro w' hSw; (try dsimp only at hSw); go_simp; first | done | with_reducible rfl
      simp only [Act.put, List.setIfInBounds_toArray, List.set_cons_zero, List.set_cons_succ]
      refine take_mk (i := 3) (v := ?v3w2) rfl (by kernel_rfl) (by kernel_rfl) (by kernel_rfl) (fun _ _ _ h => h) (Or.inl ⟨by rfl, ?hy3w2⟩) hH0 ?rest3w2
      case hy3w2 => intro w' hSw; (try dsimp only at hSw); go_simp; first | done | with_reducible rfl
      simp only [Act.put, List.setIfInBounds_toArray, List.set_cons_zero, List.set_cons_succ]
      refine wpAnyH_ready (rs := [1]) (by kernel_rfl) (by simp) ?_
      refine AllReadyH.cons rfl (fun K hK => ?_) AllReadyH.nil
      go_simp
      refine hK.out _ _ (by repeat (first | (with_reducible assumption) | (with_reducible exact Kept.refl _ _) | (with_reducible refine Kept.drew ?_) | (with_reducible refine Kept.setCell ?_ (Or.inl (by simp)) _))) (fun hH1 => ?_)
      clear hK K
      (try simp only [Act.put, List.setIfInBounds_toArray, List.set_cons_zero, List.set_cons_succ])
      refine wpAnyH_ready (rs := [2]) (by kernel_rfl) (by simp) ?_
      refine AllReadyH.cons rfl (fun K hK => ?_) AllReadyH.nil
      go_simp
      go_at_call 57
      refine (CL.out _ ((Kept.refl _ _).drew)).mono ?_
      rintro e w4 ⟨a4, c4, rfl, hown, hkx⟩
      have hk4 : Kept [] Z w4 := (Kept.refl [] Z).drew.trans hkx
      have hk4r : Kept [w.heap.size + 1] Z w4 := hk4.mono (by simp)
      refine hK.out _ _ (by repeat (first | (with_reducible assumption) | (with_reducible exact Kept.refl _ _) | (with_reducible refine Kept.drew ?_) | (with_reducible refine Kept.setCell ?_ (Or.inl (by simp)) _))) (fun hH2 => ?_)
      clear hK K
      (try simp only [Act.put, List.setIfInBounds_toArray, List.set_cons_zero, List.set_cons_succ])
      refine take_mk (i := 4) (v := ?v4w2) rfl (by kernel_rfl) (by kernel_rfl) (by kernel_rfl) (fun _ _ _ h => h) (Or.inl ⟨by rfl, ?hy4w2⟩) hH2 ?rest4w2
      case hy4w2 => intro w' hSw; (try dsimp only at hSw); go_simp; first | done | with_reducible rfl
      simp only [Act.put, List.setIfInBounds_toArray, List.set_cons_zero, List.set_cons_succ]
      refine wpAnyH_ready (rs := [5]) (by kernel_rfl) (by simp) ?_
      refine AllReadyH.cons rfl (fun K hK => ?_) AllReadyH.nil
      go_simp
      refine hK.out _ _ (by repeat (first | (with_reducible assumption) | (with_reducible exact Kept.refl _ _) | (with_reducible refine Kept.drew ?_) | (with_reducible refine Kept.setCell ?_ (Or.inl (by simp)) _))) (fun hH5 => ?_)
      clear hK K
      (try simp only [Act.put, List.setIfInBounds_toArray, List.set_cons_zero, List.set_cons_succ])
      refine take_mk (i := 6) (v := ?v6w2) rfl (by kernel_rfl) (by kernel_rfl) (by kernel_rfl) (fun _ _ _ h => h) (Or.inl ⟨by rfl, ?hy6w2⟩) hH5 ?rest6w2
      case hy6w2 => intro w' hSw; (try dsimp only at hSw); go_simp; first | done | with_reducible rfl
      simp only [Act.put, List.setIfInBounds_toArray, List.set_cons_zero, List.set_cons_succ]
      refine wpAnyH_ready (rs := [7]) (by kernel_rfl) (by simp) ?_
      refine AllReadyH.cons rfl (fun K hK => ?_) AllReadyH.nil
      go_simp
      refine hK.out _ _ (by repeat (first | (with_reducible assumption) | (with_reducible exact Kept.refl _ _) | (with_reducible refine Kept.drew ?_) | (with_reducible refine Kept.setCell ?_ (Or.inl (by simp)) _))) (fun hH7 => ?_)
      clear hK K
      (try simp only [Act.put, List.setIfInBounds_toArray, List.set_cons_zero, List.set_cons_succ])
      refine wpAnyH_done (by kernel_rfl) ?_ _
      clear hH0 hH1 hH2 hH5 hH7
      have hbY : Blk (((w4.setCell ⟨w.heap.size + 1, 5, none⟩ (.slice a4 n c4)).setCell ⟨w.heap.size + 1, 6, none⟩ (.int .i64 sc)).setCell ⟨w.heap.size + 1, 7, none⟩ (.int .i64 ss)) (w.heap.size + 1) 35 #[.int .i64 t.juror, .int .i64 t.version, .int .i64 t.gate, .int .i64 t.no, .string ⟨t.reason.toArray⟩, .slice a4 n c4, .int .i64 sc, .int .i64 ss] := by simpa using (((HV.out.kept (HKZ.out.trans hk4) (by simp)).set_ 5 (.slice a4 n c4)).set_ 6 (.int .i64 sc)).set_ 7 (.int .i64 ss)
      have hkY : Kept [w.heap.size + 1] Z (((w4.setCell ⟨w.heap.size + 1, 5, none⟩ (.slice a4 n c4)).setCell ⟨w.heap.size + 1, 6, none⟩ (.int .i64 sc)).setCell ⟨w.heap.size + 1, 7, none⟩ (.int .i64 ss)) := by repeat (first | (with_reducible assumption) | (with_reducible refine Kept.setCell ?_ (Or.inl (by simp)) _))
      have hoY := own_kept (S := [w.heap.size + 1]) (w' := (((w4.setCell ⟨w.heap.size + 1, 5, none⟩ (.slice a4 n c4)).setCell ⟨w.heap.size + 1, 6, none⟩ (.int .i64 sc)).setCell ⟨w.heap.size + 1, 7, none⟩ (.int .i64 ss))) hown (by repeat (first | (with_reducible exact Kept.refl _ _) | (with_reducible refine Kept.setCell ?_ (Or.inl (by simp)) _))) (by intro x hx; rw [List.mem_singleton] at hx; subst hx; first | exact hlt1 | exact hlt2 | (simp; omega))
      clear u5 u6 u7 p5 p6 p7 g0 g1 c5
      have HBY := Lib.hid hbY
      have HKY := Lib.hid hkY
      have HOY := Lib.hid hoY
      clear hbY hkY hoY hown
      generalize (((w4.setCell ⟨w.heap.size + 1, 5, none⟩ (.slice a4 n c4)).setCell ⟨w.heap.size + 1, 6, none⟩ (.int .i64 sc)).setCell ⟨w.heap.size + 1, 7, none⟩ (.int .i64 ss)) = Y at HBY HKY HOY ⊢
      have hR := (HR.out.kept HKZ.out (by simp)).kept HKY.out (by simp)
      have z0 : Y.cell? ⟨w.heap.size + 1 + 1, 0, none⟩ = some (.int .i64 0) := hR.cell 0
      have z1 : Y.cell? ⟨w.heap.size + 1 + 1, 1, none⟩ = some (.int .i64 0) := hR.cell 1
      have z2 : Y.cell? ⟨w.heap.size + 1 + 1, 2, none⟩ = some (.int .i64 0) := hR.cell 2
      have z3 : Y.cell? ⟨w.heap.size + 1 + 1, 3, none⟩ = some (.int .i64 0) := hR.cell 3
      have z4 : Y.cell? ⟨w.heap.size + 1 + 1, 4, none⟩ = some (.string ⟨#[]⟩) := hR.cell 4
      have z5 : Y.cell? ⟨w.heap.size + 1 + 1, 5, none⟩ = some (.slice none 0 0) := hR.cell 5
      have z6 : Y.cell? ⟨w.heap.size + 1 + 1, 6, none⟩ = some (.int .i64 0) := hR.cell 6
      have z7 : Y.cell? ⟨w.heap.size + 1 + 1, 7, none⟩ = some (.int .i64 0) := hR.cell 7
      have y0 := hR.frozen 0
      have y1 := hR.frozen 1
      have y2 := hR.frozen 2
      have y3 := hR.frozen 3
      have y4 := hR.frozen 4
      have y5 := hR.frozen 5
      have y6 := hR.frozen 6
      have y7 := hR.frozen 7
      have v0 : Y.cell? ⟨w.heap.size + 1, 0, none⟩ = some (.int .i64 t.juror) := HBY.out.cell 0
      have v1 : Y.cell? ⟨w.heap.size + 1, 1, none⟩ = some (.int .i64 t.version) := HBY.out.cell 1
      have v2 : Y.cell? ⟨w.heap.size + 1, 2, none⟩ = some (.int .i64 t.gate) := HBY.out.cell 2
      have v3 : Y.cell? ⟨w.heap.size + 1, 3, none⟩ = some (.int .i64 t.no) := HBY.out.cell 3
      have v4 : Y.cell? ⟨w.heap.size + 1, 4, none⟩ = some (.string ⟨t.reason.toArray⟩) := HBY.out.cell 4
      have v5 : Y.cell? ⟨w.heap.size + 1, 5, none⟩ = some (.slice a4 n c4) := HBY.out.cell 5
      have v6 : Y.cell? ⟨w.heap.size + 1, 6, none⟩ = some (.int .i64 sc) := HBY.out.cell 6
      have v7 : Y.cell? ⟨w.heap.size + 1, 7, none⟩ = some (.int .i64 ss) := HBY.out.cell 7
      clear hR
      go_wp2_with fail
      refine bodyPost_ret (v := .tuple #[.agg #[.int .i64 t.juror, .int .i64 t.version, .int .i64 t.gate, .int .i64 t.no, .string ⟨t.reason.toArray⟩, .slice a4 n c4, .int .i64 sc, .int .i64 ss], .bool true]) (by simp [results, Tryz.results14, go_sem, z0, z1, z2, z3, z4, z5, z6, z7]) rfl ⟨_, by rw [HF.out], ?_, ?_⟩
      · rw [HF.out]
        refine ⟨⟨_, n, rfl, Row.of_own (own_kept (S := [w.heap.size + 1 + 1]) HOY.out (by repeat (first | (with_reducible exact Kept.refl _ _) | (with_reducible refine Kept.setCell ?_ (Or.inl (by simp)) _))) (by intro x hx; rw [List.mem_singleton] at hx; subst hx; first | exact hlt1 | exact hlt2 | (simp; omega))) (by omega)⟩, HX.out.h0, HX.out.h1, HX.out.h2, HX.out.h3, HX.out.hp⟩
      · exact ((hkW.trans HKZ.out).fresh HKY.out (by simp)).fresh (S' := [w.heap.size + 1 + 1]) (by repeat (first | (with_reducible exact Kept.refl _ _) | (with_reducible refine Kept.setCell ?_ (Or.inl (by simp)) _))) (by simp; omega)
  · rename_i hHeld
    have hbz : Blk ((w3.setCell ⟨W.heap.size, 0, none⟩ (.int .i64 sc)).setCell ⟨W.heap.size, 1, none⟩ (.int .i64 ss)) W.heap.size 33 #[.int .i64 sc, .int .i64 ss] := by simpa using ((((Blk.new W.drew 33 #[.int .i64 0, .int .i64 0]).kept hkb (by simp)).kept hks (by simp)).set_ 0 (.int .i64 sc)).set_ 1 (.int .i64 ss)
    have hkz : Kept [] W ((w3.setCell ⟨W.heap.size, 0, none⟩ (.int .i64 sc)).setCell ⟨W.heap.size, 1, none⟩ (.int .i64 ss)) := hHeld
    have hge : w.heap.size + 3 ≤ W.heap.size := by have := HSZ.out; have := hkW.size; omega
    clear hHeld qs0 qs1 qs2 qs3 qs4 qv0 qv1 qv2 qv3 qv4 qv5 qv6 qv7 hc2 hf2 hc3 hf3
    have HBZ := Lib.hid hbz
    have HKZ := Lib.hid hkz
    generalize ((w3.setCell ⟨W.heap.size, 0, none⟩ (.int .i64 sc)).setCell ⟨W.heap.size, 1, none⟩ (.int .i64 ss)) = Z at HBZ HKZ ⊢
    generalize W.heap.size = bz at HBZ hge ⊢
    clear hbz hkz
    have hkz := HKZ.out
    have hR := HR.out.kept hkz (by simp)
    have hV := HV.out.kept hkz (by simp)
    have z0 : Z.cell? ⟨w.heap.size + 1 + 1, 0, none⟩ = some (.int .i64 0) := hR.cell 0
    have z1 : Z.cell? ⟨w.heap.size + 1 + 1, 1, none⟩ = some (.int .i64 0) := hR.cell 1
    have z2 : Z.cell? ⟨w.heap.size + 1 + 1, 2, none⟩ = some (.int .i64 0) := hR.cell 2
    have z3 : Z.cell? ⟨w.heap.size + 1 + 1, 3, none⟩ = some (.int .i64 0) := hR.cell 3
    have z4 : Z.cell? ⟨w.heap.size + 1 + 1, 4, none⟩ = some (.string ⟨#[]⟩) := hR.cell 4
    have z5 : Z.cell? ⟨w.heap.size + 1 + 1, 5, none⟩ = some (.slice none 0 0) := hR.cell 5
    have z6 : Z.cell? ⟨w.heap.size + 1 + 1, 6, none⟩ = some (.int .i64 0) := hR.cell 6
    have z7 : Z.cell? ⟨w.heap.size + 1 + 1, 7, none⟩ = some (.int .i64 0) := hR.cell 7
    have y0 := hR.frozen 0
    have y1 := hR.frozen 1
    have y2 := hR.frozen 2
    have y3 := hR.frozen 3
    have y4 := hR.frozen 4
    have y5 := hR.frozen 5
    have y6 := hR.frozen 6
    have y7 := hR.frozen 7
    cases ok
    · have HF : Hid (castN s x k t = (zeroVt, 0, 0, false)) := by
        show _ = _
        rw [HCN.out]; rfl
      go_wp2_with fail
      refine bodyPost_ret (v := .tuple #[.agg zerosVt, .bool false]) (by simp [results, Tryz.results14, go_sem, zerosVt, z0, z1, z2, z3, z4, z5, z6, z7]) rfl ⟨_, by rw [HF.out], by rw [HF.out]; exact voteX_zero _, ?_⟩
      exact (hkW.trans hkz).fresh (S' := [w.heap.size + 1 + 1]) (by repeat (first | (with_reducible exact Kept.refl _ _) | (with_reducible refine Kept.setCell ?_ (Or.inl (by simp)) _))) (by simp; omega)
    · have HF : Hid (castN s x k t = (t, sc, ss, true)) := by
        show _ = _
        rw [HCN.out]; rfl
      clear z0 y0 z1 y1 z2 y2 z3 y3 z4 y4 z5 y5 z6 y6 z7 y7
      have hne1 : bz ≠ w.heap.size + 1 := by have := HSZ.out; omega
      have c5 : Z.cell? ⟨w.heap.size + 1, 5, none⟩ = some (.slice pa n pc) := hV.cell 5
      have u5 : ∀ w', Kept [] Z w' → w'.frozen? ⟨w.heap.size + 1, 5, none⟩ = false := fun w' kk => (HV.out.kept (HKZ.out.trans kk) (by simp)).frozen 5
      have u6 : ∀ w', Kept [] Z w' → w'.frozen? ⟨w.heap.size + 1, 6, none⟩ = false := fun w' kk => (HV.out.kept (HKZ.out.trans kk) (by simp)).frozen 6
      have u7 : ∀ w', Kept [] Z w' → w'.frozen? ⟨w.heap.size + 1, 7, none⟩ = false := fun w' kk => (HV.out.kept (HKZ.out.trans kk) (by simp)).frozen 7
      have p5 : ∀ w', Kept [] Z w' → w'.cell? ⟨w.heap.size + 1, 5, none⟩ = some (.slice pa n pc) := fun w' kk => (HV.out.kept (HKZ.out.trans kk) (by simp)).cell 5
      have p6 : ∀ w', Kept [] Z w' → w'.cell? ⟨w.heap.size + 1, 6, none⟩ = some (.int .i64 c0) := fun w' kk => (HV.out.kept (HKZ.out.trans kk) (by simp)).cell 6
      have p7 : ∀ w', Kept [] Z w' → w'.cell? ⟨w.heap.size + 1, 7, none⟩ = some (.int .i64 s0) := fun w' kk => (HV.out.kept (HKZ.out.trans kk) (by simp)).cell 7
      have g0 : ∀ w', Kept [w.heap.size + 1] Z w' → w'.cell? ⟨bz, 0, none⟩ = some (.int .i64 sc) := fun w' kk => (HBZ.out.kept kk (by simpa using hne1)).cell 0
      have g1 : ∀ w', Kept [w.heap.size + 1] Z w' → w'.cell? ⟨bz, 1, none⟩ = some (.int .i64 ss) := fun w' kk => (HBZ.out.kept kk (by simpa using hne1)).cell 1
      have hlt1 : w.heap.size + 1 < Z.heap.size := hV.lt
      have hlt2 : w.heap.size + 1 + 1 < Z.heap.size := hR.lt
      have hrow : Row Z 3 (.slice pa n pc) n (ints t.pts) := by
        obtain ⟨ps', n', he, hr'⟩ := (HX.out.kept HKZ.out).form
        injection he with he
        have h5 : Value.slice pa n pc = ps' := by have := congrArg (fun a : Array Value => a[5]?) he; simpa using this
        have hf := hr'.form
        obtain ⟨_, _, hf, _⟩ := hf
        rw [← h5] at hf hr'
        injection hf with _ hf _
        subst hf
        exact hr'
      have HROW := Lib.hid hrow
      clear hV hR hrow hkz
      have CL : Hid (∀ w', Kept [] Z w' → Calls Tryz.prog 57 #[.slice pa n pc] w' (ClonePts t.pts n w')) := fun w' kk => clone_pts _ n t.pts w' (HROW.out.kept kk) (by omega)
      go_upto_region 4 with (fail)
      refine wp_region_held_drew (S := fun w' => Kept [w.heap.size + 1] Z w') (by kernel_rfl) (Kept.refl _ _).drew (fun hH0 => ?_)
      refine take_mk (i := 0) (v := ?v0w3) rfl (by kernel_rfl) (by kernel_rfl) (by kernel_rfl) (fun _ _ _ h => h) (Or.inl ⟨by rfl, ?hy0w3⟩) hH0 ?rest0w3
      case hy0w3 => intro w' hSw; (try dsimp only at hSw); go_simp; first | done | with_reducible rfl
      simp only [Act.put, List.setIfInBounds_toArray, List.set_cons_zero, List.set_cons_succ]
      refine take_mk (i := 3) (v := ?v3w3) rfl (by kernel_rfl) (by kernel_rfl) (by kernel_rfl) (fun _ _ _ h => h) (Or.inl ⟨by rfl, ?hy3w3⟩) hH0 ?rest3w3
      case hy3w3 => intro w' hSw; (try dsimp only at hSw); go_simp; first | done | with_reducible rfl
      simp only [Act.put, List.setIfInBounds_toArray, List.set_cons_zero, List.set_cons_succ]
      refine wpAnyH_ready (rs := [1]) (by kernel_rfl) (by simp) ?_
      refine AllReadyH.cons rfl (fun K hK => ?_) AllReadyH.nil
      go_simp
      refine hK.out _ _ (by repeat (first | (with_reducible assumption) | (with_reducible exact Kept.refl _ _) | (with_reducible refine Kept.drew ?_) | (with_reducible refine Kept.setCell ?_ (Or.inl (by simp)) _))) (fun hH1 => ?_)
      clear hK K
      (try simp only [Act.put, List.setIfInBounds_toArray, List.set_cons_zero, List.set_cons_succ])
      refine wpAnyH_ready (rs := [2]) (by kernel_rfl) (by simp) ?_
      refine AllReadyH.cons rfl (fun K hK => ?_) AllReadyH.nil
      go_simp
      go_at_call 57
      refine (CL.out _ ((Kept.refl _ _).drew)).mono ?_
      rintro e w4 ⟨a4, c4, rfl, hown, hkx⟩
      have hk4 : Kept [] Z w4 := (Kept.refl [] Z).drew.trans hkx
      have hk4r : Kept [w.heap.size + 1] Z w4 := hk4.mono (by simp)
      refine hK.out _ _ (by repeat (first | (with_reducible assumption) | (with_reducible exact Kept.refl _ _) | (with_reducible refine Kept.drew ?_) | (with_reducible refine Kept.setCell ?_ (Or.inl (by simp)) _))) (fun hH2 => ?_)
      clear hK K
      (try simp only [Act.put, List.setIfInBounds_toArray, List.set_cons_zero, List.set_cons_succ])
      refine take_mk (i := 4) (v := ?v4w3) rfl (by kernel_rfl) (by kernel_rfl) (by kernel_rfl) (fun _ _ _ h => h) (Or.inl ⟨by rfl, ?hy4w3⟩) hH2 ?rest4w3
      case hy4w3 => intro w' hSw; (try dsimp only at hSw); go_simp; first | done | with_reducible rfl
      simp only [Act.put, List.setIfInBounds_toArray, List.set_cons_zero, List.set_cons_succ]
      refine wpAnyH_ready (rs := [5]) (by kernel_rfl) (by simp) ?_
      refine AllReadyH.cons rfl (fun K hK => ?_) AllReadyH.nil
      go_simp
      refine hK.out _ _ (by repeat (first | (with_reducible assumption) | (with_reducible exact Kept.refl _ _) | (with_reducible refine Kept.drew ?_) | (with_reducible refine Kept.setCell ?_ (Or.inl (by simp)) _))) (fun hH5 => ?_)
      clear hK K
      (try simp only [Act.put, List.setIfInBounds_toArray, List.set_cons_zero, List.set_cons_succ])
      refine take_mk (i := 6) (v := ?v6w3) rfl (by kernel_rfl) (by kernel_rfl) (by kernel_rfl) (fun _ _ _ h => h) (Or.inl ⟨by rfl, ?hy6w3⟩) hH5 ?rest6w3
      case hy6w3 => intro w' hSw; (try dsimp only at hSw); go_simp; first | done | with_reducible rfl
      simp only [Act.put, List.setIfInBounds_toArray, List.set_cons_zero, List.set_cons_succ]
      refine wpAnyH_ready (rs := [7]) (by kernel_rfl) (by simp) ?_
      refine AllReadyH.cons rfl (fun K hK => ?_) AllReadyH.nil
      go_simp
      refine hK.out _ _ (by repeat (first | (with_reducible assumption) | (with_reducible exact Kept.refl _ _) | (with_reducible refine Kept.drew ?_) | (with_reducible refine Kept.setCell ?_ (Or.inl (by simp)) _))) (fun hH7 => ?_)
      clear hK K
      (try simp only [Act.put, List.setIfInBounds_toArray, List.set_cons_zero, List.set_cons_succ])
      refine wpAnyH_done (by kernel_rfl) ?_ _
      clear hH0 hH1 hH2 hH5 hH7
      have hbY : Blk (((w4.setCell ⟨w.heap.size + 1, 5, none⟩ (.slice a4 n c4)).setCell ⟨w.heap.size + 1, 6, none⟩ (.int .i64 sc)).setCell ⟨w.heap.size + 1, 7, none⟩ (.int .i64 ss)) (w.heap.size + 1) 35 #[.int .i64 t.juror, .int .i64 t.version, .int .i64 t.gate, .int .i64 t.no, .string ⟨t.reason.toArray⟩, .slice a4 n c4, .int .i64 sc, .int .i64 ss] := by simpa using (((HV.out.kept (HKZ.out.trans hk4) (by simp)).set_ 5 (.slice a4 n c4)).set_ 6 (.int .i64 sc)).set_ 7 (.int .i64 ss)
      have hkY : Kept [w.heap.size + 1] Z (((w4.setCell ⟨w.heap.size + 1, 5, none⟩ (.slice a4 n c4)).setCell ⟨w.heap.size + 1, 6, none⟩ (.int .i64 sc)).setCell ⟨w.heap.size + 1, 7, none⟩ (.int .i64 ss)) := by repeat (first | (with_reducible assumption) | (with_reducible refine Kept.setCell ?_ (Or.inl (by simp)) _))
      have hoY := own_kept (S := [w.heap.size + 1]) (w' := (((w4.setCell ⟨w.heap.size + 1, 5, none⟩ (.slice a4 n c4)).setCell ⟨w.heap.size + 1, 6, none⟩ (.int .i64 sc)).setCell ⟨w.heap.size + 1, 7, none⟩ (.int .i64 ss))) hown (by repeat (first | (with_reducible exact Kept.refl _ _) | (with_reducible refine Kept.setCell ?_ (Or.inl (by simp)) _))) (by intro x hx; rw [List.mem_singleton] at hx; subst hx; first | exact hlt1 | exact hlt2 | (simp; omega))
      clear u5 u6 u7 p5 p6 p7 g0 g1 c5
      have HBY := Lib.hid hbY
      have HKY := Lib.hid hkY
      have HOY := Lib.hid hoY
      clear hbY hkY hoY hown
      generalize (((w4.setCell ⟨w.heap.size + 1, 5, none⟩ (.slice a4 n c4)).setCell ⟨w.heap.size + 1, 6, none⟩ (.int .i64 sc)).setCell ⟨w.heap.size + 1, 7, none⟩ (.int .i64 ss)) = Y at HBY HKY HOY ⊢
      have hR := (HR.out.kept HKZ.out (by simp)).kept HKY.out (by simp)
      have z0 : Y.cell? ⟨w.heap.size + 1 + 1, 0, none⟩ = some (.int .i64 0) := hR.cell 0
      have z1 : Y.cell? ⟨w.heap.size + 1 + 1, 1, none⟩ = some (.int .i64 0) := hR.cell 1
      have z2 : Y.cell? ⟨w.heap.size + 1 + 1, 2, none⟩ = some (.int .i64 0) := hR.cell 2
      have z3 : Y.cell? ⟨w.heap.size + 1 + 1, 3, none⟩ = some (.int .i64 0) := hR.cell 3
      have z4 : Y.cell? ⟨w.heap.size + 1 + 1, 4, none⟩ = some (.string ⟨#[]⟩) := hR.cell 4
      have z5 : Y.cell? ⟨w.heap.size + 1 + 1, 5, none⟩ = some (.slice none 0 0) := hR.cell 5
      have z6 : Y.cell? ⟨w.heap.size + 1 + 1, 6, none⟩ = some (.int .i64 0) := hR.cell 6
      have z7 : Y.cell? ⟨w.heap.size + 1 + 1, 7, none⟩ = some (.int .i64 0) := hR.cell 7
      have y0 := hR.frozen 0
      have y1 := hR.frozen 1
      have y2 := hR.frozen 2
      have y3 := hR.frozen 3
      have y4 := hR.frozen 4
      have y5 := hR.frozen 5
      have y6 := hR.frozen 6
      have y7 := hR.frozen 7
      have v0 : Y.cell? ⟨w.heap.size + 1, 0, none⟩ = some (.int .i64 t.juror) := HBY.out.cell 0
      have v1 : Y.cell? ⟨w.heap.size + 1, 1, none⟩ = some (.int .i64 t.version) := HBY.out.cell 1
      have v2 : Y.cell? ⟨w.heap.size + 1, 2, none⟩ = some (.int .i64 t.gate) := HBY.out.cell 2
      have v3 : Y.cell? ⟨w.heap.size + 1, 3, none⟩ = some (.int .i64 t.no) := HBY.out.cell 3
      have v4 : Y.cell? ⟨w.heap.size + 1, 4, none⟩ = some (.string ⟨t.reason.toArray⟩) := HBY.out.cell 4
      have v5 : Y.cell? ⟨w.heap.size + 1, 5, none⟩ = some (.slice a4 n c4) := HBY.out.cell 5
      have v6 : Y.cell? ⟨w.heap.size + 1, 6, none⟩ = some (.int .i64 sc) := HBY.out.cell 6
      have v7 : Y.cell? ⟨w.heap.size + 1, 7, none⟩ = some (.int .i64 ss) := HBY.out.cell 7
      clear hR
      go_wp2_with fail
      refine bodyPost_ret (v := .tuple #[.agg #[.int .i64 t.juror, .int .i64 t.version, .int .i64 t.gate, .int .i64 t.no, .string ⟨t.reason.toArray⟩, .slice a4 n c4, .int .i64 sc, .int .i64 ss], .bool true]) (by simp [results, Tryz.results14, go_sem, z0, z1, z2, z3, z4, z5, z6, z7]) rfl ⟨_, by rw [HF.out], ?_, ?_⟩
      · rw [HF.out]
        refine ⟨⟨_, n, rfl, Row.of_own (own_kept (S := [w.heap.size + 1 + 1]) HOY.out (by repeat (first | (with_reducible exact Kept.refl _ _) | (with_reducible refine Kept.setCell ?_ (Or.inl (by simp)) _))) (by intro x hx; rw [List.mem_singleton] at hx; subst hx; first | exact hlt1 | exact hlt2 | (simp; omega))) (by omega)⟩, HX.out.h0, HX.out.h1, HX.out.h2, HX.out.h3, HX.out.hp⟩
      · exact ((hkW.trans HKZ.out).fresh HKY.out (by simp)).fresh (S' := [w.heap.size + 1 + 1]) (by repeat (first | (with_reducible exact Kept.refl _ _) | (with_reducible refine Kept.setCell ?_ (Or.inl (by simp)) _))) (by simp; omega)
end Go.Proofs.YtpcdfepndmconaaGreatDoor
