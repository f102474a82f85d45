/- The smallest cycle of negative weight of a list's graph: gate.Conflict. -/
import Derived.Test.YtcidfldeiklcjaaGreatDoorCfp
import Derived.StillTailTactics
namespace Go.Proofs.YtcidfldeiklcjaaGreatDoor
open Go.RowKit Tm Bf

def ConE (s : Stp) (keys : List Int) (l : List Ent) (dr : Int) (w : World) (e : Ending) (w' : World) : Prop := Kept [] w w' ∧
  (((setupB s && inB dr 0 1000) = false ∧ e = .returned (.slice none 0 0)) ∨
   ((setupB s && inB dr 0 1000) = true ∧ ∃ o : List Ent, JoinIs (signedB s keys) l o ∧ o.length ≤ 12 ∧ (∀ x ∈ o, WF x) ∧ 0 ≤ dr ∧ dr ≤ 1000 ∧
     ∃ (c : List Nat) (a : Option Addr) (cp : Nat), e = .returned (.slice a c.length cp) ∧ Row w' 1 (.slice a c.length cp) c.length (ints (natI c)) ∧ IsConf (Gl o dr) (o.length + 1) c))
theorem infoGra : (Tryz.prog.info? 56).map (fun i => (i.zero, i.size, i.bytes)) = some (some (.slice none 0 0), 1, 24) := by kernel_rfl
/-- the matrices so far -/
structure BkS (w wr : World) (n : Nat) (l : List Gf) (X : List Nat) (v : Value) : Prop where
  gr : Grow (GraR n) 1 56 w.heap.size X wr v l
  vX : ∀ z ∈ obl v, z ∈ X
  hX : ∀ z ∈ X, z < wr.heap.size
  kb : Kept [] w wr
theorem BkS.keep {w wr w' : World} {n : Nat} {l : List Gf} {X : List Nat} {v : Value} (h : BkS w wr n l X v) (k : Kept [] wr w') : BkS w w' n l X v :=
  ⟨h.gr.step k (by simp) (by simp) (fun z hz => Or.inl hz), h.vX, fun z hz => Nat.lt_of_lt_of_le (h.hX z hz) k.size, h.kb.trans k⟩
theorem BkS.push {w wr wu : World} {n : Nat} {l : List Gf} {X : List Nat} {v : Value} {b : Gf} {p : Option Addr} {q : Nat} (h : BkS w wr n l X v) (k1 : Kept (obl v) wr wu)
    (G : Grow (GraR n) 1 56 w.heap.size (X ++ obl (.slice p (l.length + 1) q)) wu (.slice p (l.length + 1) q) (l ++ [b])) : BkS w wu n (l ++ [b]) (X ++ obl (.slice p (l.length + 1) q)) (.slice p (l.length + 1) q) :=
  ⟨G, fun z hz => List.mem_append_right _ hz, fun z hz => by
    rcases List.mem_append.1 hz with e | e
    · exact Nat.lt_of_lt_of_le (h.hX z e) k1.size
    · exact (G.ge z e).2, h.kb.fresh k1 (fun z hz => (h.gr.ge z hz).1)⟩
def idG : Gf := fun a b => if a = b then 0 else far
/-- the first matrix under way -/
structure IdW (w wr : World) (n g bb : Nat) (rb : Nat → Nat) (M : Gf) (k : Nat) : Prop where
  pre : PreM wr w.heap.size g n rb k M
  box : Blk wr bb 56 #[.slice (some ⟨g, 0, none⟩) n n]
  ne : ∀ a, a < k → rb a ≠ bb
  val : ∀ a, a < k → ∀ b, b < n → M a b = idG a b
  kept : Kept [] w wr
theorem IdW.next {w wr w' : World} {n g bb k b : Nat} {rb : Nat → Nat} {M : Gf} (h : IdW w wr n g bb rb M k) (hk : k < n) (hg : w.heap.size ≤ g) (hgb : g < bb) (hb : wr.heap.size ≤ b) (k1 : Kept [] wr w') (ho : GutAt w' b n fun _ => far) :
    IdW w ((w'.setCell ⟨g, k, none⟩ (.slice (some ⟨b, 0, none⟩) n n)).setCell ⟨b, k, none⟩ (.int .i64 0)) n g bb (fun a => if a = k then b else rb a) (fun i j => if i = k ∧ j = k then 0 else if i = k then far else M i j) (k + 1) := by
  have hbl := h.box.lt
  have hp := (h.pre.next hk h.kept.size hb k1 ho).set_ (a := k) (b := k) (by omega) hk 0
  simp only [if_true] at hp
  refine ⟨hp.congr fun i j hi hj => ?_, ((h.box.kept k1 (by simp)).far (p := ⟨g, k, none⟩) (by simp; omega) _).far (p := ⟨b, k, none⟩) (by simp; omega) _, fun a ha => ?_, fun a ha j hj => ?_, ?_⟩
  · by_cases e : i = k
    · simp [e]
    · simp [e]
  · by_cases e : a = k
    · simp only [if_pos e]; omega
    · simp only [if_neg e]; exact h.ne a (by omega)
  · unfold idG
    by_cases e : a = k
    · subst e
      by_cases e2 : j = a
      · subst e2; simp
      · rw [if_neg (fun h => e2 h.2), if_pos rfl, if_neg (fun h => e2 h.symm)]
    · rw [if_neg (fun h => e h.1), if_neg e]; exact h.val a (by omega) j hj
  · refine ((h.kept.trans k1).setCell (Or.inr hg) _).setCell (Or.inr ?_) _
    have := h.kept.size
    simp only
    omega

theorem own_of_blkB {w : World} {B g : Nat} {T : TypeId} {cs : List Value} (h : Blk w g T cs.toArray) (hB : B ≤ g) (hn : cs.length ≤ maxLen) : w.ownsRow B T 1 (.slice (some ⟨g, 0, none⟩) cs.length cs.length) cs.length cs :=
  ⟨by simp, Or.inr ⟨g, cs.length, cs.toArray, rfl, hB, h, Nat.le_refl _, hn, by simp, by simp⟩⟩
theorem back_congr {G : Gf} {n k : Nat} {M M' : Gf} (h : Back G n k M) (e : ∀ a b, a < n → b < n → M a b = M' a b) : Back G n k M' := fun a b ha hb => by
  have := h a b ha hb
  rw [e a b ha hb] at this
  exact this
theorem IdW.back {w wr : World} {n g bb : Nat} {rb : Nat → Nat} {M G : Gf} (h : IdW w wr n g bb rb M n) : Back G n 0 M := back_congr back_zero fun a b ha hb => (h.val a ha b hb).symm
theorem IdW.bks {w wr : World} {n g bb : Nat} {rb : Nat → Nat} {M : Gf} (h : IdW w wr n g bb rb M n) (hg : w.heap.size ≤ bb) (hb : g ≠ bb) : BkS w wr n [M] [bb] (.slice (some ⟨bb, 0, none⟩) 1 1) :=
  ⟨⟨[[.slice (some ⟨g, 0, none⟩) n n]], own_of_blkB (cs := [.slice (some ⟨g, 0, none⟩) n n]) h.box hg (show 1 ≤ maxLen by decide),
    (h.pre.done.stable (X := [bb]) (by rw [List.mem_singleton]; exact hb) (fun a ha => by rw [List.mem_singleton]; exact h.ne a ha)).imp fun _ hR => (Elems.nil_ _ _ _).snoc rfl hR⟩,
   fun z hz => by rw [List.mem_singleton]; have h := obl_mem hz; have h2 : some bb = some z := h; injection h2 with h3; exact h3.symm, fun z hz => by rw [List.mem_singleton] at hz; subst hz; exact h.box.lt, h.kept⟩

set_option maxRecDepth 100000 in
set_option maxHeartbeats 8000000 in
theorem conflict_any (vs vk va : Value) (s : Stp) (keys : List Int) (l : List Ent) (dr : Int) (w : World) (hs : StpV w vs s) (hk : Row w 1 vk keys.length (ints keys)) (ha : EntsV w va l) (hl : l.length ≤ 12) (hI : ∀ e ∈ l, EntI e) (hki : ∀ x ∈ keys, Wire.I64 x) (hE : Env2 w) :
    Calls Tryz.prog 12 #[vs, vk, va, .int .i64 dr] w (ConE s keys l dr w) := by
  have hs' := hs
  obtain ⟨⟨ad, cc, rfl, hrow⟩, ip, iq, ig, ib, il⟩ := hs'
  obtain ⟨aa, ca, rfl, _, _⟩ := RowOf.form ha
  obtain ⟨ka, kc, rfl, _, _⟩ := hk.form
  obtain ⟨W, hW⟩ : ∃ W, w.alloc (.cells (stpA s (.slice ad s.bases.length cc)) 26) = W := ⟨_, rfl⟩
  have hb : Blk W w.heap.size 26 (stpA s (.slice ad s.bases.length cc)) := hW ▸ Blk.new _ _ _
  have hkW : Kept [] w W := hW ▸ (Kept.refl _ _).alloc _
  have TM : Hid (Calls Tryz.prog 25 #[.agg #[.int .i64 s.P, .int .i64 s.Q, .int .i64 s.G, .slice ad s.bases.length cc, .int .i64 s.blind], .slice ka keys.length kc, .slice aa l.length ca, .int .i64 dr] W (TmE s keys l dr W)) :=
    timed_any _ _ _ s keys l dr W (hs.kept hkW) (hk.kept hkW) (ha.kept hkW) hl hI hki (hE.kept0 hkW)
  have s0 : W.cell? ⟨w.heap.size, 0, none⟩ = some (.int .i64 s.P) := hb.cell 0
  have s1 : W.cell? ⟨w.heap.size, 1, none⟩ = some (.int .i64 s.Q) := hb.cell 1
  have s2 : W.cell? ⟨w.heap.size, 2, none⟩ = some (.int .i64 s.G) := hb.cell 2
  have s3 : W.cell? ⟨w.heap.size, 3, none⟩ = some (.slice ad s.bases.length cc) := hb.cell 3
  have s4 : W.cell? ⟨w.heap.size, 4, none⟩ = some (.int .i64 s.blind) := hb.cell 4
  have HW := Lib.hid hW
  have HKW := Lib.hid hkW
  obtain ⟨i0, hi, hz0, hz1, hz2⟩ := info_parts infoSl
  obtain ⟨j0, hj, hy0, hy1, hy2⟩ := info_parts infoGra
  clear hW hb hrow hkW hs hk ha hki hE ib hI
  show Calls _ _ #[.agg #[.int .i64 s.P, .int .i64 s.Q, .int .i64 s.G, .slice ad s.bases.length cc, .int .i64 s.blind], _, _, _] _ _
  go_enter Tryz.func12, Tryz.ntmps12
  go_upto_region 1 with (fail)
  have hW' : w.alloc (.cells #[.int .i64 s.P, .int .i64 s.Q, .int .i64 s.G, .slice ad s.bases.length cc, .int .i64 s.blind] 26) = W := HW.out
  rw [hW']
  clear hW'
  go_wp2_with (go_at_call 25; with_reducible refine TM.out.mono ?_)
  rintro e w1 ⟨k1, ⟨hno, rfl⟩ | ⟨hyes, o, gb, hjo, hlo, hwf, hd0, hd1, rfl, hm⟩⟩
  · have HNO := Lib.hid hno
    have K1 := Lib.hid k1
    clear s0 s1 s2 s3 s4 hno k1
    go_wp2_with fail
    go_ret
    unfold ConE
    exact ⟨HKW.out.trans K1.out, Or.inl ⟨HNO.out, rfl⟩⟩
  have HYES := Lib.hid hyes
  have K1 := Lib.hid (HKW.out.trans k1)
  have HJO := Lib.hid hjo
  have HWF := Lib.hid hwf
  have HD := Lib.hid (And.intro hd0 hd1)
  have HGB := Lib.hid (gl_bd o dr hd0 hd1 hwf)
  have hmm : MatV w1 (.slice (some ⟨gb, 0, none⟩) (o.length + 1) (o.length + 1)) (o.length + 1) (Gl o dr) := hm
  obtain ⟨G, hG⟩ : ∃ G, Gl o dr = G := ⟨_, rfl⟩
  have HGE := Lib.hid hG
  rw [hG] at hmm HGB
  obtain ⟨N, hn⟩ : ∃ N, o.length + 1 = N := ⟨_, rfl⟩
  have HN := Lib.hid hn
  have hN1 : 1 ≤ N := by omega
  have hN13 : N ≤ 13 := by omega
  rw [hn] at hmm HGB ⊢
  have HMV := Lib.hid hmm
  obtain ⟨gb', gc', rb, cp, hgv, hgc, hmc⟩ := hmm
  injection hgv with h1 _ h3
  injection h1 with h1
  injection h1 with h1
  subst h1 h3
  have HM := Lib.hid hmc
  clear s0 s1 s2 s3 s4 hyes k1 hjo hwf hd0 hd1 hm hmc hG hn TM hlo
  go_wp2_with (at_make; refine wpList_make_full _ rfl _ _ 56 rfl w1.heap.size 24 i0 (.slice none 0 0) 1 Tryz.underlying56 hi hz0 hz1 _ _ _ _ N rfl rfl ?b0 ?b0' ?b1 ?b2 (Nat.le_refl _) ?_)
  case b0 => rfl
  case b0' => rfl
  case b1 => rw [hz2]; omega
  case b2 => unfold maxLen; omega
  intro w2 hown hgr
  rw [show (madeCells #[Value.slice none 0 0] N).toList = _ from made_one _ _] at hown
  have hbl2 := own_made hown
  have hk2 : Kept [] w1 w2 := Kept.of_grown hgr (by simp)
  obtain ⟨bb, hbb⟩ : ∃ bb, w2.heap.size = bb := ⟨_, rfl⟩
  have hgbb : w1.heap.size < bb := by have := hbl2.lt; omega
  obtain ⟨W3, hW3⟩ : ∃ W3, w2.alloc (.cells #[.slice (some ⟨w1.heap.size, 0, none⟩) N N] 56) = W3 := ⟨_, rfl⟩
  have HID0 : Hid (IdW w1 W3 N w1.heap.size bb (fun _ => 0) idG 0) := hW3 ▸ ⟨PreM.start (hbl2.alloc _), hbb ▸ Blk.new _ _ _, fun a ha => by omega, fun a ha => by omega, hk2.alloc _⟩
  have HW3 := Lib.hid hW3
  have HBB := Lib.hid hbb
  clear hown hgr hbl2 hk2 hW3 hbb
  go_upto_region 5 with (fail)
  have hW' : w2.alloc (.cells #[.slice (some ⟨w1.heap.size, 0, none⟩) N N] 56) = W3 := HW3.out
  rw [hW', HBB.out]
  clear hW' HW3 HBB
  go_wp2_with fail
  go_loopw [12, 37] (fun _ vi wr => ∃ (k : Nat) (rb0 : Nat → Nat) (M : Gf), k ≤ N ∧ vi = .int .i64 k ∧ Hid (IdW w1 wr N w1.heap.size bb rb0 M k)) (fun _ vi _ => N - (intOf vi).toNat)
  case atStart => exact ⟨0, _, _, by omega, rfl, HID0⟩
  case round =>
    obtain ⟨k, rb0, M, hkN, rfl, HI⟩ := hrel
    by_cases hkn : k < N
    · have hk0 : (0 : Int) ≤ (k : Int) := by omega
      have hk1 : (k : Int) < (N : Int) := by omega
      have e0 : ∀ w', Kept [] wr w' → w'.cell? ⟨bb, 0, none⟩ = some (.slice (some ⟨w1.heap.size, 0, none⟩) N N) := Kept.cellOf (HI.out.box.cell 0)
      go_upto_region 8 with (fail)
      refine wp_region_T [9] (fun w' => Kept [] wr w') (by kernel_rfl) (Kept.refl _ _).drew (fun hH => ?_)
      refine takeT [1, 2, 8, 9] (i := 0) (v := ?tv1) rfl (by kernel_rfl) (by kernel_rfl) (by kernel_rfl) (by kernel_rfl) (fun _ _ _ h => h) (Or.inl ⟨by rfl, ?ty1⟩) hH ?tr1
      case ty1 => intro w' hSw; (try dsimp only at hSw); go_simp; first | done | with_reducible rfl
      simp only [Act.put, List.setIfInBounds_toArray, List.set_cons_zero, List.set_cons_succ]
      refine takeT [2, 8, 9] (i := 1) (v := ?tv2) rfl (by kernel_rfl) (by kernel_rfl) (by kernel_rfl) (by kernel_rfl) (fun _ _ _ h => h) (Or.inl ⟨by rfl, ?ty2⟩) hH ?tr2
      case ty2 => intro w' hSw; (try dsimp only at hSw); go_simp; first | done | with_reducible rfl
      simp only [Act.put, List.setIfInBounds_toArray, List.set_cons_zero, List.set_cons_succ]
      refine takeT [8, 9] (i := 2) (v := ?tv3) rfl (by kernel_rfl) (by kernel_rfl) (by kernel_rfl) (by kernel_rfl) (fun _ _ _ h => h) (Or.inl ⟨by rfl, ?ty3⟩) hH ?tr3
      case ty3 => intro w' hSw; (try dsimp only at hSw); go_simp; first | done | with_reducible rfl
      simp only [Act.put, List.setIfInBounds_toArray, List.set_cons_zero, List.set_cons_succ]
      refine takeT [8, 9] (i := 3) (v := ?tv4) rfl (by kernel_rfl) (by kernel_rfl) (by kernel_rfl) (by kernel_rfl) (fun _ _ _ h => h) (Or.inl ⟨by rfl, ?ty4⟩) hH ?tr4
      case ty4 => intro w' hSw; (try dsimp only at hSw); go_simp; first | done | with_reducible rfl
      simp only [Act.put, List.setIfInBounds_toArray, List.set_cons_zero, List.set_cons_succ]
      refine takeT [6, 7, 8, 9] (i := 5) (v := ?tv5) rfl (by kernel_rfl) (by kernel_rfl) (by kernel_rfl) (by kernel_rfl) (fun _ _ _ h => h) (Or.inl ⟨by rfl, ?ty5⟩) hH ?tr5
      case ty5 => intro w' hSw; (try dsimp only at hSw); go_simp; first | done | with_reducible rfl
      simp only [Act.put, List.setIfInBounds_toArray, List.set_cons_zero, List.set_cons_succ]
      refine takeT [7, 8, 9] (i := 6) (v := ?tv6) rfl (by kernel_rfl) (by kernel_rfl) (by kernel_rfl) (by kernel_rfl) (fun _ _ _ h => h) (Or.inl ⟨by rfl, ?ty6⟩) hH ?tr6
      case ty6 => intro w' hSw; (try dsimp only at hSw); go_simp; first | done | with_reducible rfl
      simp only [Act.put, List.setIfInBounds_toArray, List.set_cons_zero, List.set_cons_succ]
      refine wpAnyT_ready (rs := [4]) (by kernel_rfl) (by simp) ?_
      refine AllReadyT.cons rfl (fun K hK => ?_) AllReadyT.nil
      go_simp
      refine hK.out _ _ (((Kept.refl [] wr).drew).alloc _) (fun hH => ?_)
      clear hK K
      (try simp only [Act.put, List.setIfInBounds_toArray, List.set_cons_zero, List.set_cons_succ])
      refine wpAnyT_ready (rs := [7]) (by kernel_rfl) (by simp) ?_
      refine AllReadyT.cons rfl (fun K hK => ?_) AllReadyT.nil
      go_simp
      refine (rep_any 1152921504606846976 N _ _ _ (by exact Row.lit _ [1152921504606846976] (by simp)) (by omega) (by omega)).mono ?_
      rintro e w4 ⟨b, rfl, hb, hb2, hk4⟩
      have k4 : Kept [] wr w4 := (((Kept.refl [] wr).drew).alloc _).trans hk4
      refine hK.out _ _ k4 (fun hH => ?_)
      clear hK K
      (try simp only [Act.put, List.setIfInBounds_toArray, List.set_cons_zero, List.set_cons_succ])
      refine takeT [9] (i := 8) (v := ?tv7) rfl (by kernel_rfl) (by kernel_rfl) (by kernel_rfl) (by kernel_rfl) (fun _ _ _ h => h) (Or.inl ⟨by rfl, ?ty7⟩) hH ?tr7
      case ty7 => intro w' hSw; (try dsimp only at hSw); go_simp; first | done | with_reducible rfl
      simp only [Act.put, List.setIfInBounds_toArray, List.set_cons_zero, List.set_cons_succ]
      rw [outC_all] at hb2
      have ho4 : GutAt w4 b N fun _ => far := hb2
      have hbs : wr.heap.size ≤ b := by
        have h : (wr.drew.alloc (.cells (ints [1152921504606846976]).toArray 3)).heap.size ≤ b := hb
        rw [World.size_alloc] at h
        have h2 : wr.heap.size = wr.drew.heap.size := rfl
        omega
      have cg : w4.cell? ⟨w1.heap.size, k, none⟩ = some (.slice none 0 0) := Kept.cellOf (by rw [HI.out.pre.g.cell k, List.getElem?_toArray, gC_get hkn]; simp) _ k4
      have fg : w4.frozen? ⟨w1.heap.size, k, none⟩ = false := (HI.out.pre.g.kept k4 (by simp)).frozen k
      have hnx := HI.out.next hkn (Nat.le_refl _) hgbb hbs k4 ho4
      have hp5 := HI.out.pre.next hkn HI.out.kept.size hbs k4 ho4
      have hbx := ((HI.out.box.kept k4 (by simp)).far (p := ⟨w1.heap.size, k, none⟩) (by simp; omega) (.slice (some ⟨b, 0, none⟩) N N)).cell 0
      clear e0 hb hb2 hk4
      refine wpAnyT_ready (rs := [9]) (by kernel_rfl) (by simp) ?_
      refine AllReadyT.last rfl (by kernel_rfl) (fun K hK => ?_)
      go_simp
      refine hK.out _ _ ?_
      clear hK K
      (try simp only [Act.put, List.setIfInBounds_toArray, List.set_cons_zero, List.set_cons_succ])
      refine wpAnyT_done (by kernel_rfl) ?_ _
      obtain ⟨W5, hW5⟩ : ∃ W5, w4.setCell ⟨w1.heap.size, k, none⟩ (.slice (some ⟨b, 0, none⟩) N N) = W5 := ⟨_, rfl⟩
      rw [hW5] at hnx hp5 hbx ⊢
      have hbx' : W5.cell? ⟨bb, 0, none⟩ = some (.slice (some ⟨w1.heap.size, 0, none⟩) N N) := hbx
      have hg5 := hp5.gcell (a := k) (by omega) (by omega)
      have hr5 := hp5.row k (by omega)
      simp only [if_true] at hg5 hr5
      have hc5 := hr5.cell (v := k) hkn
      have hf5 := hr5.frozen k
      have HNX := Lib.hid hnx
      clear hnx hp5 hbx cg fg ho4 hW5 hr5 k4
      go_wp2_with fail
      go_roundw
      case rel => exact ⟨k + 1, _, _, by omega, by go_num, HNX⟩
      case measure => simp [intOf]; omega
    · obtain rfl : k = N := by omega
      have HS0 := Lib.hid (HI.out.bks (by omega) (by omega))
      have HC0 := Lib.hid (cfS_one (HI.out.back (G := G)))
      clear HID0 HI
      go_wp2_with fail
      go_loopw [11, 13] (fun vb vk wr => ∃ (Ms : List Gf) (a : Option Addr) (c : Nat) (X : List Nat), 1 ≤ Ms.length ∧ Ms.length ≤ k + 1 ∧ vk = .int .i64 ((Ms.length : Nat) : Int) ∧ vb = .slice a Ms.length c ∧ Hid (CfS G k Ms) ∧ Hid (BkS w1 wr k Ms X (.slice a Ms.length c))) (fun _ vk _ => k + 1 - (intOf vk).toNat)
      case atStart => exact ⟨[M], _, _, [bb], by simp, by simp, rfl, rfl, HC0, HS0⟩
      case round =>
        obtain ⟨Ms, a, c, X, hl1, hl2, rfl, rfl, HC, HB⟩ := hrel
        obtain ⟨wk, hwk⟩ : ∃ wk, wk = wr := ⟨_, rfl⟩
        subst hwk
        obtain ⟨q, hq⟩ : ∃ q, Ms.length = q + 1 := ⟨Ms.length - 1, by omega⟩
        have HQ := Lib.hid hq
        rw [hq] at HB hl1 hl2 ⊢
        clear hq HC0 HS0
        by_cases hqk : q + 1 ≤ k
        · have hqk1 : ((q : Int) + 1) ≤ (k : Int) := by omega
          have hkb := HB.out.kb
          have HKB := Lib.hid hkb
          have HRO : Hid (RowOf (GraR k) 1 wk (.slice a (q + 1) c) Ms) := HB.out.gr.row (by rw [HQ.out]; omega)
          clear hkb
          go_wp2_with (at_make; refine wpList_make_full _ rfl _ _ 56 rfl wk.heap.size 24 i0 (.slice none 0 0) 1 Tryz.underlying56 hi hz0 hz1 _ _ _ _ k rfl rfl ?b0 ?b0' ?b1 ?b2 (Nat.le_refl _) ?_)
          case b0 => rfl
          case b0' => rfl
          case b1 => rw [hz2]; omega
          case b2 => unfold maxLen; omega
          intro w5 hown hgr
          rw [show (madeCells #[Value.slice none 0 0] k).toList = _ from made_one _ _] at hown
          have HA0 : Hid (NxA wk w5 G k q wk.heap.size (fun _ => 0) idG 0) := ⟨PreM.start (own_made hown), fun i hi => by omega, Kept.of_grown hgr (by simp)⟩
          clear hown hgr
          go_wp2_with fail
          go_loopw [15, 69] (fun _ vi wr => ∃ (a : Nat) (rb0 : Nat → Nat) (M : Gf), a ≤ k ∧ vi = .int .i64 a ∧ Hid (NxA wk wr G k q wk.heap.size rb0 M a)) (fun _ vi _ => k - (intOf vi).toNat)
          case atStart => exact ⟨0, _, _, by omega, rfl, HA0⟩
          case round =>
            obtain ⟨x, rb1, M1, hxk, rfl, HA⟩ := hrel
            clear HA0
            by_cases hxn : x < k
            · go_wp2_with (go_at_call 33; refine (rep_any 1152921504606846976 k _ _ _ (by exact Row.lit _ [1152921504606846976] (by simp)) (by omega) (by omega)).mono ?_)
              rintro e w4 ⟨b, rfl, hb, hb2, hk4⟩
              rw [outC_all] at hb2
              have ho4 : GutAt w4 b k fun _ => far := hb2
              have k4 : Kept [] wr w4 := ((Kept.refl [] wr).alloc _).trans hk4
              have hbs : wr.heap.size ≤ b := by simp at hb; omega
              have cg : w4.cell? ⟨wk.heap.size, x, none⟩ = some (.slice none 0 0) := Kept.cellOf (by rw [HA.out.pre.g.cell x, List.getElem?_toArray, gC_get hxn]; simp) _ k4
              have fg : w4.frozen? ⟨wk.heap.size, x, none⟩ = false := (HA.out.pre.g.kept k4 (by simp)).frozen x
              have hnw := HA.out.go hxn (Nat.le_refl _) hbs k4 ho4
              clear hb hb2 hk4
              go_upto_region 19 with (fail)
              obtain ⟨W5, hW5⟩ : ∃ W5, w4.setCell ⟨wk.heap.size, x, none⟩ (.slice (some ⟨b, 0, none⟩) k k) = W5 := ⟨_, rfl⟩
              rw [hW5] at hnw ⊢
              obtain ⟨rbn, hrbn⟩ : ∃ rbn, (fun i => if i = x then b else rb1 i) = rbn := ⟨_, rfl⟩
              rw [hrbn] at hnw
              obtain ⟨hcp, hrow, hcell⟩ := HM.out x hxn
              have g0 := Kept.cellOf hrow _ (HKB.out.trans hnw.kept)
              have HGC := Lib.hid hcell
              have HNW := Lib.hid hnw
              clear hnw cg fg ho4 hW5 k4 hrbn hrow hcell
              go_wp2_with fail
              go_loopw [16, 17, 84] (fun _ _ vi wr => ∃ (m : Nat) (M : Gf), m ≤ k ∧ vi = .int .i64 m ∧ Hid (NxW wk wr G k q wk.heap.size rbn M x m 0)) (fun _ _ vi _ => k - (intOf vi).toNat)
              case atStart => exact ⟨0, _, by omega, rfl, HNW⟩
              case round =>
                obtain ⟨m, M2, hmk, rfl, HW1⟩ := hrel
                clear HNW
                by_cases hmn : m < k
                · have g1 := Kept.cellOf (HGC.out m hmn) _ (HKB.out.trans HW1.out.kept)
                  have hqm : q < Ms.length := by have := HQ.out; omega
                  obtain ⟨bb2, bo, bv, hbv, hbcell, vm, hvm, hmm⟩ := HRO.out.one q hqm
                  injection hvm with hvm _
                  subst hvm
                  subst hbv
                  obtain ⟨mb, mc, mrb, mcp, rfl, hmc, hmcell⟩ := hmm
                  have b0 := Kept.cellOf hbcell _ HW1.out.kept
                  obtain ⟨hmp, hmrow, hmel⟩ := hmcell m hmn
                  have b1 := Kept.cellOf hmrow _ HW1.out.kept
                  have HBK : Hid (Back G k q Ms[q]) := HC.out.back q hqm
                  obtain ⟨P, hP⟩ : ∃ P, Ms[q] = P := ⟨_, rfl⟩
                  rw [hP] at hmel HBK
                  have HME := Lib.hid hmel
                  have gbd := HGB.out x m hxn hmn
                  obtain ⟨g, hg⟩ : ∃ g, G x m = g := ⟨_, rfl⟩
                  have HGG := Lib.hid hg
                  rw [hg] at g1 gbd
                  have gsm : g = 1152921504606846976 ∨ (-8589934592 ≤ g ∧ g ≤ 8589934592) := gbd
                  have wq : IntKind.i64.wrap (q : Int) = (q : Int) := by rw [IntKind.wrap_i64]; omega
                  clear hbcell hmcell hmrow hmel hP gbd hg
                  go_wp2_with fail
                  go_loopw [18, 19, 98] (fun _ _ vi wr => ∃ (b : Nat) (M : Gf), b ≤ k ∧ vi = .int .i64 b ∧ Hid (NxW wk wr G k q wk.heap.size rbn M x m b)) (fun _ _ vi _ => k - (intOf vi).toNat)
                  case atStart => exact ⟨0, _, by omega, rfl, HW1⟩
                  case round =>
                    obtain ⟨j, M3, hjk, rfl, HX⟩ := hrel
                    clear b0 b1 g1 g0
                    by_cases hjn : j < k
                    · have p0 := Kept.cellOf (HME.out j hjn) _ HX.out.kept
                      have mbd := back_small HGB.out HBK.out (by omega) hmn hjn
                      have n0 := HX.out.pre.gcell (a := x) (by omega) (by omega)
                      have n1 := (HX.out.pre.row x (by omega)).cell hjn
                      have n2 := (HX.out.pre.row x (by omega)).frozen j
                      have HSK : Hid (far ≤ G x m ∨ far ≤ P m j → NxW wk wr G k q wk.heap.size rbn M3 x m (j + 1)) := fun h => HX.out.skip HBK.out hmn hjn h
                      have HTK : Hid (G x m < far → P m j < far → G x m + P m j < far → NxW wk (wr.drew.setCell ⟨rbn x, j, none⟩ (.int .i64 (min (M3 x j) (G x m + P m j)))) G k q wk.heap.size rbn (fun i' j' => if i' = x ∧ j' = j then min (M3 x j) (G x m + P m j) else M3 i' j') x m (j + 1)) := fun h1 h2 h3 => HX.out.drew.take HBK.out hxn hmn hjn h1 h2 h3 rfl
                      rw [HGG.out] at HSK HTK
                      obtain ⟨p, hp⟩ : ∃ p, P m j = p := ⟨_, rfl⟩
                      obtain ⟨y, hy⟩ : ∃ y, M3 x j = y := ⟨_, rfl⟩
                      rw [hp] at p0 mbd HSK HTK
                      rw [hy] at n1 HTK
                      clear hp hy
                      by_cases c1 : g < 1152921504606846976
                      · have d1 : decide (g < 1152921504606846976) = true := by simpa using c1
                        have hg2 : -8589934592 ≤ g ∧ g ≤ 8589934592 := by omega
                        by_cases c2 : p < 1152921504606846976
                        · have d2 : decide (p < 1152921504606846976) = true := by simpa using c2
                          have hp2 : -274877906944 ≤ p ∧ p ≤ 274877906944 := by omega
                          have ws : IntKind.i64.wrap (g + p) = g + p := by rw [IntKind.wrap_i64]; omega
                          have HT := Lib.hid (HTK.out c1 c2 (by show g + p < 1152921504606846976; omega))
                          clear HTK HSK
                          go_upto_region 26 with (fail)
                          go_still_tail 17, (by kernel_rfl)
                          change wpList _ _ _ _ _ wr.drew
                          go_wp2_with fail
                          go_roundw
                          case rel => exact ⟨j + 1, _, by omega, by go_num, HT⟩
                          case measure => simp [intOf]; omega
                        · have d2 : decide (p < 1152921504606846976) = false := by simpa using c2
                          have HT := Lib.hid (HSK.out (Or.inr (by show 1152921504606846976 ≤ p; omega)))
                          clear HTK HSK
                          go_wp2_with fail
                          go_roundw
                          case rel => exact ⟨j + 1, _, by omega, by go_num, HT⟩
                          case measure => simp [intOf]; omega
                      · have d1 : decide (g < 1152921504606846976) = false := by simpa using c1
                        have HT := Lib.hid (HSK.out (Or.inl (by show 1152921504606846976 ≤ g; omega)))
                        clear HTK HSK
                        go_wp2_with fail
                        go_roundw
                        case rel => exact ⟨j + 1, _, by omega, by go_num, HT⟩
                        case measure => simp [intOf]; omega
                    · have hX2 := HX.out
                      rw [show j = k by omega] at hX2
                      have HX3 := Lib.hid hX2.col
                      clear hX2
                      go_wp2_with fail
                      exact ⟨⟨m + 1, _, by omega, by go_num, HX3⟩, by simp [intOf]; omega⟩
                · have hX2 := HW1.out
                  rw [show m = k by omega] at hX2
                  have HX3 := Lib.hid hX2.fin
                  clear hX2
                  go_wp2_with fail
                  exact ⟨⟨x + 1, _, _, by omega, by go_num, HX3⟩, by simp [intOf]; omega⟩
            · obtain rfl : x = k := by omega
              have HBN : Hid (Back G x (q + 1) M1) := HA.out.back
              have hb2 := HB.out.keep HA.out.kept
              have hmw := HA.out.pre.done
              obtain ⟨W6, hW6⟩ : ∃ W6, wr.alloc (.cells #[.slice (some ⟨wk.heap.size, 0, none⟩) x x] 56) = W6 := ⟨_, rfl⟩
              have ka : Kept [] wr W6 := hW6 ▸ (Kept.refl _ _).alloc _
              have HB6 := Lib.hid (hb2.keep ka)
              have hX := HB.out.hX
              have hst : Hid (Stable X (fun w => GraR x w [.slice (some ⟨wk.heap.size, 0, none⟩) x x] M1) W6) :=
                (hmw.stable (X := X) (fun h => absurd (hX _ h) (Nat.lt_irrefl _)) (fun i hi h => by have h1 := hX _ h; have h2 := hmw.ge i hi; omega)).step ka (by simp) (fun z hz => Or.inl hz)
              have hle : Hid (w1.heap.size ≤ W6.heap.size) := HB6.out.kb.size
              have hrow : Hid (Row W6 1 (.slice (some ⟨wr.heap.size, 0, none⟩) 1 1) 1 [.slice (some ⟨wk.heap.size, 0, none⟩) x x]) := hW6 ▸ rowS rfl _ _ _ rfl
              have HW6 := Lib.hid hW6
              have hml : Ms.length ≤ 1000000000 := by rw [HQ.out]; omega
              clear hb2 hmw hW6 ka hX HRO HA
              go_upto_region 30 with (fail)
              go_wp2_with (at_builtin; rw [HW6.out]; (refine wpList_append_grow rfl _ _ 69 rfl j0 (.slice none 0 0) 24 Tryz.underlying69 hj hy0 hy1 hy2 rfl (by decide) (by decide) rfl HB6.out.gr _ [.slice (some ⟨wk.heap.size, 0, none⟩) x x] M1 rfl hrow.out hst.out (by simp [Value.oneCell']) hml hle.out HB6.out.vX ?_))
              intro p9 q9 y9 G9 k9 t9
              have hmv := hst.out _ y9 k9 (fun z hz _ => HB6.out.vX z hz)
              obtain ⟨v0, hv0, hmv2⟩ := hmv
              injection hv0 with hv0 _
              subst hv0
              obtain ⟨gb2, gc2, rb2, cp2, hgv2, hgc2, hmc2⟩ := hmv2
              injection hgv2 with h1 _ h3
              injection h1 with h1
              injection h1 with h1
              subst h1 h3
              have HM2 := Lib.hid hmc2
              have HKW9 : Hid (Kept [] w1 y9) := HB6.out.kb.fresh k9 (fun z hz => (HB6.out.gr.ge z hz).1)
              have hpn := HB6.out.push k9 (by rw [HQ.out] at G9 ⊢; exact G9)
              rw [HQ.out] at hpn
              obtain ⟨X9, hX9⟩ : ∃ X9, X ++ obl (.slice p9 (q + 1 + 1) q9) = X9 := ⟨_, rfl⟩
              rw [hX9] at hpn
              have HPN := Lib.hid hpn
              have hlen : (Ms ++ [M1]).length = q + 1 + 1 := by rw [List.length_append, HQ.out]; rfl
              have HLN := Lib.hid hlen
              have HRW : Hid (RowOf (GraR x) 1 y9 (.slice p9 (q + 1 + 1) q9) (Ms ++ [M1])) := hpn.gr.row (by rw [hlen]; omega)
              rw [HQ.out]
              clear G9 k9 t9 hst hrow hle HB6 hmc2 hpn hX9 hlen hml HB
              go_wp2_with fail
              go_loopw [20, 135] (fun _ vi wr => ∃ y : Nat, y ≤ x ∧ vi = .int .i64 y ∧ Hid (∀ z, z < y → ¬ M1 z z < 0) ∧ Hid (Kept [] y9 wr)) (fun _ vi _ => x - (intOf vi).toNat)
              case atStart => exact ⟨0, by omega, rfl, fun z hz => by omega, Kept.refl _ _⟩
              case round =>
                obtain ⟨y, hyx, rfl, HNN, HK9⟩ := hrel
                by_cases hyn : y < x
                · obtain ⟨hc2, hrow2, hel2⟩ := HM2.out y hyn
                  have n0 := Kept.cellOf hrow2 _ HK9.out
                  have n1 := Kept.cellOf (hel2 y hyn) _ HK9.out
                  have HBG : Hid (M1 y y < 0 ↔ Neg G x (q + 1) y) := back_neg HBN.out hyn
                  have HMN : Hid (∀ z, z < y → ¬ Neg G x (q + 1) z) := fun z hz hn => HNN.out z hz ((back_neg HBN.out (by omega)).2 hn)
                  have HN1 : Hid (¬ M1 y y < 0 → ∀ z, z < y + 1 → ¬ M1 z z < 0) := fun h z hz => by
                    rcases Nat.lt_or_ge z y with h1 | h1
                    · exact HNN.out z h1
                    · obtain rfl : z = y := by omega
                      exact h
                  obtain ⟨t, ht⟩ : ∃ t, M1 y y = t := ⟨_, rfl⟩
                  rw [ht] at n1 HBG HN1
                  clear hrow2 hel2 ht
                  by_cases c1 : t < 0
                  · have d1 : decide (t < 0) = true := by simpa using c1
                    have CY := Lib.hid (cycle_any _ _ x y (q + 1) G (Ms ++ [M1]) wr (HMV.out.kept (HKW9.out.trans HK9.out)) (RowOf.kept HRW.out (fun _ _ h => GraR.kept h HK9.out) HK9.out) (HC.out.next (by rw [HQ.out]; exact HBN.out)) HLN.out (by omega) (by omega) hyn (by omega) HGB.out (HBG.out.1 c1) HMN.out)
                    go_wp2_with (go_at_call 34; with_reducible refine CY.out.mono ?_)
                    rintro e w9 ⟨oo, at_, sum, oa, oc, rfl, hor, hpath, k9'⟩
                    have HOR := Lib.hid hor
                    have HPT := Lib.hid (HC.out.found HQ.out hpath)
                    have KE := Lib.hid (K1.out.trans (HKW9.out.trans (HK9.out.trans k9')))
                    clear hor hpath k9' n0 n1
                    go_wp2_with fail
                    go_ret
                    unfold ConE
                    exact ⟨KE.out, Or.inr ⟨HYES.out, o, HJO.out, by have := HN.out; omega, HWF.out, HD.out.1, HD.out.2, oo, oa, oc, rfl, HOR.out, by rw [HN.out, HGE.out]; exact HPT.out⟩⟩
                  · have d1 : decide (t < 0) = false := by simpa using c1
                    have HN2 := Lib.hid (HN1.out c1)
                    go_wp2_with fail
                    go_roundw
                    case rel => exact ⟨y + 1, by omega, by go_num, HN2, HK9⟩
                    case measure => simp [intOf]; omega
                · have HC2 : Hid (CfS G x (Ms ++ [M1])) := HC.out.go (by rw [HQ.out]; exact HBN.out) (fun z hz => HNN.out z (by omega))
                  have HB2 : Hid (BkS w1 wr x (Ms ++ [M1]) X9 (.slice p9 (Ms ++ [M1]).length q9)) := by
                    rw [HLN.out]
                    exact HPN.out.keep HK9.out
                  go_wp2_with fail
                  exact ⟨⟨Ms ++ [M1], p9, q9, X9, by rw [HLN.out]; omega, by rw [HLN.out]; omega, by rw [HLN.out]; go_num, by rw [HLN.out], HC2, HB2⟩, by simp [intOf]; omega⟩
        · obtain rfl : q = k := by omega
          have HCN := Lib.hid (HC.out.none HQ.out)
          have KE := Lib.hid (K1.out.trans HB.out.kb)
          go_wp2_with fail
          go_ret
          unfold ConE
          have hro : Row wk 1 (.slice none 0 0) ([] : List Nat).length (ints (natI [])) := ⟨by simp [natI, ints], by simp, _, _, rfl, by simp, fun h => absurd h (by simp)⟩
          exact ⟨KE.out, Or.inr ⟨HYES.out, o, HJO.out, by have := HN.out; omega, HWF.out, HD.out.1, HD.out.2, [], none, 0, rfl, hro, by rw [HN.out, HGE.out]; exact HCN.out⟩⟩
end Go.Proofs.YtcidfldeiklcjaaGreatDoor
