/- Entries of logs: their encoding tells them apart; their order; lists in order, each once. Plain Lean. -/
import Derived.Test.YtcidfldeiklcjaaGreatDoorBf
import Derived.Test.YtcidfldeiklcjaaGreatDoorTm
import Derived.StillTailTactics
import Derived.Test.YtcidfldeiklcjaaGreatDoorEnv
/- JOINED: Gr Frm Ged Ge -/
/- Graphs in memory: a matrix that is read; a list of numbers, one a node, that is written. -/
namespace Go.Proofs.YtcidfldeiklcjaaGreatDoor
open Go.RowKit Bf

/-- a matrix of numbers that is read -/
def MatV (w : World) (v : Value) (n : Nat) (G : Gf) : Prop := ∃ (gb gc : Nat) (rb cp : Nat → Nat), v = .slice (some ⟨gb, 0, none⟩) n gc ∧ n ≤ gc ∧
  ∀ a, a < n → n ≤ cp a ∧ w.cell? ⟨gb, a, none⟩ = some (.slice (some ⟨rb a, 0, none⟩) n (cp a)) ∧ ∀ b, b < n → w.cell? ⟨rb a, b, none⟩ = some (.int .i64 (G a b))
theorem MatV.kept {w w' : World} {v : Value} {n : Nat} {G : Gf} (h : MatV w v n G) (k : Kept [] w w') : MatV w' v n G := by
  obtain ⟨gb, gc, rb, cp, h1, h2, h3⟩ := h
  refine ⟨gb, gc, rb, cp, h1, h2, fun a ha => ?_⟩
  obtain ⟨h4, h5, h6⟩ := h3 a ha
  exact ⟨h4, Kept.cellOf h5 _ k, fun b hb => Kept.cellOf (h6 b hb) _ k⟩
/-- one number a node -/
def outC (n : Nat) (o : Nat → Int) : List Value := (List.range n).map fun v => .int .i64 (o v)
theorem outC_len (n : Nat) (o : Nat → Int) : (outC n o).length = n := by simp [outC]
theorem outC_get {n v : Nat} {o : Nat → Int} (h : v < n) : (outC n o)[v]? = some (.int .i64 (o v)) := by simp [outC, h]
theorem outC_all (n : Nat) (x : Int) : List.replicate n (Value.int .i64 x) = outC n fun _ => x := by
  apply List.ext_getElem?
  intro i
  rw [List.getElem?_replicate]
  by_cases h : i < n
  · rw [if_pos h, outC_get h]
  · rw [if_neg h, List.getElem?_eq_none (by rw [outC_len]; omega)]
theorem outC_set {n b : Nat} {o : Nat → Int} (hb : b < n) (x : Int) : (outC n o).toArray.setIfInBounds b (.int .i64 x) = (outC n (upd o b x)).toArray := by
  rw [List.setIfInBounds_toArray]
  congr 1
  apply List.ext_getElem?
  intro i
  rw [List.getElem?_set]
  by_cases h : b = i
  · subst h
    rw [if_pos rfl, if_pos (by rw [outC_len]; exact hb), outC_get hb]
    simp [upd]
  · rw [if_neg h]
    by_cases hi : i < n
    · rw [outC_get hi, outC_get hi]
      unfold upd
      rw [if_neg (fun e => h e.symm)]
    · rw [List.getElem?_eq_none (by rw [outC_len]; omega), List.getElem?_eq_none (by rw [outC_len]; omega)]
theorem outC_congr {n : Nat} {o p : Nat → Int} (h : ∀ v, v < n → o v = p v) : outC n o = outC n p := by
  unfold outC
  exact List.map_congr_left fun v hv => by rw [h v (List.mem_range.1 hv)]
def GutAt (w : World) (b n : Nat) (o : Nat → Int) : Prop := Blk w b 3 (outC n o).toArray
section
variable {w w' : World} {b n : Nat} {o : Nat → Int}
theorem GutAt.cell (h : GutAt w b n o) {v : Nat} (hv : v < n) : w.cell? ⟨b, v, none⟩ = some (.int .i64 (o v)) := by
  rw [Blk.cell h, List.getElem?_toArray, outC_get hv]
theorem GutAt.frozen (h : GutAt w b n o) (v : Nat) : w.frozen? ⟨b, v, none⟩ = false := Blk.frozen h v
theorem GutAt.drewN (h : GutAt w b n o) (q : Nat) : GutAt (w.drewN q) b n o := h
theorem GutAt.lt (h : GutAt w b n o) : b < w.heap.size := Blk.lt h
theorem GutAt.set_ (h : GutAt w b n o) {v : Nat} (hv : v < n) (x : Int) : GutAt (w.setCell ⟨b, v, none⟩ (.int .i64 x)) b n (upd o v x) := by
  have := Blk.set_ h v (.int .i64 x)
  rw [outC_set hv] at this
  exact this
theorem GutAt.kept {S : List Nat} (h : GutAt w b n o) (k : Kept S w w') (hb : b ∉ S) : GutAt w' b n o := Blk.kept h k hb
end
/-- numbers that are far, or small -/
def Bd (K : Int) (n : Nat) (o : Nat → Int) : Prop := ∀ v, v < n → o v = far ∨ (-K ≤ o v ∧ o v ≤ K)
/-- weights that are far, or small -/
def GBd (n : Nat) (G : Gf) : Prop := ∀ a b, a < n → b < n → G a b = far ∨ (-8589934592 ≤ G a b ∧ G a b ≤ 8589934592)
theorem wt_small {n : Nat} {G : Gf} (h : GBd n G) : ∀ (l : List Nat), (∀ x ∈ l, x < n) → Bf.Steps G l → -(8589934592 * (l.length : Int)) ≤ wt G l ∧ wt G l ≤ 8589934592 * (l.length : Int)
  | [], _, _ => by simp [wt]
  | [x], _, _ => by simp [wt]
  | x :: y :: l, hl, hs => by
    have ih := wt_small h (y :: l) (fun z hz => hl z (List.mem_cons_of_mem _ hz)) hs.2
    have h1 := hs.1
    rcases h x y (hl x (by simp)) (hl y (by simp)) with h2 | h2
    · omega
    · rw [wt]
      simp only [List.length_cons] at ih ⊢
      omega
theorem wt_far {n s : Nat} {G : Gf} (h : GBd n G) (hn : n ≤ 16) (v : Nat) (l : List Nat) (hw : Walk G n s v l) (hl : l.length ≤ n) : wt G l < far := by
  have := (wt_small h l hw.lt hw.steps).2
  unfold far; omega
end Go.Proofs.YtcidfldeiklcjaaGreatDoor
/- Least weights of walks from a node (Bellman and Ford). -/
namespace Go.Proofs.YtcidfldeiklcjaaGreatDoor
open Go.RowKit Bf

/-- how from ends -/
def FromE (G : Gf) (n s : Nat) (w : World) (e : Ending) (w' : World) : Prop := Kept [] w w' ∧
  ((∃ b o, e = .returned (.tuple #[.slice (some ⟨b, 0, none⟩) n n, .bool true]) ∧ Top G n s o ∧ Bd 1125899906842624 n o ∧ w.heap.size ≤ b ∧ GutAt w' b n o) ∨
   (e = .returned (.tuple #[.slice none 0 0, .bool false]) ∧ ∀ t, ¬ Feas G n t))

structure FrR (G : Gf) (n s k ob : Nat) (w : World) (o : Nat → Int) (wr : World) : Prop where
  at_ : GutAt wr ob n o
  snd : Sound G n s o
  rch : k < n → Bf.Reach G n s (k + 1) o
  bd : Bd (8589934592 * (256 * (k : Int))) n o
  zero : o s ≤ 0
  no : k = n → ∀ t, ¬ Feas G n t
  kept : Kept [] w wr
structure FrP (G : Gf) (n s k ob : Nat) (w : World) (o0 o : Nat → Int) (a b : Nat) (ch : Bool) (wr : World) : Prop where
  at_ : GutAt wr ob n o
  part : Part G n o0 o a b
  snd : Sound G n s o
  bd : Bd (8589934592 * (256 * (k : Int) + 16 * a + b)) n o
  same : ch = false → o = o0
  no : ch = true → k + 1 = n → ∀ t, ¬ Feas G n t
  kept : Kept [] w wr
theorem Bd.mono {K L : Int} {n : Nat} {o : Nat → Int} (h : Bd K n o) (hl : K ≤ L) : Bd L n o := fun v hv => by
  rcases h v hv with h | h
  · exact Or.inl h
  · exact Or.inr (by omega)

theorem bd_start (n s : Nat) (K : Int) (hK : 0 ≤ K := by omega) : Bd K n (upd (fun _ => 1152921504606846976) s 0) := fun v _ => by
  unfold upd
  split
  · exact Or.inr (by omega)
  · exact Or.inl rfl
section
variable {G : Gf} {n s k ob a b : Nat} {w wr : World} {o0 o : Nat → Int} {ch : Bool}
theorem FrP.drewN (h : FrP G n s k ob w o0 o a b ch wr) (q : Nat) : FrP G n s k ob w o0 o a b ch (wr.drewN q) := ⟨h.at_.drewN q, h.part, h.snd, h.bd, h.same, h.no, h.kept.drewN q⟩
theorem fr_skip (h : FrP G n s k ob w o0 o a b ch wr) (hs : ¬ (G a b < far ∧ o a < far ∧ o a + G a b < o b)) : FrP G n s k ob w o0 o a (b + 1) ch wr :=
  ⟨h.at_, part_skip h.part hs, h.snd, h.bd.mono (by omega), h.same, h.no, h.kept⟩
theorem fr_row (hn : n ≤ 16) (h : FrP G n s k ob w o0 o a n ch wr) : FrP G n s k ob w o0 o (a + 1) 0 ch wr :=
  ⟨h.at_, part_row h.part, h.snd, h.bd.mono (by omega), h.same, h.no, h.kept⟩
theorem fr_relax {g p q : Int} (hob : w.heap.size ≤ ob) (ha : a < n) (hb : b < n) (h : FrP G n s k ob w o0 o a b ch wr) (hg : G a b = g) (hp : o a = p) (hq : o b = q) (hr : Bf.Reach G n s (k + 1) o0) (c1 : g < 1152921504606846976) (c2 : p < 1152921504606846976) (c3 : p + g < q)
    (gb : g = far ∨ (-8589934592 ≤ g ∧ g ≤ 8589934592)) (pb : p = far ∨ (-(8589934592 * (256 * (k : Int) + 16 * a + b)) ≤ p ∧ p ≤ 8589934592 * (256 * (k : Int) + 16 * a + b))) :
    FrP G n s k ob w o0 (upd o b (p + g)) a (b + 1) true (wr.setCell ⟨ob, b, none⟩ (.int .i64 (p + g))) := by
  have hf : far = 1152921504606846976 := rfl
  subst hg; subst hp; subst hq
  refine ⟨h.at_.set_ hb _, part_relax h.part c3, sound_relax h.snd ha hb (by omega) (by omega) c3, fun v hv => ?_, (fun e => by cases e), fun _ hkn t hft => ?_, ?_⟩
  · unfold upd
    split
    · right
      rcases gb with gb | gb
      · omega
      · rcases pb with pb | pb
        · omega
        · omega
    · rcases h.bd v hv with h1 | h1
      · exact Or.inl h1
      · right; omega
  · have hr' : Bf.Reach G n s n o := fun v l hw hl => Int.le_trans (h.part.le v) (hr v l hw (by omega))
    have := no_relax hft h.snd hr' ha hb (by omega) (by omega)
    omega
  · exact h.kept.setCell (Or.inr hob) _
theorem fr_top (h : FrP G n s k ob w o0 o n 0 false wr) (h0 : o0 s ≤ 0) (hs : s < n) (hg : GBd n G) (hall : ∀ b, b < n → b ≠ s → G s b < far) : Top G n s o := by
  have e := h.same rfl
  subst e
  have hx := fix_of h.part
  refine ⟨h.snd, hx, fun v hv => ?_, h0⟩
  by_cases e : v = s
  · subst e; unfold far; omega
  · have h1 := hall v hv e
    have h2 := hx s v hs hv h1 (by unfold far; omega)
    rcases hg s v hs hv with h3 | h3
    · omega
    · unfold far; omega
theorem fr_next (h : FrP G n s k ob w o0 o n 0 true wr) (h0 : o0 s ≤ 0) (hn : n ≤ 16) (hr : Bf.Reach G n s (k + 1) o0) (hw : ∀ v l, Walk G n s v l → l.length ≤ n → wt G l < far) : FrR G n s (k + 1) ob w o wr :=
  ⟨h.at_, h.snd, fun hk => reach_step hr h.part hw hk (by omega), h.bd.mono (by omega), Int.le_trans (h.part.le s) h0, fun e => h.no rfl e, h.kept⟩
end

set_option maxRecDepth 100000 in
set_option maxHeartbeats 4000000 in
theorem from_any (v : Value) (n s : Nat) (G : Gf) (w : World) (h : MatV w v n G) (hs : s < n) (hn : n ≤ 16) (hg : GBd n G) (hall : ∀ b, b < n → b ≠ s → G s b < far) :
    Calls Tryz.prog 26 #[v, .int .i64 s] w (FromE G n s w) := by
  obtain ⟨gb, gc, rb, cp, rfl, hgc, hm⟩ := h
  have HM := Lib.hid hm
  have HG := Lib.hid hg
  have HA := Lib.hid hall
  have HWF := Lib.hid (fun v l => wt_far (s := s) hg hn v l)
  clear hm hg hall
  go_enter Tryz.func26, Tryz.ntmps26
  go_wp2_with (go_at_call 33; refine (rep_any 1152921504606846976 n _ _ _ (by exact Row.lit w [1152921504606846976] (by simp)) (by omega) (by omega)).mono ?_)
  rintro e w1 ⟨ob, rfl, hob, hb1, hk1⟩
  rw [outC_all] at hb1
  have ho1 : GutAt w1 ob n fun _ => 1152921504606846976 := hb1
  have hobw : w.heap.size ≤ ob := by simp at hob; omega
  have hkw1 : Kept [] w w1 := ((Kept.refl [] w).alloc _).trans hk1
  have cs := ho1.cell hs
  have fs := ho1.frozen s
  go_wp2_with fail
  have ho2 := ho1.set_ hs 0
  have hk2 : Kept [] w (w1.setCell ⟨ob, s, none⟩ (.int .i64 0)) := hkw1.setCell (Or.inr hobw) _
  clear cs fs hb1 ho1 hk1 hkw1
  go_loopw [20] (fun i wr => ∃ (k : Nat) (o : Nat → Int), k ≤ n ∧ i = .int .i64 k ∧ FrR G n s k ob w o wr) (fun i _ => n - (intOf i).toNat)
  case atStart => exact ⟨0, _, Nat.zero_le _, rfl, ho2, sound_start hs, fun _ => reach_start, bd_start _ _ _, by simp [upd], (fun h => absurd h.symm (by omega)), hk2⟩
  case round =>
    obtain ⟨k, o0, hk, rfl, hR⟩ := hrel
    have HR := Lib.hid hR
    clear hR ho2 hk2
    by_cases hkn : k < n
    · go_wp2_with fail
      go_loopw [7, 24] (fun c i wr => ∃ (a : Nat) (o : Nat → Int) (ch : Bool), a ≤ n ∧ c = .bool ch ∧ i = .int .i64 a ∧ FrP G n s k ob w o0 o a 0 ch wr) (fun _ i _ => n - (intOf i).toNat)
      case atStart => exact ⟨0, o0, false, Nat.zero_le _, rfl, rfl, HR.out.at_, part_start, HR.out.snd, HR.out.bd.mono (by omega), fun _ => rfl, (fun h => by cases h), HR.out.kept⟩
      case round =>
        obtain ⟨a, o, ch, ha, rfl, rfl, hP⟩ := hrel
        have HP := Lib.hid hP
        clear hP
        by_cases han : a < n
        · obtain ⟨hcp, hrow, _⟩ := HM.out a han
          have hrow' := Kept.cellOf hrow _ HP.out.kept
          clear hrow
          go_wp2_with fail
          clear hrow'
          go_loopw [7, 32] (fun c i wr => ∃ (b : Nat) (o : Nat → Int) (ch : Bool), b ≤ n ∧ c = .bool ch ∧ i = .int .i64 b ∧ FrP G n s k ob w o0 o a b ch wr) (fun _ i _ => n - (intOf i).toNat)
          case atStart => exact ⟨0, o, ch, Nat.zero_le _, rfl, rfl, HP.out⟩
          case round =>
            obtain ⟨b, o1, ch1, hb, rfl, rfl, hP1⟩ := hrel
            have HQ := Lib.hid hP1
            clear hP1
            by_cases hbn : b < n
            · obtain ⟨_, _, hcell⟩ := HM.out a han
              have xg := Kept.cellOf (hcell b hbn) _ HQ.out.kept
              have xa := HQ.out.at_.cell han
              have xb := HQ.out.at_.cell hbn
              have xf := HQ.out.at_.frozen b
              clear hcell
              obtain ⟨g, hgq⟩ : ∃ g, G a b = g := ⟨_, rfl⟩
              obtain ⟨p, hpq⟩ : ∃ p, o1 a = p := ⟨_, rfl⟩
              obtain ⟨q, hqq⟩ : ∃ q, o1 b = q := ⟨_, rfl⟩
              rw [hgq] at xg
              rw [hpq] at xa
              rw [hqq] at xb
              have gb1 := HG.out a b han hbn
              have pb1 := HQ.out.bd a han
              have qb1 := HQ.out.bd b hbn
              rw [hgq] at gb1
              rw [hpq] at pb1
              rw [hqq] at qb1
              have hkk : (k : Int) ≤ 16 := by omega
              have haa : (a : Int) ≤ 16 := by omega
              have hbb : (b : Int) ≤ 16 := by omega
              have gsm : g = 1152921504606846976 ∨ (-8589934592 ≤ g ∧ g ≤ 8589934592) := gb1
              have psm : p = 1152921504606846976 ∨ (-70368744177664 ≤ p ∧ p ≤ 70368744177664) := by rcases pb1 with h | h; exact Or.inl h; exact Or.inr (by omega)
              have HGQ := Lib.hid hgq
              have HPQ := Lib.hid hpq
              have HQQ := Lib.hid hqq
              have GB := Lib.hid gb1
              have PB := Lib.hid pb1
              have QB := Lib.hid qb1
              clear hgq hpq hqq gb1 pb1 qb1
              by_cases c1 : g < 1152921504606846976
              · by_cases c2 : p < 1152921504606846976
                · by_cases c3 : p + g < q
                  · have d1 : decide (g < 1152921504606846976) = true := by simpa using c1
                    have d2 : decide (p < 1152921504606846976) = true := by simpa using c2
                    have d3 : decide (p + g < q) = true := by simpa using c3
                    have hw : IntKind.i64.wrap (p + g) = p + g := by rw [IntKind.wrap_i64]; omega
                    go_wp2_with fail
                    go_quiet (fail)
                    clear hw
                    go_wp2_with fail
                    go_roundw
                    case rel => exact ⟨b + 1, _, true, by omega, rfl, by go_num, fr_relax hobw han hbn (HQ.out.drewN _) HGQ.out HPQ.out HQQ.out (HR.out.rch hkn) c1 c2 c3 GB.out PB.out⟩
                    case measure => simp [intOf]; omega
                  · have d1 : decide (g < 1152921504606846976) = true := by simpa using c1
                    have d2 : decide (p < 1152921504606846976) = true := by simpa using c2
                    have d3 : decide (p + g < q) = false := by simpa using c3
                    have hw : IntKind.i64.wrap (p + g) = p + g := by rw [IntKind.wrap_i64]; omega
                    go_wp2_with fail
                    go_quiet (fail)
                    clear hw
                    go_wp2_with fail
                    go_roundw
                    case rel => exact ⟨b + 1, _, _, by omega, rfl, by go_num, fr_skip (o := o1) (HQ.out.drewN _) (by rw [HGQ.out, HPQ.out, HQQ.out]; exact fun h => by have := h.2.2; omega)⟩
                    case measure => simp [intOf]; omega
                · have d1 : decide (g < 1152921504606846976) = true := by simpa using c1
                  have d2 : decide (p < 1152921504606846976) = false := by simpa using c2
                  go_wp2_with fail
                  go_quiet (fail)
                  go_wp2_with fail
                  go_roundw
                  case rel => exact ⟨b + 1, _, _, by omega, rfl, by go_num, fr_skip (o := o1) (HQ.out.drewN _) (by rw [HGQ.out, HPQ.out, HQQ.out]; exact fun h => by have := h.2.1; unfold far at this; omega)⟩
                  case measure => simp [intOf]; omega
              · have d1 : decide (g < 1152921504606846976) = false := by simpa using c1
                go_wp2_with fail
                go_quiet (fail)
                go_wp2_with fail
                go_roundw
                case rel => exact ⟨b + 1, _, _, by omega, rfl, by go_num, fr_skip (o := o1) (HQ.out.drewN _) (by rw [HGQ.out, HPQ.out, HQQ.out]; exact fun h => by have := h.1; unfold far at this; omega)⟩
                case measure => simp [intOf]; omega
            · have HX := HQ.out
              rw [show b = n by omega] at HX
              have HXH := Lib.hid (fr_row hn HX)
              clear HX
              go_wp2_with fail
              exact ⟨⟨a + 1, _, _, by omega, rfl, by go_num, HXH.out⟩, by simp [intOf]; omega⟩
        · have HX := HP.out
          rw [show a = n by omega] at HX
          have HXH := Lib.hid HX
          clear HX
          cases ch
          · go_wp2_with fail
            go_ret2
            exact ⟨HXH.out.kept, Or.inl ⟨ob, o, rfl, fr_top HXH.out HR.out.zero hs HG.out HA.out, HXH.out.bd.mono (by omega), hobw, HXH.out.at_⟩⟩
          · go_wp2_with fail
            exact ⟨⟨k + 1, o, by omega, by go_num, fr_next HXH.out HR.out.zero hn (HR.out.rch hkn) HWF.out⟩, by simp [intOf]; omega⟩
    · have HNO := Lib.hid (HR.out.no (by omega))
      go_wp2_with fail
      go_ret2
      exact ⟨HR.out.kept, Or.inr ⟨rfl, HNO.out⟩⟩
end Go.Proofs.YtcidfldeiklcjaaGreatDoor
/- Graphs that are written: an edge is added. -/
namespace Go.Proofs.YtcidfldeiklcjaaGreatDoor
open Go.RowKit Bf

/-- a matrix of numbers of the call's own -/
structure MatW (w : World) (B gb n : Nat) (rb : Nat → Nat) (G : Gf) : Prop where
  row : ∀ a, a < n → GutAt w (rb a) n (G a)
  gcell : ∀ a, a < n → w.cell? ⟨gb, a, none⟩ = some (.slice (some ⟨rb a, 0, none⟩) n n)
  inj : ∀ a b, a < n → b < n → rb a = rb b → a = b
  ne : ∀ a, a < n → rb a ≠ gb
  ge : ∀ a, a < n → B ≤ rb a
theorem MatW.read {w : World} {B gb n : Nat} {rb : Nat → Nat} {G : Gf} (h : MatW w B gb n rb G) : MatV w (.slice (some ⟨gb, 0, none⟩) n n) n G :=
  ⟨gb, n, rb, fun _ => n, rfl, Nat.le_refl _, fun a ha => ⟨Nat.le_refl _, h.gcell a ha, fun _ hb => (h.row a ha).cell hb⟩⟩
theorem MatW.kept {w w' : World} {B gb n : Nat} {rb : Nat → Nat} {G : Gf} (h : MatW w B gb n rb G) (k : Kept [] w w') : MatW w' B gb n rb G :=
  ⟨fun a ha => (h.row a ha).kept k (by simp), fun a ha => Kept.cellOf (h.gcell a ha) _ k, h.inj, h.ne, h.ge⟩
theorem MatW.congr {w : World} {B gb n : Nat} {rb : Nat → Nat} {G H : Gf} (h : MatW w B gb n rb G) (e : ∀ a b, a < n → b < n → G a b = H a b) : MatW w B gb n rb H :=
  ⟨fun a ha => by have := h.row a ha; unfold GutAt at this ⊢; rw [← outC_congr (e a · ha)]; exact this, h.gcell, h.inj, h.ne, h.ge⟩
/-- one cell is written -/
theorem MatW.set_ {w : World} {B gb n : Nat} {rb : Nat → Nat} {G : Gf} (h : MatW w B gb n rb G) {a b : Nat} (ha : a < n) (hb : b < n) (x : Int) :
    MatW (w.setCell ⟨rb a, b, none⟩ (.int .i64 x)) B gb n rb fun i j => if i = a ∧ j = b then x else G i j := by
  refine ⟨fun i hi => ?_, fun i hi => ?_, h.inj, h.ne, h.ge⟩
  · by_cases e : i = a
    · subst e
      have := (h.row i hi).set_ hb x
      unfold GutAt at this ⊢
      rw [outC_congr (p := upd (G i) b x) (fun v _ => by simp [upd])]
      exact this
    · have h1 := h.row i hi
      have h2 : Blk w (rb i) 3 (outC n (G i)).toArray := h1
      have h3 := h2.far (p := ⟨rb a, b, none⟩) (fun e1 => e (h.inj i a hi ha e1)) (.int .i64 x)
      unfold GutAt
      rw [outC_congr (p := G i) (fun v _ => by simp [e])]
      exact h3
  · rw [World.cell?_of_block (w := w) (Below.heap_setCell w _ _ _ (fun e => h.ne a ha e.symm))]
    exact h.gcell i hi

set_option maxRecDepth 100000 in
set_option maxHeartbeats 1000000 in
theorem edge_any (gb gc n : Nat) (rb : Nat → Nat) (B : Nat) (es : List Tm.Edge) (a b : Nat) (x : Int) (w : World) (h : MatW w B gb n rb (Tm.gOf es)) (ha : a < n) (hb : b < n) :
    Calls Tryz.prog 97 #[.slice (some ⟨gb, 0, none⟩) n gc, .int .i64 a, .int .i64 b, .int .i64 x] w fun e w' => e = .returned (.tuple #[]) ∧ MatW w' B gb n rb (Tm.gOf (es ++ [(a, b, x)])) ∧ Kept [rb a] w w' := by
  have HM := Lib.hid h
  have xa := h.gcell a ha
  have xc := (h.row a ha).cell hb
  have xf := (h.row a ha).frozen b
  obtain ⟨g, hg⟩ : ∃ g, Tm.gOf es a b = g := ⟨_, rfl⟩
  rw [hg] at xc
  have HG := Lib.hid hg
  clear h hg
  go_enter Tryz.func97, Tryz.ntmps97
  go_wp2_with fail
  go_still_tail 15, (by kernel_rfl)
  change wpList _ _ _ _ _ w.drew
  go_wp2_with fail
  go_end0
  refine ⟨rfl, ((HM.out.set_ ha hb (min g x)).congr fun i j _ _ => ?_).kept (Kept.refl _ _).drew, ((Kept.refl _ _).setCell (by simp) _).drew⟩
  rw [Tm.gOf_snoc]
  simp only
  by_cases e : i = a ∧ j = b
  · rw [if_pos e, if_pos ⟨e.1.symm, e.2.symm⟩, e.1, e.2, HG.out]
  · rw [if_neg e, if_neg fun h => e ⟨h.1.symm, h.2.symm⟩]
end Go.Proofs.YtcidfldeiklcjaaGreatDoor
namespace Go.Proofs.YtcidfldeiklcjaaGreatDoor.Tm

def bodyE (e : Ent) : List UInt8 := Wire.numsE [e.gate, e.no, e.time, e.kind] ++ (Wire.numsE e.nums ++ Wire.textE e.text)
def encE (e : Ent) : List UInt8 := bodyE e ++ Wire.numsE [e.c, e.s]
structure EntI (e : Ent) : Prop where
  h0 : Wire.I64 e.gate
  h1 : Wire.I64 e.no
  h2 : Wire.I64 e.time
  h3 : Wire.I64 e.kind
  h4 : ∀ x ∈ e.nums, Wire.I64 x
  h5 : Wire.I64 e.c
  h6 : Wire.I64 e.s
  l4 : e.nums.length ≤ 100000
  l5 : e.text.length ≤ 1000000
theorem encE_inj {a b : Ent} (ha : EntI a) (hb : EntI b) (h : encE a = encE b) : a = b := by
  have rd : ∀ e : Ent, EntI e → Wire.nums ⟨encE e, false⟩ = ([e.gate, e.no, e.time, e.kind], ⟨Wire.numsE e.nums ++ (Wire.textE e.text ++ Wire.numsE [e.c, e.s]), false⟩) ∧
      Wire.nums ⟨Wire.numsE e.nums ++ (Wire.textE e.text ++ Wire.numsE [e.c, e.s]), false⟩ = (e.nums, ⟨Wire.textE e.text ++ Wire.numsE [e.c, e.s], false⟩) ∧
      Wire.text ⟨Wire.textE e.text ++ Wire.numsE [e.c, e.s], false⟩ = (e.text, ⟨Wire.numsE [e.c, e.s], false⟩) ∧
      Wire.nums ⟨Wire.numsE [e.c, e.s], false⟩ = ([e.c, e.s], ⟨[], false⟩) := by
    intro e he
    have l4 := he.l4
    have l5 := he.l5
    refine ⟨?_, Wire.nums_ok _ _ (by omega) he.h4, Wire.text_ok _ _ (by omega), ?_⟩
    · have := Wire.nums_ok [e.gate, e.no, e.time, e.kind] (Wire.numsE e.nums ++ (Wire.textE e.text ++ Wire.numsE [e.c, e.s])) (by simp) (by
        intro x hx
        simp only [List.mem_cons, List.not_mem_nil, or_false] at hx
        rcases hx with rfl | rfl | rfl | rfl
        · exact he.h0
        · exact he.h1
        · exact he.h2
        · exact he.h3)
      unfold encE bodyE
      simpa using this
    · have := Wire.nums_ok [e.c, e.s] [] (by simp) (by
        intro x hx
        simp only [List.mem_cons, List.not_mem_nil, or_false] at hx
        rcases hx with rfl | rfl
        · exact he.h5
        · exact he.h6)
      simpa using this
  obtain ⟨a1, a2, a3, a4⟩ := rd a ha
  obtain ⟨b1, b2, b3, b4⟩ := rd b hb
  rw [h, b1] at a1
  simp only [Prod.mk.injEq, Wire.Rd.mk.injEq, List.cons.injEq, and_true] at a1
  obtain ⟨⟨g0, g1, g2, g3⟩, g4⟩ := a1
  rw [← g4, b2] at a2
  simp only [Prod.mk.injEq, Wire.Rd.mk.injEq, and_true] at a2
  obtain ⟨g5, g6⟩ := a2
  rw [← g6, b3] at a3
  simp only [Prod.mk.injEq, Wire.Rd.mk.injEq, and_true] at a3
  obtain ⟨g7, g8⟩ := a3
  rw [← g8, b4] at a4
  simp only [Prod.mk.injEq, and_true, List.cons.injEq] at a4
  obtain ⟨g9, g10⟩ := a4
  cases a
  cases b
  simp_all

/-! ### bytes in order -/
theorem bl_irrefl : ∀ a : List UInt8, Op.bytesLess a a = false
  | [] => rfl
  | x :: a => by unfold Op.bytesLess; simp [bl_irrefl a]
theorem bl_trans : ∀ a b c : List UInt8, Op.bytesLess a b = true → Op.bytesLess b c = true → Op.bytesLess a c = true
  | _, [], _, h1, _ => by cases ‹List UInt8› <;> simp [Op.bytesLess] at h1
  | _, _ :: _, [], _, h2 => by simp [Op.bytesLess] at h2
  | [], _ :: _, _ :: _, _, _ => rfl
  | x :: a, y :: b, z :: c, h1, h2 => by
    unfold Op.bytesLess at h1 h2 ⊢
    simp only [Bool.or_eq_true, Bool.and_eq_true, decide_eq_true_eq, beq_iff_eq] at h1 h2 ⊢
    rcases h1 with h1 | ⟨rfl, h1⟩
    · rcases h2 with h2 | ⟨rfl, h2⟩
      · exact Or.inl (UInt8.lt_trans h1 h2)
      · exact Or.inl h1
    · rcases h2 with h2 | ⟨rfl, h2⟩
      · exact Or.inl h2
      · exact Or.inr ⟨rfl, bl_trans a b c h1 h2⟩
theorem bl_tri : ∀ a b : List UInt8, Op.bytesLess a b = true ∨ a = b ∨ Op.bytesLess b a = true
  | [], [] => Or.inr (Or.inl rfl)
  | [], _ :: _ => Or.inl rfl
  | _ :: _, [] => Or.inr (Or.inr rfl)
  | x :: a, y :: b => by
    unfold Op.bytesLess
    simp only [Bool.or_eq_true, Bool.and_eq_true, decide_eq_true_eq, beq_iff_eq, List.cons.injEq]
    rcases (by rw [UInt8.lt_iff_toNat_lt, UInt8.lt_iff_toNat_lt, ← UInt8.toNat_inj]; omega : x < y ∨ x = y ∨ y < x) with h | h | h
    · exact Or.inl (Or.inl h)
    · subst h
      rcases bl_tri a b with h | h | h
      · exact Or.inl (Or.inr ⟨rfl, h⟩)
      · exact Or.inr (Or.inl ⟨rfl, h⟩)
      · exact Or.inr (Or.inr (Or.inr ⟨rfl, h⟩))
    · exact Or.inr (Or.inr (Or.inl h))

/-! ### entries in order -/
def cmpI (a b : Int) : Int := if a < b then -1 else if b < a then 1 else 0
def cmpB (a b : List UInt8) : Int := if Op.bytesLess a b then -1 else if Op.bytesLess b a then 1 else 0
def orI (a b : Int) : Int := if a = 0 then b else a
/-- what 'before' answers -/
def cmpE (a b : Ent) : Int := orI (cmpI a.gate b.gate) (orI (cmpI a.no b.no) (cmpB (encE a) (encE b)))
def ltE (a b : Ent) : Prop := a.gate < b.gate ∨ (a.gate = b.gate ∧ (a.no < b.no ∨ (a.no = b.no ∧ Op.bytesLess (encE a) (encE b) = true)))
theorem cmpI_lt (a b : Int) : cmpI a b < 0 ↔ a < b := by unfold cmpI; split <;> (try split) <;> omega
theorem cmpI_zero (a b : Int) : cmpI a b = 0 ↔ a = b := by unfold cmpI; split <;> (try split) <;> omega
theorem bl_asymm {a b : List UInt8} (h : Op.bytesLess a b = true) : Op.bytesLess b a = false := by
  cases h3 : Op.bytesLess b a
  · rfl
  · have := bl_trans _ _ _ h h3; rw [bl_irrefl] at this; cases this
theorem cmpB_lt (a b : List UInt8) : cmpB a b < 0 ↔ Op.bytesLess a b = true := by
  unfold cmpB
  cases h1 : Op.bytesLess a b <;> cases h2 : Op.bytesLess b a <;> simp
theorem cmpB_zero (a b : List UInt8) : cmpB a b = 0 ↔ a = b := by
  unfold cmpB
  rcases bl_tri a b with h | h | h
  · rw [h]; simp; rintro rfl; rw [bl_irrefl] at h; cases h
  · subst h; simp [bl_irrefl]
  · rw [h, bl_asymm h]; simp; rintro rfl; rw [bl_irrefl] at h; cases h
theorem orI_lt (a b : Int) : orI a b < 0 ↔ a < 0 ∨ (a = 0 ∧ b < 0) := by unfold orI; split <;> omega
theorem orI_zero (a b : Int) : orI a b = 0 ↔ a = 0 ∧ b = 0 := by unfold orI; split <;> omega
theorem cmpE_lt (a b : Ent) : cmpE a b < 0 ↔ ltE a b := by
  unfold cmpE ltE
  rw [orI_lt, orI_lt, cmpI_lt, cmpI_lt, cmpB_lt, cmpI_zero, cmpI_zero]
theorem cmpE_zero {a b : Ent} (ha : EntI a) (hb : EntI b) : cmpE a b = 0 ↔ a = b := by
  unfold cmpE
  rw [orI_zero, orI_zero, cmpI_zero, cmpI_zero, cmpB_zero]
  constructor
  · rintro ⟨_, _, h⟩; exact encE_inj ha hb h
  · rintro rfl; exact ⟨rfl, rfl, rfl⟩
theorem ltE_irrefl (a : Ent) : ¬ ltE a a := by unfold ltE; simp [bl_irrefl]
theorem ltE_trans {a b c : Ent} (h1 : ltE a b) (h2 : ltE b c) : ltE a c := by
  unfold ltE at *
  rcases h1 with h1 | ⟨h1, h1' | ⟨h1', h1''⟩⟩ <;> rcases h2 with h2 | ⟨h2, h2' | ⟨h2', h2''⟩⟩
  all_goals first
    | (left; omega)
    | (right; refine ⟨by omega, ?_⟩; first | (left; omega) | (right; exact ⟨by omega, bl_trans _ _ _ h1'' h2''⟩))
theorem ltE_tri {a b : Ent} (ha : EntI a) (hb : EntI b) : ltE a b ∨ a = b ∨ ltE b a := by
  unfold ltE
  rcases Int.lt_trichotomy a.gate b.gate with g | g | g
  · exact Or.inl (Or.inl g)
  · rcases Int.lt_trichotomy a.no b.no with n | n | n
    · exact Or.inl (Or.inr ⟨g, Or.inl n⟩)
    · rcases bl_tri (encE a) (encE b) with h | h | h
      · exact Or.inl (Or.inr ⟨g, Or.inr ⟨n, h⟩⟩)
      · exact Or.inr (Or.inl (encE_inj ha hb h))
      · exact Or.inr (Or.inr (Or.inr ⟨g.symm, Or.inr ⟨n.symm, h⟩⟩))
    · exact Or.inr (Or.inr (Or.inr ⟨g.symm, Or.inl n⟩))
  · exact Or.inr (Or.inr (Or.inl g))
abbrev Up (l : List Ent) : Prop := l.Pairwise ltE
/-- two lists in order with the same members are one -/
theorem up_ext : ∀ a b : List Ent, Up a → Up b → (∀ z, z ∈ a ↔ z ∈ b) → a = b
  | [], [], _, _, _ => rfl
  | [], y :: b, _, _, h => absurd ((h y).2 List.mem_cons_self) (by simp)
  | x :: a, [], _, _, h => absurd ((h x).1 List.mem_cons_self) (by simp)
  | x :: a, y :: b, ha, hb, h => by
    rw [Up, List.pairwise_cons] at ha hb
    have hxy : x = y := by
      rcases List.mem_cons.1 ((h x).1 List.mem_cons_self) with e | e
      · exact e
      · rcases List.mem_cons.1 ((h y).2 List.mem_cons_self) with e2 | e2
        · exact e2.symm
        · exact absurd (ltE_trans (hb.1 x e) (ha.1 y e2)) (ltE_irrefl _)
    subst hxy
    congr 1
    refine up_ext a b ha.2 hb.2 fun z => ⟨fun hz => ?_, fun hz => ?_⟩
    · rcases List.mem_cons.1 ((h z).1 (List.mem_cons_of_mem _ hz)) with e | e
      · subst e; exact absurd (ha.1 z hz) (ltE_irrefl _)
      · exact e
    · rcases List.mem_cons.1 ((h z).2 (List.mem_cons_of_mem _ hz)) with e | e
      · subst e; exact absurd (hb.1 z hz) (ltE_irrefl _)
      · exact e
/-- what Join gives: the signed entries in order, each once -/
def JoinIs (sg : Ent → Bool) (l o : List Ent) : Prop := Up o ∧ ∀ z, z ∈ o ↔ z ∈ l ∧ sg z = true
theorem join_one {sg : Ent → Bool} {l o p : List Ent} (h1 : JoinIs sg l o) (h2 : JoinIs sg l p) : o = p := up_ext o p h1.1 h2.1 fun z => (h1.2 z).trans (h2.2 z).symm
/-- a joined list stays what it is -/
theorem join_self {sg : Ent → Bool} {l o p : List Ent} (h1 : JoinIs sg l o) (h2 : JoinIs sg o p) : p = o :=
  up_ext p o h2.1 h1.1 fun z => (h2.2 z).trans ⟨fun h => h.1, fun h => ⟨h, ((h1.2 z).1 h).2⟩⟩
end Go.Proofs.YtcidfldeiklcjaaGreatDoor.Tm
