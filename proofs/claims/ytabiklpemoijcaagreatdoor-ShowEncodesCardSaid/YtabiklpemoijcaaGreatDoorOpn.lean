/- The example's points opened: Open. -/
import Derived.Test.YtabiklpemoijcaaGreatDoorChk
import Derived.Maps.OwnOps
namespace Go.Proofs.YtabiklpemoijcaaGreatDoor
open Go.RowKit Go.Maps

def mpI1 : DataW Unit := mp0.put (.int .i64 1) (.lit (.bool true))
def mpI2 : DataW Unit := mpI1.put (.int .i64 2) (.lit (.bool true))
theorem at0 : mp0.atKey (.int .i64 1) (.lit (.bool false)) = .lit (.bool false) := by kernel_rfl
theorem at1 : mpI1.atKey (.int .i64 2) (.lit (.bool false)) = .lit (.bool false) := by kernel_rfl
theorem zeroB (w : World) : (zeroValue 4).run Tryz.prog w = .ok (.bool false) w := by kernel_rfl
set_option maxRecDepth 100000 in
theorem look_x {w : World} {b n : Nat} {D : DataW Unit} (h : w.ownsMap Tryz.prog 3 (plainElem Tryz.prog 4) b n D) (key : Int) (hw : (Lit.int .i64 key).wf = true) (hat : D.atKey (.int .i64 key) (.lit (.bool false)) = .lit (.bool false)) :
    (Instr.lookup 139 (.map (some b)) (.int .i64 key) false).run Tryz.prog w = .ok (.bool false) w := by
  obtain ⟨v, ps, hrun, hv⟩ := h.lookup keyedI Tryz.underlying139 (zeroB w) (plainElem_bool Tryz.underlying4 false) (keyOf_int_mk Tryz.underlying3 hw)
  rw [hat] at hv
  have : v = .bool false := by
    unfold plainElem at hv
    rw [Tryz.underlying4] at hv
    cases v <;> simp at hv
    rename_i x
    cases x
    · rfl
    · simp at hv
  rw [hrun, this]

theorem Row.point {w : World} {vp : Value} {n : Nat} {l : List Int} (h : Row w 3 vp n (ints l)) (hn : 0 < n) : ∃ b off c, vp = .slice (some ⟨b, off, none⟩) n c ∧ ∀ (k : Nat) (x : Int), l[k]? = some x → w.cell? ⟨b, off + k, none⟩ = some (.int .i64 x) := by
  obtain ⟨a, c, rfl, _, _⟩ := h.form
  obtain ⟨b, off, rfl, hc⟩ := h.at_ hn
  exact ⟨b, off, c, rfl, fun k x hk => hc k _ (by simp [ints, hk])⟩

theorem Kept.grownNl {S : List Nat} {W Y Z' : World} {n c : Nat} (h : Kept S W Y) (hg : Y.grownBy Z' (Value.slice none n c).ownBlock) : Kept S W Z' :=
  h.grown hg (fun k hk => by cases hk)
/-- the block of a slice's array -/
def bl : Option Addr → List Nat
  | none => []
  | some a => [a.block]
theorem nb_grown {w w' : World} {b n c : Nat} {T : TypeId} {cs : Array Value} {a : Option Addr} (hg : w.grownBy w' (Value.slice a n c).ownBlock) (h : Blk w b T cs) (hb : b ∉ bl a) : Blk w' b T cs :=
  (hg.block b h.lt (fun e => hb (by
    cases a with
    | none => cases e
    | some a => injection e with e; subst e; simp [bl]))).trans h
theorem blk_new' {w : World} {b : Nat} (h : w.heap.size = b) (T : TypeId) (cs : Array Value) : Blk (w.alloc (.cells cs T)) b T cs := h ▸ Blk.new w T cs
theorem news_blk {w : World} {b : Nat} {T : TypeId} {v : Value} (h : Blk w b T #[v]) : ∀ j u, [v][j]? = some u → w.cell? ((⟨b, 0, none⟩ : Addr).add j) = some u := by
  intro j u hj
  rw [add_cell]
  rcases j with _ | j
  · exact (by simpa using hj) ▸ h.cell 0
  · simp at hj
def Dis (a b : Option Addr) : Prop := ∀ z ∈ bl a, z ∉ bl b
theorem own_bl {a : Option Addr} {n c k : Nat} (h : (Value.slice a n c).ownBlock = some k) : k ∈ bl a := by
  cases a with
  | none => cases h
  | some a => injection h with h; subst h; simp [bl]
theorem Kept.grownS {S : List Nat} {W Y Z' : World} {a : Option Addr} {n c : Nat} (hg : Y.grownBy Z' (Value.slice a n c).ownBlock) (h : Kept S W Y) (hS : ∀ z ∈ bl a, z ∈ S) : Kept S W Z' :=
  h.grown hg (fun k hk => Or.inl (hS k (own_bl hk)))
theorem own_bl_lt {w : World} {B : Nat} {e : TypeId} {size n m c : Nat} {a : Option Addr} {xs : List Value} (h : w.ownsRow B e size (.slice a m c) n xs) : ∀ z ∈ bl a, B ≤ z ∧ z < w.heap.size := by
  intro z hz
  cases a with
  | none => simp [bl] at hz
  | some a => simp [bl] at hz; subst hz; exact h.lt _ rfl
theorem own_nk {w w' : World} {S : List Nat} {B c m : Nat} {a : Option Addr} {e : TypeId} {size n : Nat} {xs : List Value} (h : w.ownsRow B e size (.slice a m c) n xs) (k : Kept S w w') (hg : ∀ z ∈ bl a, z ∉ S) :
    w'.ownsRow B e size (.slice a m c) n xs := by
  refine ⟨h.1, ?_⟩
  rcases h.2 with h1 | ⟨g', cap, cur, hv, hB, hb, r⟩
  · exact Or.inl h1
  · have e1 : a = some ⟨g', 0, none⟩ := by injection hv
    subst e1
    exact Or.inr ⟨g', cap, cur, hv, hB, (k.block g' (Array.getElem?_eq_some_iff.1 hb).1 (hg g' (by simp [bl]))).trans hb, r⟩
def ptA (k : Nat) : Int := if k = 0 then 1 else 2
def ptB (k : Nat) : Int := if k = 0 then 8 else 2
def openRes (n : Nat) : Value := if n = 1 then .tuple #[.int .i64 0, .int .i64 0, .int .i64 18] else .tuple #[.int .i64 3, .int .i64 2, .int .i64 0]
def ptC (k : Nat) : Int := if k = 0 then 3 else 4

theorem Row.cap {w : World} {size n m c : Nat} {a : Option Addr} {l : List Value} (h : Row w size (.slice a n c) m l) : n ≤ c := by
  obtain ⟨_, _, a', c', hv, hc, _⟩ := h
  injection hv with e1 e2 e3
  omega
/-- what Through leaves -/
def ThrP (r d : Nat) (w : World) (e : Ending) (w' : World) : Prop := ∃ v, e = .returned (.tuple #[v, .bool true]) ∧ Row w' 1 v 2 (ints [(r : Int), (d : Int)]) ∧ Kept [] w w'
def Ends (v : Value) (w : World) (e : Ending) (w' : World) : Prop := e = .returned v ∧ Kept [] w w'

set_option linter.unusedSimpArgs false
set_option maxRecDepth 100000 in
set_option maxHeartbeats 8000000 in
theorem open_x (n : Nat) (hn : n = 1 ∨ n = 2) (sv ve : Value) (bp op cp : Nat) (w : World) (hs : SetV w sv) (he : Row w 1 ve 1 (ints [6])) (hnc : n ≤ cp)
    (hcp : ∀ k, k < n → w.cell? ⟨bp, op + k * 3, none⟩ = some (.int .i64 (ptA k)) ∧ w.cell? ⟨bp, op + k * 3 + 1, none⟩ = some (.int .i64 (ptB k)) ∧ w.cell? ⟨bp, op + k * 3 + 2, none⟩ = some (.int .i64 (ptC k))) :
    Calls Tryz.prog 38 #[sv, .int .i64 16, ve, .slice (some ⟨bp, op, none⟩) n cp] w (Ends (openRes n) w) := by
  obtain ⟨sa, sc, rfl, hrow⟩ := hs
  obtain ⟨ae, ce, rfl, _, _⟩ := he.form
  have hpl : bp < w.heap.size := World.block_lt_of_cell? w _ (hcp 0 (by omega)).1
  obtain ⟨W, hW⟩ : ∃ W, w.alloc (.cells (setC (.slice sa 2 sc)) 26) = W := ⟨_, rfl⟩
  have hb : Blk W w.heap.size 26 (setC (.slice sa 2 sc)) := hW ▸ Blk.new _ _ _
  have hkW : Kept [] w W := hW ▸ (Kept.refl _ _).alloc _
  have hWs : W.heap.size = w.heap.size + 1 := by rw [← hW]; simp only [World.size_alloc]
  have HS : Hid (SetV W (.agg (setC (.slice sa 2 sc)))) := ⟨sa, sc, rfl, hrow.kept hkW⟩
  have HE := Lib.hid (he.kept hkW)
  have PC : Hid (∀ w', Kept [] W w' → ∀ k, k < n → w'.cell? ⟨bp, op + k * 3, none⟩ = some (.int .i64 (ptA k)) ∧ w'.cell? ⟨bp, op + k * 3 + 1, none⟩ = some (.int .i64 (ptB k)) ∧ w'.cell? ⟨bp, op + k * 3 + 2, none⟩ = some (.int .i64 (ptC k))) := fun w' kk k hk =>
    ⟨((hkW.trans kk).cell (p := ⟨bp, op + k * 3, none⟩) hpl (by simp)).trans (hcp k hk).1, ((hkW.trans kk).cell (p := ⟨bp, op + k * 3 + 1, none⟩) hpl (by simp)).trans (hcp k hk).2.1, ((hkW.trans kk).cell (p := ⟨bp, op + k * 3 + 2, none⟩) hpl (by simp)).trans (hcp k hk).2.2⟩
  have K : Hid (∀ w', Kept [] W w' → w'.cell? ⟨w.heap.size, 0, none⟩ = some (.int .i64 23) ∧ w'.cell? ⟨w.heap.size, 1, none⟩ = some (.int .i64 11) ∧ w'.cell? ⟨w.heap.size, 2, none⟩ = some (.int .i64 4) ∧ w'.cell? ⟨w.heap.size, 3, none⟩ = some (.slice sa 2 sc) ∧ w'.cell? ⟨w.heap.size, 4, none⟩ = some (.int .i64 12)) :=
    fun w' k => ⟨(hb.kept k (by simp)).cell 0, (hb.kept k (by simp)).cell 1, (hb.kept k (by simp)).cell 2, (hb.kept k (by simp)).cell 3, (hb.kept k (by simp)).cell 4⟩
  have HW : Hid (w.alloc (.cells #[.int .i64 23, .int .i64 11, .int .i64 4, .slice sa 2 sc, .int .i64 12] 26) = W) := hW
  have CH : Hid (∀ (k : Nat) w', k < 2 → Kept [] W w' → Calls Tryz.prog 51 #[.agg #[.int .i64 23, .int .i64 11, .int .i64 4, .slice sa 2 sc, .int .i64 12], .int .i64 16, .slice ae 1 ce, .agg #[.int .i64 (ptA k), .int .i64 (ptB k), .int .i64 (ptC k)]] w' fun e w2 => e = .returned (.bool true) ∧ Kept [] w' w2) :=
    fun k w' hk kk => by
      rcases (by omega : k = 0 ∨ k = 1) with rfl | rfl
      · exact check_x _ _ 1 8 3 w' (HS.out.kept kk) (HE.out.kept kk) (by omega) (by omega) (by omega) (by omega) (by decide)
      · exact check_x _ _ 2 2 4 w' (HS.out.kept kk) (HE.out.kept kk) (by omega) (by omega) (by omega) (by omega) (by decide)
  have hmm := @run_makeMap Tryz.prog
  obtain ⟨i0, hi, hz0, hz1, hz2⟩ := info_parts infoInt
  have hn2 : n ≤ 2 := by omega
  clear hW hb hrow he hcp
  go_enter Tryz.func38, Tryz.ntmps38
  unfold setC
  go_wp2_with fail
  rw [HW.out]
  go_loopw [11, 12, 13, 15, 29] (fun vx vf vg _ vi wr => ∃ (k : Nat) (ax : Option Addr) (cx : Nat) (af : Option Addr) (cf : Nat) (ag : Option Addr) (cg : Nat), k ≤ n ∧ vi = .int .i64 k ∧ vx = .slice ax k cx ∧ vf = .slice af k cf ∧ vg = .slice ag k cg ∧
      Dis ax af ∧ Dis ax ag ∧ Dis af ag ∧ wr.ownsRow W.heap.size 3 1 (.slice ax k cx) k (ints (([1, 2] : List Int).take k)) ∧ wr.ownsRow W.heap.size 3 1 (.slice af k cf) k (ints (([8, 2] : List Int).take k)) ∧
      wr.ownsRow W.heap.size 3 1 (.slice ag k cg) k (ints (([3, 4] : List Int).take k)) ∧ Kept [] W wr) (fun _ _ _ _ vi _ => n - (intOf vi).toNat)
  case atStart => exact ⟨0, none, 0, none, 0, none, 0, by omega, rfl, rfl, rfl, rfl, by simp [Dis, bl], by simp [Dis, bl], by simp [Dis, bl], by simpa [ints] using World.ownsRow_nil _ _ _ _, by simpa [ints] using World.ownsRow_nil _ _ _ _, by simpa [ints] using World.ownsRow_nil _ _ _ _, Kept.refl _ _⟩
  case round =>
    obtain ⟨k, ax, cx, af, cf, ag, cg, hk, rfl, rfl, rfl, rfl, nxf, nxg, nfg, ox, of_, og, hkr⟩ := hrel
    have HX := Lib.hid ox
    have HF := Lib.hid of_
    have HG := Lib.hid og
    by_cases hlt : k < n
    · obtain ⟨a0, a1, a2⟩ := PC.out wr hkr k hlt
      have HC := Lib.hid (CH.out k · (by omega))
      have EX : Hid (ints (([1, 2] : List Int).take k) ++ [.int .i64 (ptA k)] = ints (([1, 2] : List Int).take (k + 1))) := by rcases (by omega : k = 0 ∨ k = 1) with rfl | rfl <;> rfl
      have EF : Hid (ints (([8, 2] : List Int).take k) ++ [.int .i64 (ptB k)] = ints (([8, 2] : List Int).take (k + 1))) := by rcases (by omega : k = 0 ∨ k = 1) with rfl | rfl <;> rfl
      have EG : Hid (ints (([3, 4] : List Int).take k) ++ [.int .i64 (ptC k)] = ints (([3, 4] : List Int).take (k + 1))) := by rcases (by omega : k = 0 ∨ k = 1) with rfl | rfl <;> rfl
      obtain ⟨j, hj⟩ : ∃ j, ptA k = j := ⟨_, rfl⟩
      obtain ⟨s, hs⟩ : ∃ s, ptB k = s := ⟨_, rfl⟩
      obtain ⟨m, hm⟩ : ∃ m, ptC k = m := ⟨_, rfl⟩
      rw [hj] at a0 HC EX
      rw [hs] at a1 HC EF
      rw [hm] at a2 HC EG
      have kZ : Kept [] W (wr.alloc (.cells #[.int .i64 j, .int .i64 s, .int .i64 m] 71)) := hkr.alloc _
      have bZ := Blk.new wr 71 #[.int .i64 j, .int .i64 s, .int .i64 m]
      obtain ⟨Zw, hZ⟩ : ∃ Z', wr.alloc (.cells #[.int .i64 j, .int .i64 s, .int .i64 m] 71) = Z' := ⟨_, rfl⟩
      have kwZ : Kept [] wr Zw := hZ ▸ (Kept.refl _ _).alloc _
      obtain ⟨b, hbq⟩ : ∃ b, wr.heap.size = b := ⟨_, rfl⟩
      rw [hZ] at kZ bZ
      rw [hbq] at bZ
      have HZ := Lib.hid hZ
      obtain ⟨e0, e1, e2, e3, e4⟩ := K.out Zw kZ
      clear hZ hj hs hm
      go_upto_region 5 with (fail)
      rw [HZ.out]
      have b0 : Zw.cell? ⟨b, 0, none⟩ = some (.int .i64 j) := bZ.cell 0
      have b1 : Zw.cell? ⟨b, 1, none⟩ = some (.int .i64 s) := bZ.cell 1
      have b2 : Zw.cell? ⟨b, 2, none⟩ = some (.int .i64 m) := bZ.cell 2
      go_wp2_with (go_at_call 51; refine (HC.out _ kZ).mono ?_)
      rintro e w1 ⟨rfl, hk1⟩
      clear e0 e1 e2 e3 e4 b0 b1 b2 a0 a1 a2
      have k1 := kZ.trans hk1
      have kw1 := kwZ.trans hk1
      have hs1 := k1.size
      have hsw := kw1.size
      have bZ1 := bZ.kept hk1 (by simp)
      have lx := own_bl_lt ox
      have lf := own_bl_lt of_
      have lg := own_bl_lt og
      have ox1 := own_nk ox kw1 (by simp)
      have of1 := own_nk of_ kw1 (by simp)
      have og1 := own_nk og kw1 (by simp)
      rw [hbq] at lx lf lg
      have hbS : b ∉ bl ax ++ (bl af ++ bl ag) := by
        simp only [List.mem_append]
        rintro (h | h | h)
        · have := lx b h; omega
        · have := lf b h; omega
        · have := lg b h; omega
      have dis_x : ∀ z ∈ bl ax, z ∉ bl af ++ bl ag := fun z hz h => (List.mem_append.1 h).elim (nxf z hz) (nxg z hz)
      have dis_f : ∀ z ∈ bl af, z ∉ bl ax ++ bl ag := fun z hz h => (List.mem_append.1 h).elim (fun h => nxf z h hz) (nfg z hz)
      have dis_g : ∀ z ∈ bl ag, z ∉ bl ax ++ bl af := fun z hz h => (List.mem_append.1 h).elim (fun h => nxg z h hz) (fun h => nfg z h hz)
      have q0 : ∀ w', Kept (bl ax ++ (bl af ++ bl ag)) w1 w' → w'.cell? ⟨b, 0, none⟩ = some (.int .i64 j) := fun w' k => (k.cell (p := ⟨b, 0, none⟩) bZ1.lt hbS).trans (bZ1.cell 0)
      have q1 : ∀ w', Kept (bl ax ++ (bl af ++ bl ag)) w1 w' → w'.cell? ⟨b, 1, none⟩ = some (.int .i64 s) := fun w' k => (k.cell (p := ⟨b, 1, none⟩) bZ1.lt hbS).trans (bZ1.cell 1)
      have q2 : ∀ w', Kept (bl ax ++ (bl af ++ bl ag)) w1 w' → w'.cell? ⟨b, 2, none⟩ = some (.int .i64 m) := fun w' k => (k.cell (p := ⟨b, 2, none⟩) bZ1.lt hbS).trans (bZ1.cell 2)
      have lx1 : ∀ z ∈ bl ax, z < w1.heap.size := fun z hz => by have := lx z hz; omega
      have lf1 : ∀ z ∈ bl af, z < w1.heap.size := fun z hz => by have := lf z hz; omega
      have lg1 : ∀ z ∈ bl ag, z < w1.heap.size := fun z hz => by have := lg z hz; omega
      have LX := Lib.hid lx
      have LF := Lib.hid lf
      have LG := Lib.hid lg
      have NXF := Lib.hid nxf
      have NXG := Lib.hid nxg
      have NFG := Lib.hid nfg
      clear lx lf lg nxf nxg nfg ox of_ og
      go_upto_region 7 with (fail)
      go_region_held3 (fun w' => Kept (bl ax ++ (bl af ++ bl ag)) w1 w') (repeat (first | (with_reducible assumption) | (with_reducible exact Kept.refl _ _) | (with_reducible refine Kept.drew ?_) | (with_reducible refine Kept.alloc ?_ _) | (with_reducible refine Kept.grownS (by assumption) ?_ (by intro z hz; simp only [List.mem_append]; first | exact Or.inl hz | exact Or.inr (Or.inl hz) | exact Or.inr (Or.inr hz) | exact Or.inr hz | exact hz))))
        (first
          | ((refine step_append_lies _ rfl _ _ 24 rfl W.heap.size 3 i0 (.int .i64 0) 1 8 Tryz.underlying24 hi hz0 hz1 hz2 rfl (by decide) (.slice ax k cx) _ _ rfl (own_nk (S := bl af ++ bl ag) ox1 (by (repeat (first | (with_reducible assumption) | (with_reducible exact Kept.refl _ _) | (with_reducible refine Kept.drew ?_) | (with_reducible refine Kept.alloc ?_ _) | (with_reducible refine Kept.grownS (by assumption) ?_ (by intro z hz; simp only [List.mem_append]; first | exact Or.inl hz | exact Or.inr (Or.inl hz) | exact Or.inr (Or.inr hz) | exact Or.inr hz | exact hz))))) (dis_x)) _ 1 1 [.int .i64 j] rfl rfl (news_blk (T := 3) (by (repeat (first | (refine blk_new' (by simp only [World.size_alloc, World.drew]) _ _) | (with_reducible refine Blk.alloc ?_ _) | (with_reducible refine Blk.drew ?_) | (refine nb_grown (by assumption) ?_ (by intro h; (first | (have h1 := lx1 _ h) | (have h1 := lf1 _ h) | (have h1 := lg1 _ h)); (try have sX := hgX.size); (try have sF := hgF.size); (try simp only [World.size_alloc, World.drew] at h1); (try simp only [World.size_alloc, World.drew] at sX); (try simp only [World.size_alloc, World.drew] at sF); omega)))))) (by intro u hu; rw [List.mem_singleton] at hu; subst hu; rfl) (by omega) (by unfold maxLen; omega) (by omega) (Nat.le_trans (m := w1.heap.size) hs1 (Kept.size (S := bl ax ++ (bl af ++ bl ag)) (w := w1) (by (repeat (first | (with_reducible assumption) | (with_reducible exact Kept.refl _ _) | (with_reducible refine Kept.drew ?_) | (with_reducible refine Kept.alloc ?_ _) | (with_reducible refine Kept.grownS (by assumption) ?_ (by intro z hz; simp only [List.mem_append]; first | exact Or.inl hz | exact Or.inr (Or.inl hz) | exact Or.inr (Or.inr hz) | exact Or.inr hz | exact hz))))))) _ rfl ?_; intro gX cX wX hownX hgX hlX hltX))
          | ((refine step_append_lies _ rfl _ _ 24 rfl W.heap.size 3 i0 (.int .i64 0) 1 8 Tryz.underlying24 hi hz0 hz1 hz2 rfl (by decide) (.slice af k cf) _ _ rfl (own_nk (S := bl ax ++ bl ag) of1 (by (repeat (first | (with_reducible assumption) | (with_reducible exact Kept.refl _ _) | (with_reducible refine Kept.drew ?_) | (with_reducible refine Kept.alloc ?_ _) | (with_reducible refine Kept.grownS (by assumption) ?_ (by intro z hz; simp only [List.mem_append]; first | exact Or.inl hz | exact Or.inr (Or.inl hz) | exact Or.inr (Or.inr hz) | exact Or.inr hz | exact hz))))) (dis_f)) _ 1 1 [.int .i64 s] rfl rfl (news_blk (T := 3) (by (repeat (first | (refine blk_new' (by simp only [World.size_alloc, World.drew]) _ _) | (with_reducible refine Blk.alloc ?_ _) | (with_reducible refine Blk.drew ?_) | (refine nb_grown (by assumption) ?_ (by intro h; (first | (have h1 := lx1 _ h) | (have h1 := lf1 _ h) | (have h1 := lg1 _ h)); (try have sX := hgX.size); (try have sF := hgF.size); (try simp only [World.size_alloc, World.drew] at h1); (try simp only [World.size_alloc, World.drew] at sX); (try simp only [World.size_alloc, World.drew] at sF); omega)))))) (by intro u hu; rw [List.mem_singleton] at hu; subst hu; rfl) (by omega) (by unfold maxLen; omega) (by omega) (Nat.le_trans (m := w1.heap.size) hs1 (Kept.size (S := bl ax ++ (bl af ++ bl ag)) (w := w1) (by (repeat (first | (with_reducible assumption) | (with_reducible exact Kept.refl _ _) | (with_reducible refine Kept.drew ?_) | (with_reducible refine Kept.alloc ?_ _) | (with_reducible refine Kept.grownS (by assumption) ?_ (by intro z hz; simp only [List.mem_append]; first | exact Or.inl hz | exact Or.inr (Or.inl hz) | exact Or.inr (Or.inr hz) | exact Or.inr hz | exact hz))))))) _ rfl ?_; intro gF cF wF hownF hgF hlF hltF))
          | ((refine step_append_lies _ rfl _ _ 24 rfl W.heap.size 3 i0 (.int .i64 0) 1 8 Tryz.underlying24 hi hz0 hz1 hz2 rfl (by decide) (.slice ag k cg) _ _ rfl (own_nk (S := bl ax ++ bl af) og1 (by (repeat (first | (with_reducible assumption) | (with_reducible exact Kept.refl _ _) | (with_reducible refine Kept.drew ?_) | (with_reducible refine Kept.alloc ?_ _) | (with_reducible refine Kept.grownS (by assumption) ?_ (by intro z hz; simp only [List.mem_append]; first | exact Or.inl hz | exact Or.inr (Or.inl hz) | exact Or.inr (Or.inr hz) | exact Or.inr hz | exact hz))))) (dis_g)) _ 1 1 [.int .i64 m] rfl rfl (news_blk (T := 3) (by (repeat (first | (refine blk_new' (by simp only [World.size_alloc, World.drew]) _ _) | (with_reducible refine Blk.alloc ?_ _) | (with_reducible refine Blk.drew ?_) | (refine nb_grown (by assumption) ?_ (by intro h; (first | (have h1 := lx1 _ h) | (have h1 := lf1 _ h) | (have h1 := lg1 _ h)); (try have sX := hgX.size); (try have sF := hgF.size); (try simp only [World.size_alloc, World.drew] at h1); (try simp only [World.size_alloc, World.drew] at sX); (try simp only [World.size_alloc, World.drew] at sF); omega)))))) (by intro u hu; rw [List.mem_singleton] at hu; subst hu; rfl) (by omega) (by unfold maxLen; omega) (by omega) (Nat.le_trans (m := w1.heap.size) hs1 (Kept.size (S := bl ax ++ (bl af ++ bl ag)) (w := w1) (by (repeat (first | (with_reducible assumption) | (with_reducible exact Kept.refl _ _) | (with_reducible refine Kept.drew ?_) | (with_reducible refine Kept.alloc ?_ _) | (with_reducible refine Kept.grownS (by assumption) ?_ (by intro z hz; simp only [List.mem_append]; first | exact Or.inl hz | exact Or.inr (Or.inl hz) | exact Or.inr (Or.inr hz) | exact Or.inr hz | exact hz))))))) _ rfl ?_; intro gG cG wG hownG hgG hlG hltG)))
      all_goals rename_i hHeld
      all_goals clear q0 q1 q2
      all_goals clear hHeld
      all_goals
        have sX := hgX.size
        have sF := hgF.size
        have sG := hgG.size
        simp only [World.size_alloc, World.drew] at sX sF sG hlX hlF hlG
        have hb1 := bZ1.lt
        have dXF : gX ≠ gF := by
          intro h
          rcases hlX with h1 | h1 <;> rcases hlF with h2 | h2
          · exact NXF.out gX (own_bl h1) (h ▸ own_bl h2)
          · have := LX.out gX (own_bl h1); omega
          · have := LF.out gF (own_bl h2); omega
          · omega
        have dXG : gX ≠ gG := by
          intro h
          rcases hlX with h1 | h1 <;> rcases hlG with h2 | h2
          · exact NXG.out gX (own_bl h1) (h ▸ own_bl h2)
          · have := LX.out gX (own_bl h1); omega
          · have := LG.out gG (own_bl h2); omega
          · omega
        have dFG : gF ≠ gG := by
          intro h
          rcases hlF with h1 | h1 <;> rcases hlG with h2 | h2
          · exact NFG.out gF (own_bl h1) (h ▸ own_bl h2)
          · have := LF.out gF (own_bl h1); omega
          · have := LG.out gG (own_bl h2); omega
          · omega
        have nX : ∀ z ∈ bl (some ⟨gX, 0, none⟩), z ∉ bl af ++ bl ag := by
          intro z hz
          simp only [bl, List.mem_singleton] at hz
          subst hz
          rcases hlX with h1 | h1
          · exact dis_x _ (own_bl h1)
          · intro h
            rcases List.mem_append.1 h with h | h
            · have := LF.out _ h; omega
            · have := LG.out _ h; omega
        have nF : ∀ z ∈ bl (some ⟨gF, 0, none⟩), z ∉ bl ax ++ bl ag := by
          intro z hz
          simp only [bl, List.mem_singleton] at hz
          subst hz
          rcases hlF with h1 | h1
          · exact dis_f _ (own_bl h1)
          · intro h
            rcases List.mem_append.1 h with h | h
            · have := LX.out _ h; omega
            · have := LG.out _ h; omega
        have nG : ∀ z ∈ bl (some ⟨gG, 0, none⟩), z ∉ bl ax ++ bl af := by
          intro z hz
          simp only [bl, List.mem_singleton] at hz
          subst hz
          rcases hlG with h1 | h1
          · exact dis_g _ (own_bl h1)
          · intro h
            rcases List.mem_append.1 h with h | h
            · have := LX.out _ h; omega
            · have := LF.out _ h; omega
        rw [EX.out] at hownX
        rw [EF.out] at hownF
        rw [EG.out] at hownG
        have hSB : ∀ z ∈ bl ax ++ (bl af ++ bl ag), W.heap.size ≤ z := by
          intro z hz
          simp only [List.mem_append] at hz
          rcases hz with h | h | h
          · exact (LX.out z h).1
          · exact (LF.out z h).1
          · exact (LG.out z h).1
        clear sX sF sG hlX hlF hlG hltX hltF hltG
        go_wp2_with fail
        go_roundw
        case rel => exact ⟨k + 1, _, _, _, _, _, _, by omega, by go_num, rfl, rfl, rfl, by intro z hz; simp [bl] at hz ⊢; omega, by intro z hz; simp [bl] at hz ⊢; omega, by intro z hz; simp [bl] at hz ⊢; omega, own_nk (S := bl af ++ bl ag) hownX (by (repeat (first | (with_reducible assumption) | (with_reducible exact Kept.refl _ _) | (with_reducible refine Kept.drew ?_) | (with_reducible refine Kept.alloc ?_ _) | (with_reducible refine Kept.grownS (by assumption) ?_ (by intro z hz; simp only [List.mem_append]; first | exact Or.inl hz | exact Or.inr (Or.inl hz) | exact Or.inr (Or.inr hz) | exact Or.inr hz | exact hz))))) nX, own_nk (S := bl ax ++ bl ag) hownF (by (repeat (first | (with_reducible assumption) | (with_reducible exact Kept.refl _ _) | (with_reducible refine Kept.drew ?_) | (with_reducible refine Kept.alloc ?_ _) | (with_reducible refine Kept.grownS (by assumption) ?_ (by intro z hz; simp only [List.mem_append]; first | exact Or.inl hz | exact Or.inr (Or.inl hz) | exact Or.inr (Or.inr hz) | exact Or.inr hz | exact hz))))) nF, own_nk (S := bl ax ++ bl af) hownG (by (repeat (first | (with_reducible assumption) | (with_reducible exact Kept.refl _ _) | (with_reducible refine Kept.drew ?_) | (with_reducible refine Kept.alloc ?_ _) | (with_reducible refine Kept.grownS (by assumption) ?_ (by intro z hz; simp only [List.mem_append]; first | exact Or.inl hz | exact Or.inr (Or.inl hz) | exact Or.inr (Or.inr hz) | exact Or.inr hz | exact hz))))) nG, k1.fresh (S' := bl ax ++ (bl af ++ bl ag)) (by (repeat (first | (with_reducible assumption) | (with_reducible exact Kept.refl _ _) | (with_reducible refine Kept.drew ?_) | (with_reducible refine Kept.alloc ?_ _) | (with_reducible refine Kept.grownS (by assumption) ?_ (by intro z hz; simp only [List.mem_append]; first | exact Or.inl hz | exact Or.inr (Or.inl hz) | exact Or.inr (Or.inr hz) | exact Or.inr hz | exact hz))))) hSB⟩
        case measure => simp [intOf]; omega
    · obtain rfl : k = n := by omega
      have RX := Lib.hid (Row.of_own HX.out (by omega))
      have RF := Lib.hid (Row.of_own HF.out (by omega))
      have RG := Lib.hid (Row.of_own HG.out (by omega))
      have hk0 := hkW.trans hkr
      clear nxf nxg nfg ox of_ og HX HF HG CH PC
      obtain ⟨e0, e1, e2, e3, e4⟩ := K.out wr hkr
      rcases hn with rfl | rfl
      · replace RX : Hid (Row wr 1 (.slice ax 1 cx) 1 (ints [1])) := RX
        obtain ⟨bx, ox, rfl, hcx⟩ := RX.out.at_ (by omega)
        have x0 : ∀ w', Kept [] wr w' → w'.cell? ⟨bx, ox, none⟩ = some (.int .i64 1) := Kept.cellOf (hcx 0 _ rfl)
        clear hcx e0 e1 e2 e3 e4
        go_wp2_with fail
        have hown0 := World.ownsMap_made (H := Unit) wr Tryz.prog 3 (plainElem Tryz.prog 4)
        have hkM : Kept [] wr (wr.alloc (.map #[] 0)) := (Kept.refl _ _).alloc _
        obtain ⟨R, hR⟩ : ∃ R, wr = R := ⟨_, rfl⟩
        rw [hR] at hown0 hkM ⊢
        rw [hR] at x0 hk0
        clear hR
        rw [show ((1 : Nat) : Int) = 1 from rfl]
        go_loopw [18, 58] (fun _ vi wr => ∃ k : Nat, k ≤ 1 ∧ vi = .int .i64 k ∧ wr.ownsMap Tryz.prog 3 (plainElem Tryz.prog 4) R.heap.size k (if k = 0 then mp0 else mpI1) ∧ Kept [] R wr) (fun _ vi _ => 1 - (intOf vi).toNat)
        case atStart => exact ⟨0, by omega, rfl, hown0, hkM⟩
        case round =>
          obtain ⟨k, hk, rfl, hown, hkq⟩ := hrel
          rcases (by omega : k = 0 ∨ k = 1) with rfl | rfl
          · replace hown : wr.ownsMap Tryz.prog 3 (plainElem Tryz.prog 4) R.heap.size 0 mp0 := hown
            have hl := look_x hown 1 (by decide) at0
            have xa := x0 wr hkq
            go_wp2_with (at_mapUpdate; refine wpList_mapUpdate_own _ rfl _ _ _ 139 rfl 3 4 keyedI Tryz.underlying139 _ R.heap.size 0 _ rfl hown (by unfold maxLen; omega) _ _ _ rfl rfl (keyOf_int_mk Tryz.underlying3 (by decide)) _ [] (plainElem_bool Tryz.underlying4 true) ?_; intro w2 hown2 hgrow2)
            have hk2 : Kept [] R w2 := hkq.grown hgrow2 (fun k e => by cases e; exact Or.inr (Nat.le_refl _))
            clear hgrow2 hl xa
            go_wp2_with fail
            go_roundw
            case rel => exact ⟨1, by omega, rfl, hown2, hk2⟩
            case measure => simp [intOf]
          · go_wp2_with fail
            go_ret3
            exact ⟨rfl, hk0.trans hkq⟩
      · replace RX : Hid (Row wr 1 (.slice ax 2 cx) 2 (ints [1, 2])) := RX
        replace RF : Hid (Row wr 1 (.slice af 2 cf) 2 (ints [8, 2])) := RF
        replace RG : Hid (Row wr 1 (.slice ag 2 cg) 2 (ints [3, 4])) := RG
        obtain ⟨bx, ox, rfl, hcx⟩ := RX.out.at_ (by omega)
        obtain ⟨bf, of_, rfl, hcf⟩ := RF.out.at_ (by omega)
        obtain ⟨bg, og, rfl, hcg⟩ := RG.out.at_ (by omega)
        have hxc := RX.out.cap
        have hfc := RF.out.cap
        have hgc := RG.out.cap
        have ixc : (2 : Int) ≤ (cx : Int) := by omega
        have ifc : (2 : Int) ≤ (cf : Int) := by omega
        have igc : (2 : Int) ≤ (cg : Int) := by omega
        have x0 : Hid (∀ w', Kept [] wr w' → w'.cell? ⟨bx, ox, none⟩ = some (.int .i64 1)) := Kept.cellOf (hcx 0 _ rfl)
        have x1 : Hid (∀ w', Kept [] wr w' → w'.cell? ⟨bx, ox + 1, none⟩ = some (.int .i64 2)) := Kept.cellOf (hcx 1 _ rfl)
        have f0 : Hid (∀ w', Kept [] wr w' → w'.cell? ⟨bf, of_, none⟩ = some (.int .i64 8)) := Kept.cellOf (hcf 0 _ rfl)
        have f1 : Hid (∀ w', Kept [] wr w' → w'.cell? ⟨bf, of_ + 1, none⟩ = some (.int .i64 2)) := Kept.cellOf (hcf 1 _ rfl)
        have g0 : Hid (∀ w', Kept [] wr w' → w'.cell? ⟨bg, og, none⟩ = some (.int .i64 3)) := Kept.cellOf (hcg 0 _ rfl)
        have g1 : Hid (∀ w', Kept [] wr w' → w'.cell? ⟨bg, og + 1, none⟩ = some (.int .i64 4)) := Kept.cellOf (hcg 1 _ rfl)
        have EQ : Hid (∀ w', Kept [] wr w' → w'.cell? ⟨w.heap.size, 1, none⟩ = some (.int .i64 11)) := Kept.cellOf e1
        have TA : Hid (∀ w', Kept [] wr w' → Calls Tryz.prog 35 #[.int .i64 11, .slice (some ⟨bx, ox, none⟩) 2 cx, .slice (some ⟨bf, of_, none⟩) 2 cf] w' (ThrP 3 5 w')) := fun w' k =>
          through_x _ _ 8 2 5 5 5 6 3 w' (RX.out.kept k) (RF.out.kept k) (by omega) (by omega) (by decide) (by decide) (by decide) (by decide) (by decide)
        have TB : Hid (∀ w', Kept [] wr w' → Calls Tryz.prog 35 #[.int .i64 11, .slice (some ⟨bx, ox, none⟩) 2 cx, .slice (some ⟨bg, og, none⟩) 2 cg] w' (ThrP 2 1 w')) := fun w' k =>
          through_x _ _ 3 4 1 1 1 10 2 w' (RX.out.kept k) (RG.out.kept k) (by omega) (by omega) (by decide) (by decide) (by decide) (by decide) (by decide)
        clear hcx hcf hcg e0 e1 e2 e3 e4
        go_wp2_with fail
        have hown0 := World.ownsMap_made (H := Unit) wr Tryz.prog 3 (plainElem Tryz.prog 4)
        have hkM : Kept [] wr (wr.alloc (.map #[] 0)) := (Kept.refl _ _).alloc _
        obtain ⟨R, hR⟩ : ∃ R, wr = R := ⟨_, rfl⟩
        rw [hR] at hown0 hkM ⊢
        rw [hR] at x0 x1 f0 f1 g0 g1 hk0 TA TB EQ
        clear hR RX RF RG
        rw [show ((2 : Nat) : Int) = 2 from rfl]
        go_loopw [18, 58] (fun _ vi wr => ∃ k : Nat, k ≤ 2 ∧ vi = .int .i64 k ∧ wr.ownsMap Tryz.prog 3 (plainElem Tryz.prog 4) R.heap.size k (if k = 0 then mp0 else if k = 1 then mpI1 else mpI2) ∧ Kept [] R wr) (fun _ vi _ => 2 - (intOf vi).toNat)
        case atStart => exact ⟨0, by omega, rfl, hown0, hkM⟩
        case round =>
          obtain ⟨k, hk, rfl, hown, hkq⟩ := hrel
          rcases (by omega : k = 0 ∨ k = 1 ∨ k = 2) with rfl | rfl | rfl
          · replace hown : wr.ownsMap Tryz.prog 3 (plainElem Tryz.prog 4) R.heap.size 0 mp0 := hown
            have hl := look_x hown 1 (by decide) at0
            have xa := x0.out wr hkq
            go_wp2_with (at_mapUpdate; refine wpList_mapUpdate_own _ rfl _ _ _ 139 rfl 3 4 keyedI Tryz.underlying139 _ R.heap.size 0 _ rfl hown (by unfold maxLen; omega) _ _ _ rfl rfl (keyOf_int_mk Tryz.underlying3 (by decide)) _ [] (plainElem_bool Tryz.underlying4 true) ?_; intro w2 hown2 hgrow2)
            have hk2 : Kept [] R w2 := hkq.grown hgrow2 (fun k e => by cases e; exact Or.inr (Nat.le_refl _))
            clear hgrow2 hl xa
            go_wp2_with fail
            go_roundw
            case rel => exact ⟨1, by omega, rfl, hown2, hk2⟩
            case measure => simp [intOf]
          · replace hown : wr.ownsMap Tryz.prog 3 (plainElem Tryz.prog 4) R.heap.size 1 mpI1 := hown
            have hl := look_x hown 2 (by decide) at1
            have xa := x1.out wr hkq
            go_wp2_with (at_mapUpdate; refine wpList_mapUpdate_own _ rfl _ _ _ 139 rfl 3 4 keyedI Tryz.underlying139 _ R.heap.size 1 _ rfl hown (by unfold maxLen; omega) _ _ _ rfl rfl (keyOf_int_mk Tryz.underlying3 (by decide)) _ [] (plainElem_bool Tryz.underlying4 true) ?_; intro w2 hown2 hgrow2)
            have hk2 : Kept [] R w2 := hkq.grown hgrow2 (fun k e => by cases e; exact Or.inr (Nat.le_refl _))
            clear hgrow2 hl xa
            go_wp2_with fail
            go_roundw
            case rel => exact ⟨2, by omega, rfl, hown2, hk2⟩
            case measure => simp [intOf]
          · have eq := EQ.out wr hkq
            clear hown
            go_upto_region 21 with (fail)
            clear eq
            go_region_held3 (fun w' => Kept [] R w') (repeat (first | (with_reducible assumption) | (with_reducible exact hkq) | (with_reducible refine Kept.drew ?_)))
              (first
                | ((go_at_call 35; refine (TA.out _ (by assumption)).mono ?_; rintro e w3 ⟨va, rfl, hva, hk3⟩; have ht3 : Kept [] R w3 := Kept.trans (by assumption) hk3)))
            rename_i hHeld
            clear hHeld
            obtain ⟨aa, ca, rfl, _, _⟩ := hva.form
            go_upto_region 22 with (fail)
            go_region_held3 (fun w' => Kept [] R w') (repeat (first | (with_reducible assumption) | (with_reducible exact ht3) | (with_reducible refine Kept.drew ?_)))
              (first
                | ((go_at_call 35; refine (TB.out _ (by assumption)).mono ?_; rintro e w4 ⟨vb, rfl, hvb, hk4⟩; have hd4 : Kept [] w3 w4 := ((Kept.refl [] w3).drew).trans hk4; have ht4 : Kept [] R w4 := Kept.trans (by assumption) hk4)))
            rename_i hHeld
            clear hHeld
            obtain ⟨ab, cb, rfl, _, _⟩ := hvb.form
            have hva4 := hva.kept hd4
            have AA : Hid (∀ w', Kept [] w4 w' → (Calls Tryz.prog 96 #[.int .i64 11, .slice aa 2 ca, .int .i64 1] w' fun e w2 => e = .returned (.int .i64 8) ∧ Kept [] w' w2) ∧ (Calls Tryz.prog 96 #[.int .i64 11, .slice aa 2 ca, .int .i64 2] w' fun e w2 => e = .returned (.int .i64 2) ∧ Kept [] w' w2) ∧
                (Calls Tryz.prog 96 #[.int .i64 11, .slice aa 2 ca, .int .i64 0] w' fun e w2 => e = .returned (.int .i64 3) ∧ Kept [] w' w2)) := fun w' k => by
              have h1 := at_any 11 1 [z3, z5] _ w' (by omega) (by omega) ⟨by omega, by omega⟩ (hva4.kept k) (by decide) (by decide)
              have h2 := at_any 11 2 [z3, z5] _ w' (by omega) (by omega) ⟨by omega, by omega⟩ (hva4.kept k) (by decide) (by decide)
              have h3 := at_any 11 0 [z3, z5] _ w' (by omega) (by omega) ⟨by omega, by omega⟩ (hva4.kept k) (by decide) (by decide)
              rw [show atN 11 1 [z3, z5] = 8 by decide] at h1
              rw [show atN 11 2 [z3, z5] = 2 by decide] at h2
              rw [show atN 11 0 [z3, z5] = 3 by decide] at h3
              exact ⟨h1, h2, h3⟩
            have BB : Hid (∀ w', Kept [] w4 w' → (Calls Tryz.prog 96 #[.int .i64 11, .slice ab 2 cb, .int .i64 1] w' fun e w2 => e = .returned (.int .i64 3) ∧ Kept [] w' w2) ∧ (Calls Tryz.prog 96 #[.int .i64 11, .slice ab 2 cb, .int .i64 2] w' fun e w2 => e = .returned (.int .i64 4) ∧ Kept [] w' w2) ∧
                (Calls Tryz.prog 96 #[.int .i64 11, .slice ab 2 cb, .int .i64 0] w' fun e w2 => e = .returned (.int .i64 2) ∧ Kept [] w' w2)) := fun w' k => by
              have h1 := at_any 11 1 [z2, z1] _ w' (by omega) (by omega) ⟨by omega, by omega⟩ (hvb.kept k) (by decide) (by decide)
              have h2 := at_any 11 2 [z2, z1] _ w' (by omega) (by omega) ⟨by omega, by omega⟩ (hvb.kept k) (by decide) (by decide)
              have h3 := at_any 11 0 [z2, z1] _ w' (by omega) (by omega) ⟨by omega, by omega⟩ (hvb.kept k) (by decide) (by decide)
              rw [show atN 11 1 [z2, z1] = 3 by decide] at h1
              rw [show atN 11 2 [z2, z1] = 4 by decide] at h2
              rw [show atN 11 0 [z2, z1] = 2 by decide] at h3
              exact ⟨h1, h2, h3⟩
            clear hva hvb hva4 hd4 ht3
            go_wp2_with fail
            go_loopw [25, 26, 102] (fun _ _ vi wr => ∃ k : Nat, k ≤ 2 ∧ vi = .int .i64 k ∧ Kept [] w4 wr) (fun _ _ vi _ => 2 - (intOf vi).toNat)
            case atStart => exact ⟨0, by omega, rfl, Kept.refl _ _⟩
            case round =>
              obtain ⟨k, hk, rfl, hkz⟩ := hrel
              have hkR := ht4.trans hkz
              rcases (by omega : k = 0 ∨ k = 1 ∨ k = 2) with rfl | rfl | rfl
              · have xa := x0.out wr hkR
                have ya : ∀ x : KW wr, x.val.cell? ⟨bf, of_, none⟩ = some (.int .i64 8) := fun x => f0.out _ (hkR.trans x.property)
                have yb : ∀ x : KW wr, x.val.cell? ⟨bg, og, none⟩ = some (.int .i64 3) := fun x => g0.out _ (hkR.trans x.property)
                have C1 : Hid (∀ x : KW wr, Calls Tryz.prog 96 #[.int .i64 11, .slice aa 2 ca, .int .i64 1] x.val fun e w2 => e = .returned (.int .i64 8) ∧ Kept [] x.val w2) := fun x => (AA.out _ (hkz.trans x.property)).1
                have C2 : Hid (∀ x : KW wr, Calls Tryz.prog 96 #[.int .i64 11, .slice ab 2 cb, .int .i64 1] x.val fun e w2 => e = .returned (.int .i64 3) ∧ Kept [] x.val w2) := fun x => (BB.out _ (hkz.trans x.property)).1
                go_upto_region 26 with (fail)
                refine wp_region_kept wr (Kept.refl _ _) (by kernel_rfl) (by kernel_rfl) ?_
                repeat (go_big_quiet_step (first | (go_at_call_of 96 (Value.slice aa 2 ca); exact quiet_kept (C1.out _)) | (go_at_call_of 96 (Value.slice ab 2 cb); exact quiet_kept (C2.out _))))
                refine wpQuiet_nil ?_
                rintro w5 ⟨⟨_, hk5⟩, rfl⟩
                go_wp2_with fail
                go_roundw
                case rel => exact ⟨1, by omega, rfl, hkz.trans hk5⟩
                case measure => simp [intOf]
              · have xa := x1.out wr hkR
                have ya : ∀ x : KW wr, x.val.cell? ⟨bf, of_ + 1, none⟩ = some (.int .i64 2) := fun x => f1.out _ (hkR.trans x.property)
                have yb : ∀ x : KW wr, x.val.cell? ⟨bg, og + 1, none⟩ = some (.int .i64 4) := fun x => g1.out _ (hkR.trans x.property)
                have C1 : Hid (∀ x : KW wr, Calls Tryz.prog 96 #[.int .i64 11, .slice aa 2 ca, .int .i64 2] x.val fun e w2 => e = .returned (.int .i64 2) ∧ Kept [] x.val w2) := fun x => (AA.out _ (hkz.trans x.property)).2.1
                have C2 : Hid (∀ x : KW wr, Calls Tryz.prog 96 #[.int .i64 11, .slice ab 2 cb, .int .i64 2] x.val fun e w2 => e = .returned (.int .i64 4) ∧ Kept [] x.val w2) := fun x => (BB.out _ (hkz.trans x.property)).2.1
                go_upto_region 26 with (fail)
                refine wp_region_kept wr (Kept.refl _ _) (by kernel_rfl) (by kernel_rfl) ?_
                repeat (go_big_quiet_step (first | (go_at_call_of 96 (Value.slice aa 2 ca); exact quiet_kept (C1.out _)) | (go_at_call_of 96 (Value.slice ab 2 cb); exact quiet_kept (C2.out _))))
                refine wpQuiet_nil ?_
                rintro w5 ⟨⟨_, hk5⟩, rfl⟩
                go_wp2_with fail
                go_roundw
                case rel => exact ⟨2, by omega, rfl, hkz.trans hk5⟩
                case measure => simp [intOf]
              · have C1 := Lib.hid (AA.out wr hkz).2.2
                go_wp2_with (go_at_call_of 96 (Value.slice aa 2 ca); refine C1.out.mono ?_)
                rintro e w5 ⟨rfl, hk5⟩
                have C2 := Lib.hid (BB.out w5 (hkz.trans hk5)).2.2
                go_wp2_with (go_at_call_of 96 (Value.slice ab 2 cb); refine C2.out.mono ?_)
                rintro e w6 ⟨rfl, hk6⟩
                go_wp2_with fail
                go_ret3
                exact ⟨rfl, hk0.trans (hkR.trans (hk5.trans hk6))⟩
end Go.Proofs.YtabiklpemoijcaaGreatDoor
