/- Tasks in logs: DecodeTask. -/
import Derived.Test.YtcidfldeiklcjaaGreatDoorRow
import Derived.Test.YtcidfldeiklcjaaGreatDoorDeS
import Derived.Test.YtcidfldeiklcjaaGreatDoorDecT
import Derived.Deep.DeepCutAuto
import Derived.Deep.CutBlock
namespace Go.Proofs.YtcidfldeiklcjaaGreatDoor
open Go.RowKit Tape

def zeros8 : Array Value := #[.int .i64 0, .string ⟨#[]⟩, .slice none 0 0, .int .i64 0, .slice none 0 0, .int .i64 0, .int .i64 0, .int .i64 0]
theorem infoPass : (Tryz.prog.info? 123).map (fun i => (i.zero, i.size, i.bytes)) = some (some (.agg #[.string ⟨#[]⟩, .int .i64 0, .slice none 0 0, .slice none 0 0]), 4, 72) := by kernel_rfl
/-- a task under way in block tb, its reader in block b -/
structure Dk (w wr : World) (b tb B : Nat) (X : List Nat) (Fin : World → Prop) (q : List UInt8) (rvv : Value) (a : Option Addr) (n c : Nat) (l : List Pss) (r : Wire.Rd) : Prop where
  rd : RdAt wr b r
  bp : Blk wr tb 88 #[.int .i64 0, .string ⟨q.toArray⟩, .slice a n c, .int .i64 0, rvv, .int .i64 0, .int .i64 0, .int .i64 0]
  gr : Grow PssR 4 123 B X wr (.slice a n c) l
  fin : Stable X Fin wr
  nl : n = l.length
  vX : ∀ z ∈ obl (.slice a n c), z ∈ X
  bX : b ∈ X
  tX : tb ∈ X
  hX : ∀ z ∈ X, z < wr.heap.size
  lb : b < B
  lt : tb < B
  lB : B ≤ wr.heap.size
  bt : b ≠ tb
  wb : w.heap.size < b
  wt : w.heap.size < tb
  zq : Blk wr w.heap.size 88 zeros8
  k0 : Kept [] w wr
  fit : Fits r
section
variable {w wr w1 y u : World} {b tb B : Nat} {X : List Nat} {Fin : World → Prop} {q : List UInt8} {rvv : Value} {a : Option Addr} {n c : Nat} {l : List Pss} {r r' : Wire.Rd}
theorem Dk.ge (h : Dk w wr b tb B X Fin q rvv a n c l r) : ∀ z ∈ obl (.slice a n c), B ≤ z ∧ z < wr.heap.size := h.gr.ge
/-- the reader goes on -/
theorem Dk.read (h : Dk w wr b tb B X Fin q rvv a n c l r) (k : Kept [b] wr w1) (rd : RdAt w1 b r') (hf : Fits r') : Dk w w1 b tb B X Fin q rvv a n c l r' := by
  have h1 := h.bt
  have h2 := h.wb
  have hs := k.size
  have hk1 : ∀ z ∈ [b], z < wr.heap.size → z ∈ X := fun z hz _ => by rw [List.mem_singleton] at hz; subst hz; exact h.bX
  exact ⟨rd, h.bp.kept k (by simp; omega), h.gr.step k (fun z hz hm => by have := h.ge z hz; have := h.lb; rw [List.mem_singleton] at hm; omega) hk1 (fun z hz => Or.inl hz), h.fin.step k hk1 (fun z hz => Or.inl hz), h.nl, h.vX, h.bX, h.tX,
    fun z hz => Nat.lt_of_lt_of_le (h.hX z hz) hs, h.lb, h.lt, Nat.le_trans h.lB hs, h1, h2, h.wt, h.zq.kept k (by simp; omega), h.k0.fresh k (by simp; omega), hf⟩
theorem Dk.cell (h : Dk w wr b tb B X Fin q rvv a n c l r) : ∀ w', Kept (b :: obl (.slice a n c)) wr w' → w'.cell? ⟨tb, 2, none⟩ = some (.slice a n c) := fun w' k => by
  have h1 := h.bt
  have h2 := h.lt
  rw [(h.bp.kept k (fun hm => by
    rcases List.mem_cons.1 hm with e | e
    · omega
    · have := h.ge _ e; omega)).cell 2]
  rfl
theorem Dk.frozen (h : Dk w wr b tb B X Fin q rvv a n c l r) : ∀ w', Kept (b :: obl (.slice a n c)) wr w' → w'.frozen? ⟨tb, 2, none⟩ = false := fun w' k => by
  have h1 := h.bt
  have h2 := h.lt
  exact (h.bp.kept k (fun hm => by
    rcases List.mem_cons.1 hm with e | e
    · omega
    · have := h.ge _ e; omega)).frozen 2
/-- one more pass: u is the world of the append, w1 that behind the calls -/
theorem Dk.pushed {p : Option Addr} {m : Nat} {d : Pss} (D : Dk w w1 b tb B X Fin q rvv a n c l r') (ku : Kept [] w1 u) (G : Grow PssR 4 123 B (X ++ obl (.slice p (l.length + 1) m)) y (.slice p (l.length + 1) m) (l ++ [d])) (k : Kept (obl (.slice a n c)) u y)
    (t : ∀ z ∈ obl (.slice p (l.length + 1) m), z ∈ obl (.slice a n c) ∨ z = u.heap.size) :
    Kept (obl (.slice a n c)) w1 y ∧ ∃ X', Dk w (y.setCell ⟨tb, 2, none⟩ (.slice p (l.length + 1) m)) b tb B X' Fin q rvv p (l.length + 1) m (l ++ [d]) r' := by
  have hle := D.lB
  have hsu := ku.size
  have hlb := D.lb
  have hlp := D.lt
  have hwb := D.wb
  have hwt := D.wt
  have hbt := D.bt
  have hge := D.ge
  have kk : Kept (obl (.slice a n c)) w1 y := (ku.mono (by simp)).trans k
  have hsy := k.size
  have hXX : ∀ z ∈ X ++ obl (.slice p (l.length + 1) m), z ∈ X ∨ w1.heap.size ≤ z := fun z hz => by
    rcases List.mem_append.1 hz with e | e
    · exact Or.inl e
    · rcases t z e with e | e
      · exact Or.inl (D.vX z e)
      · exact Or.inr (by omega)
  refine ⟨kk, X ++ obl (.slice p (l.length + 1) m), ?_⟩
  have kp : Kept [tb] y (y.setCell ⟨tb, 2, none⟩ (.slice p (l.length + 1) m)) := (Kept.refl _ _).setCell (by simp) _
  have hsz : (y.setCell ⟨tb, 2, none⟩ (.slice p (l.length + 1) m)).heap.size = y.heap.size := by simp [World.setCell]
  have hbp := (D.bp.kept kk (fun hm => by have := hge _ hm; omega)).set_ 2 (.slice p (l.length + 1) m)
  have htX : ∀ z ∈ [tb], z < y.heap.size → z ∈ X ++ obl (.slice p (l.length + 1) m) := fun z hz _ => by rw [List.mem_singleton] at hz; subst hz; exact List.mem_append_left _ D.tX
  have hfin : Stable (X ++ obl (.slice p (l.length + 1) m)) Fin y := D.fin.step kk (fun z hz _ => D.vX z hz) hXX
  exact ⟨⟨D.rd.1, (D.rd.2.kept kk (fun hm => by have := hge _ hm; omega)).kept kp (by simp; omega)⟩, hbp, G.step kp (fun z hz hm => by have := G.ge z hz; rw [List.mem_singleton] at hm; omega) htX (fun z hz => Or.inl hz),
    hfin.step kp htX (fun z hz => Or.inl hz), by simp, fun z hz => List.mem_append_right _ hz, List.mem_append_left _ D.bX, List.mem_append_left _ D.tX,
    fun z hz => by
      rw [hsz]
      rcases List.mem_append.1 hz with e | e
      · have := D.hX z e; omega
      · exact (G.ge z e).2, hlb, hlp, by omega, hbt, hwb, hwt, (D.zq.kept kk (fun hm => by have := hge _ hm; omega)).kept kp (by simp; omega), (D.k0.fresh kk (fun z hz => by have := hge z hz; omega)).setCell (Or.inr (by simp; omega)) _, D.fit⟩
theorem step_pass {ops : Array Oper} {o : Oper} {ac : Act} {K : Act → World → Prop} {Q : Exit → Act → World → Prop} {E : Prop} (D : Dk w w1 b tb B X Fin q rvv a n c l r') (hgd : o.guard = none) (s x : Operand)
    (ho : o.op = .call { callee := .builtin .append, args := #[s, x], argTypes := #[86, 86] })
    (hs : ac.eval s = .slice a n c) (v : Value) (hx : ac.eval x = v) (el : List Value) (d : Pss) (hrow : Row u 4 v 1 el) (ku : Kept [] w1 u) (hR : Stable X (fun w => PssR w el d) w1) (h1 : ∀ u ∈ el, u.oneCell' = true) (hn : l.length ≤ 1000000000)
    (h : ∀ p m y, Kept (obl (.slice a n c)) w1 y → (∃ X', Dk w (y.setCell ⟨tb, 2, none⟩ (.slice p (l.length + 1) m)) b tb B X' Fin q rvv p (l.length + 1) m (l ++ [d]) r') → K (ac.put o.dst (.slice p (l.length + 1) m)) y) :
    if Region.wanted o (yielded ops ac.tmps) = true then Oper.wp Tryz.prog o ac u K Q else E := by
  have hle := D.lB
  have hsu := ku.size
  obtain ⟨i0, hi, hz0, hz1, hz2⟩ := info_parts infoPass
  refine step_append_grow hgd s x 86 ho i0 _ 72 Tryz.underlying86 hi hz0 hz1 hz2 rfl (by decide) (by decide) hs (D.gr.step (X' := X) ku (by simp) (by simp) (fun z hz => Or.inl hz)) v el d hx hrow (hR.step ku (by simp) (fun z hz => Or.inl hz)) h1 hn (by omega) D.vX ?_
  intro p m y G k t
  obtain ⟨kk, X', hD⟩ := D.pushed ku G k t
  exact h p m y kk ⟨X', hD⟩
end
/-- how DecodeTask ends -/
def DtE (s : List UInt8) (w : World) (e : Ending) (w' : World) : Prop := ∃ (i0 i3 i6 i7 : Int) (q : List UInt8) (pa ra : Option Addr) (pn pc rn rc : Nat),
  e = .returned (.tuple #[.agg #[.int .i64 i0, .string ⟨q.toArray⟩, .slice pa pn pc, .int .i64 i3, .slice ra rn rc, .int .i64 (Dt.dareT s), .int .i64 i6, .int .i64 i7], .bool (Dt.okT s)]) ∧ Kept [] w w'
def DkRel (w : World) (b tb B : Nat) (Fin : World → Prop) (q : List UInt8) (rvv : Value) (fin : List Pss × Wire.Rd) (M : Nat) (v : Value) (wr : World) : Prop :=
  ∃ (k : Nat) (r : Wire.Rd) (acc : List Pss) (X : List Nat) (a : Option Addr) (n c : Nat), v = .int .i64 k ∧ k ≤ M ∧ acc.length + r.rest.length ≤ 100000000 ∧ Dt.loopP k r acc = fin ∧ Dk w wr b tb B X Fin q rvv a n c acc r
theorem loopP_stop {n : Nat} {r : Wire.Rd} {acc : List Pss} (h : r.rest = []) : Dt.loopP n r acc = (acc, r) := by
  cases n
  · rfl
  · unfold Dt.loopP; rw [h]; rfl
theorem loopP_go {n : Nat} {r : Wire.Rd} {acc : List Pss} (h : r.rest ≠ []) : Dt.loopP (n + 1) r acc = Dt.loopP n (Dt.rdP r).2 (acc ++ [(Dt.rdP r).1]) := by
  rw [Dt.loopP, if_neg (by simpa using h)]

set_option maxRecDepth 100000 in
set_option maxHeartbeats 4000000 in
theorem decTask_any (s : List UInt8) (w : World) (hs : s.length ≤ 1000000) (hE : Env w) : Calls Tryz.prog 82 #[.string ⟨s.toArray⟩] w (DtE s w) := by
  obtain ⟨hd, r1, h1⟩ : ∃ a b, Wire.nums ⟨s, false⟩ = (a, b) := ⟨_, _, rfl⟩
  obtain ⟨q, r2, h2⟩ : ∃ a b, Wire.text r1 = (a, b) := ⟨_, _, rfl⟩
  obtain ⟨rv, r3, h3⟩ : ∃ a b, Wire.nums r2 = (a, b) := ⟨_, _, rfl⟩
  obtain ⟨N, r4, h4⟩ : ∃ a b, Wire.number 59 0 r3 = (a, b) := ⟨_, _, rfl⟩
  obtain ⟨ps, r5, h5⟩ : ∃ a b, Dt.loopP N.toNat r4 [] = (a, b) := ⟨_, _, rfl⟩
  have PT : Hid (Dt.Parts s hd q rv N ps r1 r2 r3 r4 r5) := ⟨h1, h2, h3, h4, h5⟩
  have f0 : Fits ⟨s, false⟩ := by unfold Fits; simp only; omega
  have f1 := fits_nums' h1 f0
  have f2 := fits_text' h2 f1
  have f3 := fits_nums' h3 f2
  have f4 := fits_number h4 f3
  have hN0 : 0 ≤ N := by have := Wire.number_least 59 0 (by omega) r3; rw [h4] at this; exact this
  have hNI : N ≤ 9223372036854775807 := by have := Wire.number_bounds 59 0 r3; rw [h4] at this; exact this.2
  obtain ⟨M, rfl⟩ := Int.eq_ofNat_of_zero_le hN0
  rw [Int.toNat_natCast] at h5
  have H1 := Lib.hid h1
  have H2 := Lib.hid h2
  have H3 := Lib.hid h3
  have H4 := Lib.hid h4
  have H5 := Lib.hid h5
  have HS := Lib.hid hs
  have hdl := nums_len ⟨s, false⟩ f0
  rw [h1] at hdl
  have rvl := nums_len r2 f2
  rw [h3] at rvl
  obtain ⟨W, hW⟩ : ∃ W, w.alloc (.cells zeros8 88) = W := ⟨_, rfl⟩
  have hq : Blk W w.heap.size 88 zeros8 := hW ▸ Blk.new _ _ _
  have hkW : Kept [] w W := hW ▸ (Kept.refl _ _).alloc _
  have hEW := hE.kept0 hkW
  have hWs : w.heap.size < W.heap.size := by rw [← hW]; simp
  have HW := Lib.hid hW
  clear h1 h2 h3 h4 h5 hW hs
  go_enter Tryz.func82, Tryz.ntmps82
  go_wp2_with fail
  have hW' : w.alloc (.cells #[.int .i64 0, .string ⟨#[]⟩, .slice none 0 0, .int .i64 0, .slice none 0 0, .int .i64 0, .int .i64 0, .int .i64 0] 88) = W := HW.out
  rw [hW']
  clear hW' HW
  have OP := Lib.hid (rd_open s W hEW)
  obtain ⟨b, hb⟩ : ∃ b, W.heap.size = b := ⟨_, rfl⟩
  rw [hb] at OP hWs
  have HBQ := Lib.hid hb
  clear hb
  go_wp2_with (go_at_call 124; refine OP.out.mono ?_)
  rintro e w1 ⟨rfl, rd1, k1⟩
  have C1 := Lib.hid (rd_nums' b ⟨s, false⟩ H1.out w1 rd1 (hEW.kept0 k1) f0)
  have K1 := Lib.hid k1
  have RD1 := Lib.hid rd1
  clear OP k1 rd1
  go_wp2_with (go_at_call 125; refine C1.out.mono ?_)
  rintro e w2 ⟨hv, rfl, own2, rd2, k2⟩
  have hs2 := k2.size
  have hs1 : b < w1.heap.size := RD1.out.2.lt
  have E2 : Hid (Env w2) := Lib.hid ((hEW.kept0 K1.out).keptR RD1.out k2)
  have C2 := Lib.hid (rd_text' b r1 H2.out w2 rd2 E2.out f1)
  obtain ⟨ha, hc, rfl⟩ := own_form own2
  have OW2 := Lib.hid own2
  have RD2 := Lib.hid rd2
  have K2 := Lib.hid k2
  clear C1 own2 rd2 k2
  go_wp2_with (go_at_call 126; refine C2.out.mono ?_)
  rintro e w3 ⟨rfl, rd3, k3⟩
  have hs3 := k3.size
  have E3 : Hid (Env w3) := Lib.hid (E2.out.keptR RD2.out k3)
  have C3 := Lib.hid (rd_nums' b r2 H3.out w3 rd3 E3.out f2)
  have RD3 := Lib.hid rd3
  have K3 := Lib.hid k3
  clear C2 rd3 k3
  go_wp2_with (go_at_call 125; refine C3.out.mono ?_)
  rintro e w4 ⟨rvv, rfl, own4, rd4, k4⟩
  have hs4 := k4.size
  obtain ⟨ra, rc, rfl⟩ := own_form own4
  have OW4 := Lib.hid own4
  have RD4 := Lib.hid rd4
  have K4 := Lib.hid k4
  clear C3 own4 rd4 k4
  go_upto_region 4 with (fail)
  obtain ⟨w5, hw5⟩ : ∃ w5, w4.alloc (.cells #[.int .i64 0, .string ⟨q.toArray⟩, .slice none 0 0, .int .i64 0, .slice ra rv.length rc, .int .i64 0, .int .i64 0, .int .i64 0] 88) = w5 := ⟨_, rfl⟩
  rw [hw5]
  have k45 : Kept [] w4 w5 := hw5 ▸ (Kept.refl _ _).alloc _
  have hs5 : w4.heap.size < w5.heap.size := by rw [← hw5]; simp
  have hbp5 : Blk w5 w4.heap.size 88 #[.int .i64 0, .string ⟨q.toArray⟩, .slice none 0 0, .int .i64 0, .slice ra rv.length rc, .int .i64 0, .int .i64 0, .int .i64 0] := hw5 ▸ Blk.new _ _ _
  obtain ⟨tb, htb⟩ : ∃ tb, w4.heap.size = tb := ⟨_, rfl⟩
  have hlq : w.heap.size ≠ b := by omega
  have hrow : Stable [b, tb] (fun w => Row w 1 (.slice ha hd.length hc) hd.length (ints hd) ∧ Row w 1 (.slice ra rv.length rc) rv.length (ints rv)) w5 := by
    have o2 := own_keep (own_keep (own_keep OW2.out K3.out (fun z hz hm => by have := own_ge OW2.out z hz; rw [List.mem_singleton] at hm; omega)) K4.out (fun z hz hm => by have := own_ge OW2.out z hz; rw [List.mem_singleton] at hm; omega)) k45 (by simp)
    have o4 := own_keep OW4.out k45 (by simp)
    refine (Stable.row o2 (fun z hz hm => ?_) (by omega)).and (Stable.row o4 (fun z hz hm => ?_) (by omega))
    · have := own_ge OW2.out z hz
      simp only [List.mem_cons, List.not_mem_nil, or_false] at hm
      rcases hm with rfl | rfl <;> omega
    · have := own_ge OW4.out z hz
      simp only [List.mem_cons, List.not_mem_nil, or_false] at hm
      rcases hm with rfl | rfl <;> omega
  obtain ⟨Fin, hFin⟩ : ∃ F : World → Prop, (fun w => Row w 1 (.slice ha hd.length hc) hd.length (ints hd) ∧ Row w 1 (.slice ra rv.length rc) rv.length (ints rv)) = F := ⟨_, rfl⟩
  rw [hFin] at hrow
  have FI : Hid (∀ w, Fin w → Row w 1 (.slice ha hd.length hc) hd.length (ints hd) ∧ Row w 1 (.slice ra rv.length rc) rv.length (ints rv)) := fun w h => by rw [← hFin] at h; exact h
  rw [htb] at hbp5 hs4 hs5 ⊢
  have hk05 : Kept [] w w5 := ((((hkW.trans K1.out).fresh K2.out (by simp; omega)).fresh K3.out (by simp; omega)).fresh K4.out (by simp; omega)).trans k45
  have hq5 : Blk w5 w.heap.size 88 zeros8 := ((((hq.kept K1.out (by simp)).kept K2.out (by simpa using hlq)).kept K3.out (by simpa using hlq)).kept K4.out (by simpa using hlq)).kept k45 (by simp)
  have rd5 : RdAt w5 b r3 := ⟨RD4.out.1, RD4.out.2.kept k45 (by simp)⟩
  have E5 : Hid (Env w5) := Lib.hid ((E3.out.keptR RD3.out K4.out).kept0 k45)
  have C5 := Lib.hid (rd_num b r3 H4.out w5 rd5 E5.out f3)
  have HB5 := Lib.hid hbp5
  have HR5 := Lib.hid hrow
  have HK5 := Lib.hid hk05
  have HQ5 := Lib.hid hq5
  have RD5 := Lib.hid rd5
  have HTB := Lib.hid htb
  clear hFin hrow hbp5 hk05 hq5 rd5 hw5 k45 K1 K2 K3 K4 RD1 RD2 RD3 RD4 OW2 OW4 E2 E3 htb hkW hq HBQ hlq
  go_wp2_with (go_at_call 127; refine C5.out.mono ?_)
  rintro e w6 ⟨rfl, rd6, k6⟩
  have hs6 := k6.size
  have hbt : b ≠ tb := by omega
  have D6 : Hid (Dk w w6 b tb w6.heap.size [b, tb] Fin q (.slice ra rv.length rc) none 0 0 [] r4) := Lib.hid
    ⟨rd6, HB5.out.kept k6 (by simpa using fun h => hbt h.symm), Grow.nil_ _ _ _ _ _ _, HR5.out.step k6 (fun z hz _ => by rw [List.mem_singleton] at hz; subst hz; simp) (fun z hz => Or.inl hz), rfl, by simp [obl, Value.ownBlock], by simp, by simp,
     fun z hz => by simp only [List.mem_cons, List.not_mem_nil, or_false] at hz; rcases hz with rfl | rfl <;> omega, by omega, by omega, Nat.le_refl _, hbt, hWs, by omega, HQ5.out.kept k6 (by simp; omega), HK5.out.fresh k6 (by simp; omega), f4⟩
  obtain ⟨B, hB⟩ : ∃ B, w6.heap.size = B := ⟨_, rfl⟩
  rw [hB] at D6
  clear rd6 k6 hB C5 RD5 HB5 HR5 HK5 HQ5 hs6 hs5 hs4 hs3 hs2 hs1 HTB
  go_wp2_with fail
  go_loopw [7] (fun v wr => DkRel w b tb B Fin q (.slice ra rv.length rc) (ps, r5) M v wr) (fun v _ => (intOf v).toNat)
  case atStart => exact ⟨M, r4, [], [b, tb], none, 0, 0, rfl, Nat.le_refl _, by have : r4.rest.length ≤ 100000000 := f4; simpa using this, H5.out, D6.out⟩
  case round =>
    obtain ⟨k, r, acc, X, a, n, c, rfl, hkM, hak, hfin, hD⟩ := hrel
    have DD := Lib.hid hD
    have HFI := Lib.hid hfin
    clear hD hfin D6
    by_cases hgo : k ≠ 0 ∧ r.rest ≠ []
    · obtain ⟨k, rfl⟩ : ∃ j, k = j + 1 := ⟨k - 1, by omega⟩
      have hr0 := hgo.2
      obtain ⟨xn, ra1, g1⟩ : ∃ x a, Wire.text r = (x, a) := ⟨_, _, rfl⟩
      obtain ⟨yp, ra2, g2⟩ : ∃ x b, Wire.number 59 (-9223372036854775808) ra1 = (x, b) := ⟨_, _, rfl⟩
      obtain ⟨za, ra3, g3⟩ : ∃ x c, Wire.texts ra2 = (x, c) := ⟨_, _, rfl⟩
      obtain ⟨ug, r', g4⟩ : ∃ x d, Wire.nums ra3 = (x, d) := ⟨_, _, rfl⟩
      have hone := Dt.rdP_of g1 g2 g3 g4
      have hless := Dt.rdP_less hr0
      rw [hone] at hless
      simp only at hless
      have HF2 : Hid (Dt.loopP k r' (acc ++ [⟨xn, yp, za, ug⟩]) = (ps, r5)) := by
        have := HFI.out
        rw [loopP_go hr0, hone] at this
        exact this
      have f1 := fits_text' g1 DD.out.fit
      have f2 := fits_number g2 f1
      have f3 := fits_texts' g3 f2
      have f4 := fits_nums' g4 f3
      have EW : Hid (Env wr.drew) := Lib.hid ((hE.kept0 DD.out.k0).drew)
      have LF := Lib.hid (rd_left b r wr DD.out.rd)
      have hr1 : decide ((0 : Int) < (r.rest.length : Int)) = true := by
        have : 0 < r.rest.length := List.length_pos_iff.2 hr0
        simpa using this
      have hk1 : decide ((0 : Int) < (k : Int) + 1) = true := decide_eq_true (by omega)
      go_wp2_with (go_at_call 128; refine LF.out.mono ?_; rintro e w' ⟨rfl, rfl⟩)
      clear hr1 hk1 LF
      have q0 := DD.out.cell
      have qf := Lib.hid DD.out.frozen
      have hRd : RdAt wr.drew b r := DD.out.rd
      have C1 := Lib.hid (rd_text' b r g1 wr.drew hRd EW.out DD.out.fit)
      have C2 : Hid (∀ y, RdAt y b ra1 → Env y → Calls Tryz.prog 129 #[.pointer (some ⟨b, 0, none⟩)] y fun en w' => en = .returned (.int .i64 yp) ∧ RdAt w' b ra2 ∧ Kept [b] y w') := fun y h E => rd_int' b ra1 g2 y h E f1
      have C3 : Hid (∀ y, RdAt y b ra2 → Env y → Calls Tryz.prog 130 #[.pointer (some ⟨b, 0, none⟩)] y fun en w' => ∃ v, en = .returned v ∧ w'.ownsRow y.heap.size 9 1 v za.length (strs za) ∧ RdAt w' b ra3 ∧ Kept [b] y w') := fun y h E => rd_texts' b ra2 g3 y h E f2
      have C4 : Hid (∀ y, RdAt y b ra3 → Env y → Calls Tryz.prog 125 #[.pointer (some ⟨b, 0, none⟩)] y fun en w' => ∃ v, en = .returned v ∧ w'.ownsRow y.heap.size 3 1 v ug.length (ints ug) ∧ RdAt w' b r' ∧ Kept [b] y w') := fun y h E => rd_nums' b ra3 g4 y h E f3
      have HRD := Lib.hid hRd
      clear g1 g2 g3 g4 hRd hone
      go_upto_region 7 with (fail)
      refine wp_region_T [13, 14] (fun w' => Kept (b :: obl (.slice a n c)) wr w') (by kernel_rfl) (Kept.refl _ _).drew (fun hH => ?_)
      refine takeT [1, 12, 13, 14] (i := 0) (v := ?tv1) rfl (by kernel_rfl) (by kernel_rfl) (by kernel_rfl) (by kernel_rfl) (fun _ _ _ h => h) (Or.inl ⟨by rfl, ?ty1⟩) hH ?tr1
      case ty1 => intro w' hSw; (try dsimp only at hSw); go_simp; first | done | with_reducible rfl
      simp only [Act.put, List.setIfInBounds_toArray, List.set_cons_zero, List.set_cons_succ]
      refine takeT [12, 13, 14] (i := 1) (v := ?tv2) rfl (by kernel_rfl) (by kernel_rfl) (by kernel_rfl) (by kernel_rfl) (fun _ _ _ h => h) (Or.inl ⟨by rfl, ?ty2⟩) hH ?tr2
      case ty2 => intro w' hSw; (try dsimp only at hSw); go_simp; first | done | with_reducible rfl
      simp only [Act.put, List.setIfInBounds_toArray, List.set_cons_zero, List.set_cons_succ]
      refine takeT [3, 5, 7, 9, 10, 11, 12, 13, 14] (i := 2) (v := ?tv3) rfl (by kernel_rfl) (by kernel_rfl) (by kernel_rfl) (by kernel_rfl) (fun _ _ _ h => h) (Or.inl ⟨by rfl, ?ty3⟩) hH ?tr3
      case ty3 => intro w' hSw; (try dsimp only at hSw); go_simp; first | done | with_reducible rfl
      simp only [Act.put, List.setIfInBounds_toArray, List.set_cons_zero, List.set_cons_succ]
      refine takeT [5, 7, 9, 10, 11, 12, 13, 14] (i := 4) (v := ?tv4) rfl (by kernel_rfl) (by kernel_rfl) (by kernel_rfl) (by kernel_rfl) (fun _ _ _ h => h) (Or.inl ⟨by rfl, ?ty4⟩) hH ?tr4
      case ty4 => intro w' hSw; (try dsimp only at hSw); go_simp; first | done | with_reducible rfl
      simp only [Act.put, List.setIfInBounds_toArray, List.set_cons_zero, List.set_cons_succ]
      refine takeT [7, 9, 10, 11, 12, 13, 14] (i := 6) (v := ?tv5) rfl (by kernel_rfl) (by kernel_rfl) (by kernel_rfl) (by kernel_rfl) (fun _ _ _ h => h) (Or.inl ⟨by rfl, ?ty5⟩) hH ?tr5
      case ty5 => intro w' hSw; (try dsimp only at hSw); go_simp; first | done | with_reducible rfl
      simp only [Act.put, List.setIfInBounds_toArray, List.set_cons_zero, List.set_cons_succ]
      refine takeT [9, 10, 11, 12, 13, 14] (i := 8) (v := ?tv6) rfl (by kernel_rfl) (by kernel_rfl) (by kernel_rfl) (by kernel_rfl) (fun _ _ _ h => h) (Or.inl ⟨by rfl, ?ty6⟩) hH ?tr6
      case ty6 => intro w' hSw; (try dsimp only at hSw); go_simp; first | done | with_reducible rfl
      simp only [Act.put, List.setIfInBounds_toArray, List.set_cons_zero, List.set_cons_succ]
      refine wpAnyT_ready (rs := [3]) (by kernel_rfl) (by simp) ?_
      refine AllReadyT.cons rfl (fun K hK => ?_) AllReadyT.nil
      go_simp
      refine C1.out.mono ?_
      rintro e y1 ⟨rfl, rd1, kb1⟩
      have kB1 : Kept [b] wr y1 := (Kept.refl [b] wr).drew.trans kb1
      have up : ∀ y, Kept [b] wr y → Kept (b :: obl (.slice a n c)) wr y := fun y k => k.mono fun z _ hz => by rw [List.mem_singleton] at hz; subst hz; exact List.mem_cons_self
      have E1 : Env y1 := EW.out.keptR HRD.out kb1
      refine hK.out _ _ (up _ kB1) (fun hH => ?_)
      clear hK K
      (try simp only [Act.put, List.setIfInBounds_toArray, List.set_cons_zero, List.set_cons_succ])
      refine wpAnyT_ready (rs := [5]) (by kernel_rfl) (by simp) ?_
      refine AllReadyT.cons rfl (fun K hK => ?_) AllReadyT.nil
      go_simp
      refine (C2.out y1 rd1 E1).mono ?_
      rintro e y2 ⟨rfl, rd2, kb2⟩
      have kB2 : Kept [b] wr y2 := kB1.trans kb2
      have E2 : Env y2 := E1.keptR rd1 kb2
      refine hK.out _ _ (up _ kB2) (fun hH => ?_)
      clear hK K
      (try simp only [Act.put, List.setIfInBounds_toArray, List.set_cons_zero, List.set_cons_succ])
      refine wpAnyT_ready (rs := [7]) (by kernel_rfl) (by simp) ?_
      refine AllReadyT.cons rfl (fun K hK => ?_) AllReadyT.nil
      go_simp
      refine (C3.out y2 rd2 E2).mono ?_
      rintro e y3 ⟨v3, rfl, own3, rd3, kb3⟩
      have kB3 : Kept [b] wr y3 := kB2.trans kb3
      have E3 : Env y3 := E2.keptR rd2 kb3
      obtain ⟨a3, c3, rfl⟩ := own_form own3
      refine hK.out _ _ (up _ kB3) (fun hH => ?_)
      clear hK K
      (try simp only [Act.put, List.setIfInBounds_toArray, List.set_cons_zero, List.set_cons_succ])
      refine wpAnyT_ready (rs := [9]) (by kernel_rfl) (by simp) ?_
      refine AllReadyT.cons rfl (fun K hK => ?_) AllReadyT.nil
      go_simp
      refine (C4.out y3 rd3 E3).mono ?_
      rintro e y4 ⟨v4, rfl, own4, rd4, kb4⟩
      have kB4 : Kept [b] wr y4 := kB3.trans kb4
      have E4 : Env y4 := E3.keptR rd3 kb4
      obtain ⟨a4, c4, rfl⟩ := own_form own4
      refine hK.out _ _ (up _ kB4) (fun hH => ?_)
      clear hK K
      (try simp only [Act.put, List.setIfInBounds_toArray, List.set_cons_zero, List.set_cons_succ])
      have hbX := DD.out.hX b DD.out.bX
      have t1 := kB1.size
      have t2 := kb2.size
      have t3 := kb3.size
      have t4 := kb4.size
      have hRS : Stable X (fun w => PssR w [.string ⟨xn.toArray⟩, .int .i64 yp, .slice a3 za.length c3, .slice a4 ug.length c4] ⟨xn, yp, za, ug⟩) y4 := by
        have o3 := own_keep own3 kb4 (fun z hz hm => by have := own_ge own3 z hz; rw [List.mem_singleton] at hm; omega)
        exact ((Stable.row o3 (fun z hz hm => by have := own_ge own3 z hz; have := DD.out.hX z hm; omega) (own_max o3 (by decide))).and (Stable.row own4 (fun z hz hm => by have := own_ge own4 z hz; have := DD.out.hX z hm; omega) (own_max own4 (by decide)))).imp fun w h => ⟨_, _, rfl, h.1, h.2⟩
      have HRS := Lib.hid hRS
      have HY : Hid (Dk w y4 b tb B X Fin q (.slice ra rv.length rc) a n c acc r') := Lib.hid (DD.out.read kB4 rd4 f4)
      have HB4 := Lib.hid (up _ kB4)
      clear hRS own3 own4 rd1 rd2 rd3 rd4 kb1 kb2 kb3 kb4 E1 E2 E3 E4 kB1 kB2 kB3 kB4 t1 t2 t3 t4 hbX
      refine takeT [11, 12, 13, 14] (i := 10) (v := ?tv7) rfl (by kernel_rfl) (by kernel_rfl) (by kernel_rfl) (by kernel_rfl) (fun _ _ _ h => h) (Or.inl ⟨by rfl, ?ty7⟩) hH ?tr7
      case ty7 => intro w' hSw; (try dsimp only at hSw); go_simp; first | done | with_reducible rfl
      simp only [Act.put, List.setIfInBounds_toArray, List.set_cons_zero, List.set_cons_succ]
      refine wpAnyT_ready (rs := [11]) (by kernel_rfl) (by simp) ?_
      refine AllReadyT.cons rfl (fun K hK => ?_) AllReadyT.nil
      go_simp
      refine hK.out _ _ (hH.alloc _) (fun hH => ?_)
      clear hK K
      (try simp only [Act.put, List.setIfInBounds_toArray, List.set_cons_zero, List.set_cons_succ])
      refine wpAnyT_ready (rs := [12]) (by kernel_rfl) (by simp) ?_
      refine AllReadyT.cons rfl (fun K hK => ?_) AllReadyT.nil
      refine step_pass HY.out rfl _ _ rfl rfl _ rfl [.string ⟨xn.toArray⟩, .int .i64 yp, .slice a3 za.length c3, .slice a4 ug.length c4] ⟨xn, yp, za, ug⟩ (rowS rfl _ _ _ rfl) ((Kept.refl _ _).alloc _) HRS.out (by simp [Value.oneCell']) (by omega) ?_
      intro p m yy ks HX
      have hS2 : Kept (b :: obl (.slice a n c)) wr yy := HB4.out.trans (ks.mono fun z _ hz => List.mem_cons_of_mem _ hz)
      have z0 := q0 _ hS2
      have z1 := qf.out _ hS2
      refine hK.out _ _ hS2 (fun hH => ?_)
      clear hK K
      (try simp only [Act.put, List.setIfInBounds_toArray])
      refine wpAnyT_ready (rs := [13]) (by kernel_rfl) (by simp) ?_
      refine AllReadyT.last rfl (by kernel_rfl) (fun K hK => ?_)
      go_simp
      refine hK.out _ _ ?_
      clear hK K
      (try simp only [Act.put, List.setIfInBounds_toArray, List.set_cons_zero, List.set_cons_succ])
      refine wpAnyT_ready (rs := [14]) (by kernel_rfl) (by simp) ?_
      refine AllReadyT.last rfl (by kernel_rfl) (fun K hK => ?_)
      go_simp
      refine hK.out _ _ ?_
      clear hK K
      (try simp only [Act.put, List.setIfInBounds_toArray, List.set_cons_zero, List.set_cons_succ])
      refine wpAnyT_done (by kernel_rfl) ?_ _
      have HDN : Hid (∃ X', Dk w (yy.setCell ⟨tb, 2, none⟩ (.slice p (acc.length + 1) m)) b tb B X' Fin q (.slice ra rv.length rc) p (acc.length + 1) m (acc ++ [⟨xn, yp, za, ug⟩]) r') := Lib.hid HX
      clear HX hS2 z0 z1 q0 hH up
      have hk64 : IntKind.i64.wrap ((k : Int) + 1 - 1) = (k : Int) := by rw [IntKind.wrap_i64]; omega
      go_wp2_with fail
      go_roundw
      case rel =>
        obtain ⟨X', hX'⟩ := HDN.out
        exact ⟨k, r', acc ++ [⟨xn, yp, za, ug⟩], X', p, acc.length + 1, m, by go_num, by omega, by rw [List.length_append, List.length_singleton]; omega, HF2.out, hX'⟩
      case measure => simp [intOf]
    · have HST : Hid (acc = ps ∧ r = r5) := by
        have hz := HFI.out
        have : Dt.loopP k r acc = (acc, r) := by
          by_cases hk0 : k = 0
          · subst hk0; rfl
          · exact loopP_stop (Classical.byContradiction fun h => hgo ⟨hk0, h⟩)
        rw [this] at hz
        exact ⟨(Prod.mk.inj hz).1, (Prod.mk.inj hz).2⟩
      have LF := Lib.hid (rd_left b r wr DD.out.rd)
      have DN := Lib.hid (rd_done b r wr DD.out.rd)
      have hgo2 : Hid (k = 0 ∨ r.rest = []) := by
        by_cases hk0 : k = 0
        · exact Or.inl hk0
        · exact Or.inr (Classical.byContradiction fun h => hgo ⟨hk0, h⟩)
      clear hgo
      obtain ⟨lf, hlf⟩ : ∃ lf, r.rest.length = lf := ⟨_, rfl⟩
      obtain ⟨dn, hdn⟩ : ∃ dn, (!r.bad && r.rest.isEmpty) = dn := ⟨_, rfl⟩
      rw [hlf] at LF
      rw [hdn] at DN
      have HDN := Lib.hid hdn
      have HLF := Lib.hid hlf
      have hgo3 : (k = 0) ∨ (k ≠ 0 ∧ lf = 0) := by
        by_cases hk0 : k = 0
        · exact Or.inl hk0
        · rcases hgo2.out with h | h
          · exact Or.inl h
          · exact Or.inr ⟨hk0, by rw [← hlf, h]; rfl⟩
      clear hdn hlf hgo2
      have HPQ := HST.out
      obtain ⟨rfl, rfl⟩ := HPQ
      have OKT := Lib.hid (Dt.okT_of PT.out)
      clear HFI HST H1 H2 H3 H4 H5
      rcases hgo3 with rfl | ⟨hk0, rfl⟩
      case' inr =>
        have hk1 : decide ((0 : Int) < (k : Int)) = true := decide_eq_true (by omega)
        go_wp2_with (go_at_call 128; refine LF.out.mono ?_; rintro e w' ⟨rfl, rfl⟩)
        clear hk1
      case' inl => go_wp2_with fail
      all_goals
        refine DN.out.mono ?_
        rintro e w8 ⟨rfl, k8⟩
        have ZQ := Lib.hid (DD.out.zq.kept k8 (by simp))
        have K8 := Lib.hid (DD.out.k0.trans k8)
        cases dn
        · have HOK : Hid (Dt.okT s = false) := by show _ = _; rw [OKT.out.1]; unfold Dt.okP Dt.endB; rw [HDN.out]; rfl
          have z0 : w8.cell? ⟨w.heap.size, 0, none⟩ = some (.int .i64 0) := ZQ.out.cell 0
          have y0 := ZQ.out.frozen 0
          have z1 : w8.cell? ⟨w.heap.size, 1, none⟩ = some (.string ⟨#[]⟩) := ZQ.out.cell 1
          have y1 := ZQ.out.frozen 1
          have z2 : w8.cell? ⟨w.heap.size, 2, none⟩ = some (.slice none 0 0) := ZQ.out.cell 2
          have y2 := ZQ.out.frozen 2
          have z3 : w8.cell? ⟨w.heap.size, 3, none⟩ = some (.int .i64 0) := ZQ.out.cell 3
          have y3 := ZQ.out.frozen 3
          have z4 : w8.cell? ⟨w.heap.size, 4, none⟩ = some (.slice none 0 0) := ZQ.out.cell 4
          have y4 := ZQ.out.frozen 4
          have z5 : w8.cell? ⟨w.heap.size, 5, none⟩ = some (.int .i64 0) := ZQ.out.cell 5
          have y5 := ZQ.out.frozen 5
          have z6 : w8.cell? ⟨w.heap.size, 6, none⟩ = some (.int .i64 0) := ZQ.out.cell 6
          have y6 := ZQ.out.frozen 6
          have z7 : w8.cell? ⟨w.heap.size, 7, none⟩ = some (.int .i64 0) := ZQ.out.cell 7
          have y7 := ZQ.out.frozen 7
          go_wp2_with fail
          refine bodyPost_ret (v := .tuple #[.agg zeros8, .bool false]) (by simp [results, Tryz.results82, go_sem, zeros8, z0, z1, z2, z3, z4, z5, z6, z7]) rfl ?_
          refine ⟨0, 0, 0, 0, [], none, none, 0, 0, 0, 0, ?_, ?_⟩
          · rw [OKT.out.2, ← OKT.out.1, HOK.out]; rfl
          · repeat (refine Kept.setCell ?_ (Or.inr (Nat.le_refl _)) _)
            exact K8.out
        · by_cases h5 : hd.length = 5
          rotate_left
          · have HOK : Hid (Dt.okT s = false) := by show _ = _; rw [OKT.out.1]; unfold Dt.okP; rw [decide_eq_false h5]; simp
            have h5' : ((hd.length : Int) != 5) = true := by simp; omega
            clear h5
            have z0 : w8.cell? ⟨w.heap.size, 0, none⟩ = some (.int .i64 0) := ZQ.out.cell 0
            have y0 := ZQ.out.frozen 0
            have z1 : w8.cell? ⟨w.heap.size, 1, none⟩ = some (.string ⟨#[]⟩) := ZQ.out.cell 1
            have y1 := ZQ.out.frozen 1
            have z2 : w8.cell? ⟨w.heap.size, 2, none⟩ = some (.slice none 0 0) := ZQ.out.cell 2
            have y2 := ZQ.out.frozen 2
            have z3 : w8.cell? ⟨w.heap.size, 3, none⟩ = some (.int .i64 0) := ZQ.out.cell 3
            have y3 := ZQ.out.frozen 3
            have z4 : w8.cell? ⟨w.heap.size, 4, none⟩ = some (.slice none 0 0) := ZQ.out.cell 4
            have y4 := ZQ.out.frozen 4
            have z5 : w8.cell? ⟨w.heap.size, 5, none⟩ = some (.int .i64 0) := ZQ.out.cell 5
            have y5 := ZQ.out.frozen 5
            have z6 : w8.cell? ⟨w.heap.size, 6, none⟩ = some (.int .i64 0) := ZQ.out.cell 6
            have y6 := ZQ.out.frozen 6
            have z7 : w8.cell? ⟨w.heap.size, 7, none⟩ = some (.int .i64 0) := ZQ.out.cell 7
            have y7 := ZQ.out.frozen 7
            go_wp2_with fail
            refine bodyPost_ret (v := .tuple #[.agg zeros8, .bool false]) (by simp [results, Tryz.results82, go_sem, zeros8, z0, z1, z2, z3, z4, z5, z6, z7]) rfl ?_
            refine ⟨0, 0, 0, 0, [], none, none, 0, 0, 0, 0, ?_, ?_⟩
            · rw [OKT.out.2, ← OKT.out.1, HOK.out]; rfl
            · repeat (refine Kept.setCell ?_ (Or.inr (Nat.le_refl _)) _)
              exact K8.out
          · obtain ⟨a0, a1, a2, a3, a4, hd5⟩ : ∃ a0 a1 a2 a3 a4, hd = [a0, a1, a2, a3, a4] := by
              match hd, h5 with
              | [a0, a1, a2, a3, a4], _ => exact ⟨_, _, _, _, _, rfl⟩
            have HB5 : Hid (Dt.TkB hd q rv acc) := Lib.hid (Dt.tkB_of PT.out (by have := HS.out; omega) (by have := HDN.out; simp at this; exact this.1))
            have HOK : Hid (Dt.okT s = decide (Dt.taskE hd q rv acc = s)) := by show _ = _; rw [OKT.out.1]; unfold Dt.okP Dt.endB; rw [HDN.out, decide_eq_true h5]; simp
            have kX : ∀ w', Kept [tb] w8 w' → Kept [tb] wr w' := fun w' k => (k8.mono (by simp)).trans k
            have htX : ∀ z ∈ [tb], z < wr.heap.size → z ∈ X := fun z hz _ => by rw [List.mem_singleton] at hz; subst hz; exact DD.out.tX
            have HF8 : Hid (∀ w', Kept [tb] w8 w' → Fin w') := Lib.hid fun w' k => DD.out.fin [tb] w' (kX w' k) htX
            have HG8 : Hid (∀ w', Kept [tb] w8 w' → RowOf PssR 4 w' (.slice a n c) acc) := Lib.hid fun w' k =>
              (DD.out.gr.step (X' := X) (kX w' k) (fun z hz hm => by have := DD.out.ge z hz; have := DD.out.lt; rw [List.mem_singleton] at hm; omega) htX (fun z hz => Or.inl hz)).row (by omega)
            have HBP := Lib.hid (DD.out.bp.kept k8 (by simp))
            rw [h5] at FI
            obtain ⟨hb, ho, haq, hjunk⟩ := (FI.out w8 (HF8.out w8 (Kept.refl _ _))).1.at_ (by omega)
            subst haq
            clear hjunk
            have hcl : ∀ w', Kept [tb] w8 w' → ∀ i v, (ints hd)[i]? = some v → w'.cell? ⟨hb, ho + i, none⟩ = some v := fun w' k i v hv => by
              obtain ⟨b2, o2, e, hc2⟩ := (FI.out w' (HF8.out w' k)).1.at_ (by omega)
              injection e with e
              injection e with e1 e2
              subst e1; subst e2
              exact hc2 i v hv
            have p0 : ∀ w', Kept [tb] w8 w' → w'.cell? ⟨hb, ho, none⟩ = some (.int .i64 a0) := fun w' k => hcl w' k 0 _ (by rw [hd5]; rfl)
            have p1 : ∀ w', Kept [tb] w8 w' → w'.cell? ⟨hb, ho + 1, none⟩ = some (.int .i64 a1) := fun w' k => hcl w' k 1 _ (by rw [hd5]; rfl)
            have p2 : ∀ w', Kept [tb] w8 w' → w'.cell? ⟨hb, ho + 2, none⟩ = some (.int .i64 a2) := fun w' k => hcl w' k 2 _ (by rw [hd5]; rfl)
            have p3 : ∀ w', Kept [tb] w8 w' → w'.cell? ⟨hb, ho + 3, none⟩ = some (.int .i64 a3) := fun w' k => hcl w' k 3 _ (by rw [hd5]; rfl)
            have p4 : ∀ w', Kept [tb] w8 w' → w'.cell? ⟨hb, ho + 4, none⟩ = some (.int .i64 a4) := fun w' k => hcl w' k 4 _ (by rw [hd5]; rfl)
            have t0 : w8.cell? ⟨tb, 0, none⟩ = some (.int .i64 0) := HBP.out.cell 0
            have t3 : w8.cell? ⟨tb, 3, none⟩ = some (.int .i64 0) := HBP.out.cell 3
            have t5 : w8.cell? ⟨tb, 5, none⟩ = some (.int .i64 0) := HBP.out.cell 5
            have t6 : w8.cell? ⟨tb, 6, none⟩ = some (.int .i64 0) := HBP.out.cell 6
            have t7 : w8.cell? ⟨tb, 7, none⟩ = some (.int .i64 0) := HBP.out.cell 7
            have y0 := HBP.out.frozen 0
            have y3 := HBP.out.frozen 3
            have y5 := HBP.out.frozen 5
            have y6 := HBP.out.frozen 6
            have y7 := HBP.out.frozen 7
            have HD5 := Lib.hid hd5
            simp only [h5]
            clear hcl kX htX hd5 h5 k8
            go_upto_region 10 with (fail)
            go_region_held3 (fun w' => Kept [tb] w8 w') (repeat (first | (with_reducible assumption) | (with_reducible exact Kept.refl _ _) | (with_reducible refine Kept.drew ?_) | (with_reducible refine Kept.setCell ?_ (Or.inl (by simp)) _))) (fail)
            all_goals
              rename_i hHeld
              clear hHeld
              obtain ⟨w9, hw9⟩ : ∃ w9, (((((w8.setCell ⟨tb, 0, none⟩ (.int .i64 a0)).setCell ⟨tb, 3, none⟩ (.int .i64 a1)).setCell ⟨tb, 5, none⟩ (.int .i64 a2)).setCell ⟨tb, 6, none⟩ (.int .i64 a3)).setCell ⟨tb, 7, none⟩ (.int .i64 a4)).drew = w9 := ⟨_, rfl⟩
              rw [hw9]
              have k89 : Kept [tb] w8 w9 := by
                rw [← hw9]
                exact ((((((Kept.refl _ _).setCell (Or.inl (by simp)) _).setCell (Or.inl (by simp)) _).setCell (Or.inl (by simp)) _).setCell (Or.inl (by simp)) _).setCell (Or.inl (by simp)) _).drew
              have hb9 : Blk w9 tb 88 #[.int .i64 a0, .string ⟨q.toArray⟩, .slice a n c, .int .i64 a1, .slice ra rv.length rc, .int .i64 a2, .int .i64 a3, .int .i64 a4] := by
                rw [← hw9]
                exact ((((HBP.out.set_ 0 (.int .i64 a0)).set_ 3 (.int .i64 a1)).set_ 5 (.int .i64 a2)).set_ 6 (.int .i64 a3)).set_ 7 (.int .i64 a4)
              have hT : TskS w9 (.slice a n c) (.slice ra rv.length rc) ⟨a0, q, acc, a1, rv, a2, a3, a4⟩ := ⟨HG8.out w9 k89, (FI.out w9 (HF8.out w9 k89)).2⟩
              have E9 : Env w9 := hE.kept0 (K8.out.fresh k89 (by have := DD.out.wt; simp; omega))
              have ET : Hid (Calls Tryz.prog 132 #[.agg #[.int .i64 a0, .string ⟨q.toArray⟩, .slice a n c, .int .i64 a1, .slice ra rv.length rc, .int .i64 a2, .int .i64 a3, .int .i64 a4]] w9 fun e w' => e = .returned (.string ⟨(Dt.taskE hd q rv acc).toArray⟩) ∧ Kept [] w9 w') := by
                rw [HD5.out]
                exact encTask_any ⟨a0, q, acc, a1, rv, a2, a3, a4⟩ _ _ w9 hT (by have := HB5.out; rw [HD5.out] at this; exact this) E9
              obtain ⟨ot, hot⟩ : ∃ o, Dt.taskE hd q rv acc = o := ⟨_, rfl⟩
              rw [hot] at ET HOK
              have x0 := hb9.cell 0
              have x1 := hb9.cell 1
              have x2 := hb9.cell 2
              have x3 := hb9.cell 3
              have x4 := hb9.cell 4
              have x5 := hb9.cell 5
              have x6 := hb9.cell 6
              have x7 := hb9.cell 7
              have HB9 := Lib.hid hb9
              have K9 : Hid (Kept [] w w9) := Lib.hid (K8.out.fresh k89 (by have := DD.out.wt; simp; omega))
              have ZQ9 := Lib.hid (ZQ.out.kept k89 (by have := DD.out.wt; simp; omega))
              clear hw9 k89 hb9 hT E9 hot p0 p1 p2 p3 p4 t0 t3 t5 t6 t7 y0 y3 y5 y6 y7
              simp only [List.getElem?_toArray, List.getElem?_cons_zero, List.getElem?_cons_succ] at x0 x1 x2 x3 x4 x5 x6 x7
              go_wp2_with (go_at_call 132; with_reducible refine ET.out.mono ?_)
              rintro e w10 ⟨rfl, k10⟩
              have K10 := Lib.hid (K9.out.trans k10)
              have ZQ10 := Lib.hid (ZQ9.out.kept k10 (by simp))
              have HB10 := Lib.hid (HB9.out.kept k10 (by simp))
              clear x0 x1 x2 x3 x4 x5 x6 x7 k10
              by_cases heq : ot = s
              · have HOK2 : Hid (Dt.okT s = true) := HOK.out.trans (decide_eq_true heq)
                obtain rfl := heq
                have x0 : w10.cell? ⟨tb, 0, none⟩ = some (.int .i64 a0) := HB10.out.cell 0
                have z0 : w10.cell? ⟨w.heap.size, 0, none⟩ = some (.int .i64 0) := ZQ10.out.cell 0
                have y0 := ZQ10.out.frozen 0
                have x1 : w10.cell? ⟨tb, 1, none⟩ = some (.string ⟨q.toArray⟩) := HB10.out.cell 1
                have z1 : w10.cell? ⟨w.heap.size, 1, none⟩ = some (.string ⟨#[]⟩) := ZQ10.out.cell 1
                have y1 := ZQ10.out.frozen 1
                have x2 : w10.cell? ⟨tb, 2, none⟩ = some (.slice a n c) := HB10.out.cell 2
                have z2 : w10.cell? ⟨w.heap.size, 2, none⟩ = some (.slice none 0 0) := ZQ10.out.cell 2
                have y2 := ZQ10.out.frozen 2
                have x3 : w10.cell? ⟨tb, 3, none⟩ = some (.int .i64 a1) := HB10.out.cell 3
                have z3 : w10.cell? ⟨w.heap.size, 3, none⟩ = some (.int .i64 0) := ZQ10.out.cell 3
                have y3 := ZQ10.out.frozen 3
                have x4 : w10.cell? ⟨tb, 4, none⟩ = some (.slice ra rv.length rc) := HB10.out.cell 4
                have z4 : w10.cell? ⟨w.heap.size, 4, none⟩ = some (.slice none 0 0) := ZQ10.out.cell 4
                have y4 := ZQ10.out.frozen 4
                have x5 : w10.cell? ⟨tb, 5, none⟩ = some (.int .i64 a2) := HB10.out.cell 5
                have z5 : w10.cell? ⟨w.heap.size, 5, none⟩ = some (.int .i64 0) := ZQ10.out.cell 5
                have y5 := ZQ10.out.frozen 5
                have x6 : w10.cell? ⟨tb, 6, none⟩ = some (.int .i64 a3) := HB10.out.cell 6
                have z6 : w10.cell? ⟨w.heap.size, 6, none⟩ = some (.int .i64 0) := ZQ10.out.cell 6
                have y6 := ZQ10.out.frozen 6
                have x7 : w10.cell? ⟨tb, 7, none⟩ = some (.int .i64 a4) := HB10.out.cell 7
                have z7 : w10.cell? ⟨w.heap.size, 7, none⟩ = some (.int .i64 0) := ZQ10.out.cell 7
                have y7 := ZQ10.out.frozen 7
                go_wp2_with fail
                refine bodyPost_ret (v := .tuple #[.agg #[.int .i64 a0, .string ⟨q.toArray⟩, .slice a n c, .int .i64 a1, .slice ra rv.length rc, .int .i64 a2, .int .i64 a3, .int .i64 a4], .bool true]) (by simp [results, Tryz.results82, go_sem, z0, z1, z2, z3, z4, z5, z6, z7]) rfl ?_
                refine ⟨a0, a1, a3, a4, q, a, ra, n, c, rv.length, rc, ?_, ?_⟩
                · rw [OKT.out.2, ← OKT.out.1, HOK2.out, HD5.out]; rfl
                · repeat (refine Kept.setCell ?_ (Or.inr (Nat.le_refl _)) _)
                  exact K10.out
              · have HOK : Hid (Dt.okT s = false) := HOK.out.trans (decide_eq_false heq)
                have hn1 : (ot == s) = false := by simpa using heq
                have hn2 : ((⟨ot.toArray⟩ : ByteArray).toList == (⟨s.toArray⟩ : ByteArray).toList) = false := by simpa using heq
                clear heq
                have z0 : w10.cell? ⟨w.heap.size, 0, none⟩ = some (.int .i64 0) := ZQ10.out.cell 0
                have y0 := ZQ10.out.frozen 0
                have z1 : w10.cell? ⟨w.heap.size, 1, none⟩ = some (.string ⟨#[]⟩) := ZQ10.out.cell 1
                have y1 := ZQ10.out.frozen 1
                have z2 : w10.cell? ⟨w.heap.size, 2, none⟩ = some (.slice none 0 0) := ZQ10.out.cell 2
                have y2 := ZQ10.out.frozen 2
                have z3 : w10.cell? ⟨w.heap.size, 3, none⟩ = some (.int .i64 0) := ZQ10.out.cell 3
                have y3 := ZQ10.out.frozen 3
                have z4 : w10.cell? ⟨w.heap.size, 4, none⟩ = some (.slice none 0 0) := ZQ10.out.cell 4
                have y4 := ZQ10.out.frozen 4
                have z5 : w10.cell? ⟨w.heap.size, 5, none⟩ = some (.int .i64 0) := ZQ10.out.cell 5
                have y5 := ZQ10.out.frozen 5
                have z6 : w10.cell? ⟨w.heap.size, 6, none⟩ = some (.int .i64 0) := ZQ10.out.cell 6
                have y6 := ZQ10.out.frozen 6
                have z7 : w10.cell? ⟨w.heap.size, 7, none⟩ = some (.int .i64 0) := ZQ10.out.cell 7
                have y7 := ZQ10.out.frozen 7
                go_wp2_with fail
                refine bodyPost_ret (v := .tuple #[.agg zeros8, .bool false]) (by simp [results, Tryz.results82, go_sem, zeros8, z0, z1, z2, z3, z4, z5, z6, z7]) rfl ?_
                refine ⟨0, 0, 0, 0, [], none, none, 0, 0, 0, 0, ?_, ?_⟩
                · rw [OKT.out.2, ← OKT.out.1, HOK.out]; rfl
                · repeat (refine Kept.setCell ?_ (Or.inr (Nat.le_refl _)) _)
                  exact K10.out
end Go.Proofs.YtcidfldeiklcjaaGreatDoor
