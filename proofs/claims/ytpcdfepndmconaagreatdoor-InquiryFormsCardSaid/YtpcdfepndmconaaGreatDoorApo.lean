/- An append onto a row that the call owns: the old elements stay where they lay, also in the old block. For a region that draws its order and loads from that row. -/
import Derived.Test.YtpcdfepndmconaaGreatDoorSh1
import Derived.ArgAppend
import Derived.Lib.ConvBytes
import Derived.Deep.AppendLies
/- JOINED: Ap Apo -/
/- A row of bytes that one appends to, one at a time, its block whatever: the call's own, or that of a conversion. -/
namespace Go.Proofs.YtpcdfepndmconaaGreatDoor
open Go.RowKit ShaP

theorem infoByteA : (Tryz.prog.info? 5).map (fun i => (i.zero, i.size, i.bytes)) = some (some (.int .u8 0), 1, 1) := by kernel_rfl

/-- bytes in memory, with room behind them -/
structure Ap (w : World) (base : Nat) (v : Value) (l : List UInt8) : Prop where
  form : ∃ b cap, v = .slice (some ⟨b, 0, none⟩) l.length cap ∧ base ≤ b ∧ b < w.heap.size ∧ l.length ≤ cap ∧ cap ≤ maxLen ∧
    (∀ j (h : j < l.length), w.cell? ⟨b, j, none⟩ = some (.int .u8 (l[j].toNat : Int))) ∧ (∀ j, j < cap → (w.cell? ⟨b, j, none⟩).isSome = true ∧ w.frozen? ⟨b, j, none⟩ = false)

def bval (c : UInt8) : Value := .int .u8 (c.toNat : Int)

theorem Ap.of_own {w : World} {base : Nat} {v : Value} {l : List UInt8} (h : w.ownsRow base 5 1 v l.length (l.map bval)) (hl : 0 < l.length) : Ap w base v l := by
  rcases h.2 with ⟨h1, h2⟩ | ⟨g, cap, cur, hv, hB, hg, hnc, hcm, hcs, hx⟩
  · omega
  · have hlt : g < w.heap.size := (Array.getElem?_eq_some_iff.1 hg).1
    refine ⟨g, cap, hv, hB, hlt, hnc, hcm, ?_, ?_⟩
    · intro j hj
      have : cur.toList[j]? = some (bval l[j]) := by
        have h4 : (cur.toList.take (l.length * 1))[j]? = (l.map bval)[j]? := by rw [hx]
        rw [List.getElem?_take_of_lt (by omega)] at h4
        rw [h4]
        simp [hj]
      simp [World.cell?, hg]
      simpa [bval] using this
    · intro j hj
      constructor
      · simp [World.cell?, hg]
        omega
      · simp [World.frozen?, hg]

theorem Ap.conv (w : World) (s : List UInt8) (hs : s.length ≤ 100000000) : Ap (Lib.bytesWorld w 5 ⟨s.toArray⟩) w.heap.size (.slice (some ⟨w.heap.size, 0, none⟩) s.length (grownCap w s.length 0 5)) s := by
  have hge := grownCap_ge w s.length 0 5
  have hcm := grownCap_le_maxLen w s.length 0 5 (by unfold maxLen; omega)
  have hnew := Lib.bytesWorld_at_new w 5 ⟨s.toArray⟩
  have hsz : (Lib.bytesCells w 5 ⟨s.toArray⟩).size = grownCap w s.length 0 5 := by
    simp [Lib.bytesCells, ByteArray.size]
    omega
  refine ⟨w.heap.size, _, rfl, Nat.le_refl _, by rw [Lib.bytesWorld_size]; omega, hge, hcm, ?_, ?_⟩
  · intro j hj
    have := Lib.bytesWorld_cell w 5 ⟨s.toArray⟩ j (by simpa [ByteArray.size] using hj)
    rw [this]
    simp [List.getD, hj]
  · intro j hj
    constructor
    · simp [World.cell?, hnew]
      omega
    · simp [World.frozen?, hnew]
      omega

theorem Ap.kept {w w' : World} {base : Nat} {v : Value} {l : List UInt8} (h : Ap w base v l) (k : Kept [] w w') : Ap w' base v l := by
  obtain ⟨b, cap, h1, h2, h3, h4, h5, h6, h7⟩ := h.form
  refine ⟨b, cap, h1, h2, Nat.lt_of_lt_of_le h3 k.size, h4, h5, fun j hj => ?_, fun j hj => ?_⟩
  · rw [k.cell (p := ⟨b, j, none⟩) h3 (by simp)]
    exact h6 j hj
  · rw [k.cell (p := ⟨b, j, none⟩) h3 (by simp), k.frozen (p := ⟨b, j, none⟩) h3 (by simp)]
    exact h7 j hj
theorem Ap.alloc {w : World} {base : Nat} {v : Value} {l : List UInt8} (h : Ap w base v l) (o : Obj) : Ap (w.alloc o) base v l := h.kept ((Kept.refl _ _).alloc o)
theorem byte_new (w : World) (c : UInt8) (T : TypeId) : (w.alloc (.cells #[bval c] T)).cell? ⟨w.heap.size, 0, none⟩ = some (bval c) := by
  rw [World.cell?_alloc_new]
  rfl
theorem Below.of_grown_none {w w' : World} {base : Nat} (h : w.grownBy w' none) (hb : base ≤ w.heap.size) : Below base w w' :=
  ⟨h.os, h.tape, h.output, h.size, fun k hk => h.block k (by omega) (by simp)⟩
/-- one byte more -/
theorem wpList_ap {w : World} {ops : Array Oper} {rest : List Oper} {o : Oper} {a : Act} {Q : Exit → Act → World → Prop}
    (hg : o.guard = none) (s x : Operand) (hop : o.op = Op.call { callee := Callee.builtin Builtin.append, args := #[s, x], argTypes := #[202, 202] })
    (base : Nat) (v : Value) (l : List UInt8) (hs : a.eval s = v) (hA : Ap w base v l) (ad : Addr) (c : UInt8) (hx : a.eval x = .slice (some ad) 1 1) (hc : w.cell? ad = some (bval c))
    (hl : l.length ≤ 1000000000) (hb : base ≤ w.heap.size)
    (hK : ∀ v' w', Ap w' base v' (l ++ [c]) → Below base w w' → wpList Tryz.prog ops Q rest (a.put o.dst v') w') : wpList Tryz.prog ops Q (o :: rest) a w := by
  obtain ⟨i, hi, hz0, hz1, hz2⟩ := info_parts infoByteA
  obtain ⟨b, cap, hv, hbb, hbl, hlc, hcm, hcells, hroom⟩ := hA.form
  have hnews : ∀ j u, [bval c][j]? = some u → w.cell? (ad.add j) = some u := by
    intro j u hu
    cases j with
    | zero =>
      have : ad.add 0 = ad := by unfold Addr.add; split <;> simp_all
      rw [this, hc]
      exact hu
    | succ j => simp at hu
  refine wpList_append_arg w hg s x 202 hop 5 i (.int .u8 0) 1 1 Tryz.underlying202 hi hz0 hz1 hz2 rfl (by decide) b 0 l.length cap (l.map bval) (hs.trans hv) (by simp) ?_ ad 1 1 [bval c] hx rfl hnews (by intro u hu; rw [List.mem_singleton] at hu; subst hu; rfl) ?_ (by unfold maxLen; omega) (by omega) ?_ ?_
  · intro j u hu
    rw [Nat.zero_add]
    by_cases hj : j < l.length
    · rw [hcells j hj]
      simpa [hj, bval] using hu
    · rw [List.getElem?_eq_none (by simpa using hj)] at hu
      cases hu
  · intro hr j hj
    simp at hj
    subst hj
    have := hroom l.length (by omega)
    simpa using this
  · intro hr
    have e : w.setCells b (0 + l.length * 1) [bval c] = w.setCell ⟨b, l.length, none⟩ (bval c) := by simp [World.setCells]
    rw [e]
    refine hK _ _ ⟨b, cap, by simp, hbb, by simpa [World.setCell] using hbl, by simp; omega, hcm, ?_, ?_⟩ ((Below.refl _ _).setCell (p := ⟨b, l.length, none⟩) hbb _)
    · intro j hj
      have h9 := (hroom l.length (by omega)).1
      by_cases hjl : j < l.length
      · have hne : (⟨b, l.length, none⟩ : Addr) ≠ ⟨b, j, none⟩ := by intro h; injection h; omega
        rw [show (w.setCell ⟨b, l.length, none⟩ (bval c)).cell? ⟨b, j, none⟩ = w.cell? ⟨b, j, none⟩ from World.cell?_setCell_other (h := hne) .., hcells j hjl]
        simp [hjl]
      · have hjj : j = l.length := by simp at hj; omega
        subst hjj
        rw [World.cell?_setCell_same' _ _ _ h9]
        simp [bval]
    · intro j hj
      obtain ⟨h1, h2⟩ := hroom j hj
      refine ⟨?_, by rw [World.frozen?_setCell]; exact h2⟩
      by_cases hjl : j = l.length
      · subst hjl
        rw [World.cell?_setCell_same' _ _ _ h1]
        rfl
      · have hne : (⟨b, l.length, none⟩ : Addr) ≠ ⟨b, j, none⟩ := by intro h; injection h; omega
        rw [show (w.setCell ⟨b, l.length, none⟩ (bval c)).cell? ⟨b, j, none⟩ = w.cell? ⟨b, j, none⟩ from World.cell?_setCell_other (h := hne) ..]
        exact h1
  · intro hr v' w' hown hgr
    refine hK _ _ ?_ (Below.of_grown_none hgr hb)
    have hown' : w'.ownsRow base 5 1 v' (l ++ [c]).length ((l ++ [c]).map bval) := by
      have := own_base hown hb
      simpa using this
    exact Ap.of_own hown' (by simp)
end Go.Proofs.YtpcdfepndmconaaGreatDoor
namespace Go.Proofs.YtpcdfepndmconaaGreatDoor
open Go.RowKit

theorem run_append_olds {P : Program} (w : World) (t ty : TypeId) (base : Nat) (e : TypeId) (i : TypeInfo) (z : Value) (bytes : Nat) (ht : P.underlying t = some (.slice e)) (hi : P.info? e = some i) (hz : i.zero = some z)
    (hsize : i.size = 1) (hby : i.bytes = bytes) (hzs : z.cells.size = 1)
    (gb n cp : Nat) (xs : List Value) (hown : w.ownsRow base e 1 (.slice (some ⟨gb, 0, none⟩) n cp) n xs)
    (ad : Addr) (m c : Nat) (news : List Value) (hl : news.length = m) (hnews : ∀ j u, news[j]? = some u → w.cell? (ad.add j) = some u) (h1 : ∀ u ∈ news, u.oneCell' = true)
    (hm : 0 < m) (h63 : n + m ≤ maxLen) (hbytes : (n + m) * bytes ≤ 140737488355328) (hbase : base ≤ w.heap.size) (H : Nat) (hH : w.heap.size = H) :
    ∃ g cap w', (Builtin.append_ #[t, t] ty #[.slice (some ⟨gb, 0, none⟩) n cp, .slice (some ad) m c]).run P w = .ok (.slice (some ⟨g, 0, none⟩) (n + m) cap) w' ∧
      w'.ownsRow base e 1 (.slice (some ⟨g, 0, none⟩) (n + m) cap) (n + m) (xs ++ news) ∧ w.grownBy w' (some gb) ∧ (gb = g ∨ g = H) ∧ g < w'.heap.size ∧ ∀ j, j < n → w'.cell? ⟨gb, j, none⟩ = w.cell? ⟨gb, j, none⟩ := by
  obtain ⟨g, cap, w', hr, h2, h3, h4, h5⟩ := run_append_lies (P := P) w t ty base e i z 1 bytes ht hi hz hsize hby hzs (by omega) _ n xs hown ad m c news (by omega) hnews h1 hm h63 hbytes hbase H hH
  refine ⟨g, cap, w', hr, h2, h3, ?_, h5, ?_⟩
  · rcases h4 with h4 | h4
    · exact .inl (by simpa [Value.ownBlock] using h4)
    · exact .inr h4
  intro j hj
  have hlx : xs.length = n := by have := hown.1; omega
  have hlt : gb < w.heap.size := (hown.lt gb rfl).2
  by_cases hroom : n + m ≤ cp
  · rcases hown.2 with ⟨h0, _⟩ | ⟨g', cap', cur, hv, _, hg', _, _, hcs, _⟩
    · cases h0
    injection hv with e1 _ e3
    injection e1 with e1
    injection e1 with e1 _ _
    subst e1 e3
    have hrun := run_append_room_cells (P := P) w t ty e i ht hi gb 0 n cp ad m c news (by rw [hsize]; omega) hnews h1 hroom
      (fun k hk => by simp [World.cell?, hg', hsize]; omega) (fun k hk => by simp [World.frozen?, hg'])
    rw [hrun] at hr
    injection hr with _ hw
    rw [← hw]
    exact World.cell?_setCells_out gb news _ w ⟨gb, j, none⟩ (fun _ _ => by simp [hsize]; omega)
  · obtain ⟨v'', w'', hrun, _, hg⟩ := run_append_arg_grows (P := P) w t ty e i z 1 bytes ht hi hz hsize hby hzs (by omega) ⟨gb, 0, none⟩ n cp xs (by omega) (hown.cells rfl) ad m c news (by omega) hnews (by omega) h63 hbytes
    rw [hrun] at hr
    injection hr with _ hw
    rw [← hw]
    exact World.cell?_of_block (hg.block gb hlt (by simp))

theorem step_append_olds {P : Program} {w : World} {ops : Array Oper} {o : Oper} {a : Act} {K : Act → World → Prop} {Q : Exit → Act → World → Prop} {E : Prop} (hgd : o.guard = none) (s x : Operand) (t : TypeId)
    (ho : o.op = .call { callee := .builtin .append, args := #[s, x], argTypes := #[t, t] })
    (base : Nat) (e : TypeId) (i : TypeInfo) (z : Value) (bytes : Nat) (ht : P.underlying t = some (.slice e)) (hi : P.info? e = some i) (hz : i.zero = some z)
    (hsize : i.size = 1) (hby : i.bytes = bytes) (hzs : z.cells.size = 1)
    (gb n cp : Nat) (xs : List Value) (hs : a.eval s = .slice (some ⟨gb, 0, none⟩) n cp) (hown : w.ownsRow base e 1 (.slice (some ⟨gb, 0, none⟩) n cp) n xs)
    (ad : Addr) (m c : Nat) (news : List Value) (hx : a.eval x = .slice (some ad) m c) (hl : news.length = m) (hnews : ∀ j u, news[j]? = some u → w.cell? (ad.add j) = some u) (h1 : ∀ u ∈ news, u.oneCell' = true)
    (hm : 0 < m) (h63 : n + m ≤ maxLen) (hbytes : (n + m) * bytes ≤ 140737488355328) (hbase : base ≤ w.heap.size) (H : Nat) (hH : w.heap.size = H)
    (h : ∀ g cap w', w'.ownsRow base e 1 (.slice (some ⟨g, 0, none⟩) (n + m) cap) (n + m) (xs ++ news) → w.grownBy w' (some gb) → (gb = g ∨ g = H) → g < w'.heap.size → (∀ j, j < n → w'.cell? ⟨gb, j, none⟩ = w.cell? ⟨gb, j, none⟩) → K (a.put o.dst (.slice (some ⟨g, 0, none⟩) (n + m) cap)) w') :
    if Region.wanted o (yielded ops a.tmps) = true then Oper.wp P o a w K Q else E := by
  have hw : Region.wanted o (yielded ops a.tmps) = true := by simp [Region.wanted, hgd]
  rw [if_pos hw]
  obtain ⟨g, cap, w', hr, h2, h3, h4, h5, h6⟩ := run_append_olds (P := P) w t o.type base e i z bytes ht hi hz hsize hby hzs gb n cp xs hown ad m c news hl hnews h1 hm h63 hbytes hbase H hH
  unfold Oper.wp execOp
  simp only [ho, resolve, invoke, builtin, Sem.run_bind, Sem.run_pure, Result.andThen_ok, List.map_toArray, List.map_cons, List.map_nil, hs, hx, hr]
  exact h g cap w' h2 h3 h4 h5 h6
end Go.Proofs.YtpcdfepndmconaaGreatDoor
