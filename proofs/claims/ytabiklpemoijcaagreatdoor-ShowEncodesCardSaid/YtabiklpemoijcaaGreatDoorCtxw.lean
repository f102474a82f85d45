/- The context of a record: show.Context. -/
import Derived.Test.YtabiklpemoijcaaGreatDoorFewT
import Derived.Test.YtabiklpemoijcaaGreatDoorEncR
import Derived.Test.YtabiklpemoijcaaGreatDoorOrd
import Derived.Test.YtabiklpemoijcaaGreatDoorPfJ
namespace Go.Proofs.YtabiklpemoijcaaGreatDoor
open Go.RowKit Tape

/-- the names and the keys, side by side -/
structure Nk (wo wr : World) (p1 : Option Addr) (n1 c1 : Nat) (p2 : Option Addr) (n2 c2 : Nat) (ns : List (List UInt8)) (ps : List Int) : Prop where
  k0 : Kept [] wo wr
  e1 : n1 = ns.length
  e2 : n2 = ps.length
  o1 : wr.ownsRow wo.heap.size 9 1 (.slice p1 n1 c1) n1 (strs ns)
  o2 : wr.ownsRow wo.heap.size 3 1 (.slice p2 n2 c2) n2 (ints ps)
  dis : ∀ z ∈ obl (.slice p1 n1 c1), z ∉ obl (.slice p2 n2 c2)
section
variable {wo wr u y : World} {p1 p2 q : Option Addr} {n1 c1 n2 c2 m d : Nat} {ns : List (List UInt8)} {ps : List Int} {x : List UInt8} {v : Int}
theorem Nk.keep (h : Nk wo wr p1 n1 c1 p2 n2 c2 ns ps) (k : Kept [] wr u) : Nk wo u p1 n1 c1 p2 n2 c2 ns ps :=
  ⟨h.k0.trans k, h.e1, h.e2, own_keep h.o1 k (by simp), own_keep h.o2 k (by simp), h.dis⟩
theorem Nk.push1 (h : Nk wo wr p1 n1 c1 p2 n2 c2 ns ps) (k : Kept (obl (.slice p1 n1 c1)) wr y) (hm : m = n1 + 1) (o : y.ownsRow wo.heap.size 9 1 (.slice q m d) m (strs (ns ++ [x]))) (t : ∀ z ∈ obl (.slice q m d), z ∈ obl (.slice p1 n1 c1) ∨ z = wr.heap.size) : Nk wo y q m d p2 n2 c2 (ns ++ [x]) ps := by
  have h1 := own_ge h.o1
  have h2 := own_ge h.o2
  refine ⟨h.k0.fresh k (fun z hz => (h1 z hz).1), by rw [hm, h.e1]; simp, h.e2, o, own_keep h.o2 k (fun z hz hm => h.dis z hm hz), fun z hz hm => ?_⟩
  rcases t z hz with e | e
  · exact h.dis z e hm
  · have := h2 z hm; omega
theorem Nk.push2 (h : Nk wo wr p1 n1 c1 p2 n2 c2 ns ps) (k : Kept (obl (.slice p2 n2 c2)) wr y) (hm : m = n2 + 1) (o : y.ownsRow wo.heap.size 3 1 (.slice q m d) m (ints (ps ++ [v]))) (t : ∀ z ∈ obl (.slice q m d), z ∈ obl (.slice p2 n2 c2) ∨ z = wr.heap.size) : Nk wo y p1 n1 c1 q m d ns (ps ++ [v]) := by
  have h1 := own_ge h.o1
  have h2 := own_ge h.o2
  refine ⟨h.k0.fresh k (fun z hz => (h2 z hz).1), h.e1, by rw [hm, h.e2]; simp, own_keep h.o1 k (fun z hz hm => h.dis z hz hm), o, fun z hz hm => ?_⟩
  rcases t z hm with e | e
  · exact h.dis z hz e
  · have := h1 z hz; omega
end
theorem rowStr {Y : World} {n : Nat} (hn : Y.heap.size = n) (x : List UInt8) : Row (Y.alloc (.cells #[.string ⟨x.toArray⟩] 9)) 1 (.slice (some ⟨n, 0, none⟩) 1 1) 1 (strs [x]) :=
  hn ▸ row_of_blk (Blk.new Y 9 #[.string ⟨x.toArray⟩]) rfl (by omega)
theorem rowInt {Y : World} {n : Nat} (hn : Y.heap.size = n) (x : Int) : Row (Y.alloc (.cells #[.int .i64 x] 3)) 1 (.slice (some ⟨n, 0, none⟩) 1 1) 1 (ints [x]) :=
  hn ▸ row_of_blk (Blk.new Y 3 #[.int .i64 x]) rfl (by omega)

theorem step_append_strs {w : World} {ops : Array Oper} {o : Oper} {a : Act} {K : Act → World → Prop} {Q : Exit → Act → World → Prop} {E : Prop} (hgd : o.guard = none) (s x : Operand)
    (ho : o.op = .call { callee := .builtin .append, args := #[s, x], argTypes := #[44, 44] })
    (base : Nat) (v : Value) (n : Nat) (xs : List (List UInt8)) (hs : a.eval s = v) (hown : w.ownsRow base 9 1 v n (strs xs))
    (u : Value) (m : Nat) (l : List (List UInt8)) (hx : a.eval x = u) (hrow : Row w 1 u m (strs l)) (hsm : n + m ≤ 1000000000) (hbase : base ≤ w.heap.size)
    (h : ∀ a' c' w', w'.ownsRow base 9 1 (.slice a' (n + m) c') (n + m) (strs (xs ++ l)) → Kept (obl v) w w' → (∀ k ∈ obl (.slice a' (n + m) c'), k ∈ obl v ∨ k = w.heap.size) → K (a.put o.dst (.slice a' (n + m) c')) w') :
    if Region.wanted o (yielded ops a.tmps) = true then Oper.wp Tryz.prog o a w K Q else E := by
  rw [if_pos (by simp [Region.wanted, hgd])]
  obtain ⟨i0, hi, hz0, hz1, hz2⟩ := info_parts infoStr
  refine wp_append_row s x 44 ho base 9 i0 (.string ⟨#[]⟩) 1 16 Tryz.underlying44 hi hz0 hz1 hz2 rfl (by decide) v n (strs xs) hs hown u m (strs l) hx hrow ?_ (by unfold maxLen; omega) (by omega) hbase ?_
  · intro u hu
    obtain ⟨y, _, rfl⟩ := List.mem_map.1 hu
    rfl
  · rw [← show strs (xs ++ l) = strs xs ++ strs l by simp [strs]]
    exact h
/-- what the context asks of a task -/
structure CtxB (t : Tsk) : Prop where
  few : FewT t
  h5 : AllI (head5 t)
  pub : ∀ p ∈ t.passes, Wire.I64 p.pub
  gs : ∀ p ∈ t.passes, AllI p.guests
  rv : AllI t.revoked
theorem attrE_len {p : Pss} (h : FewP p) (hg : AllI p.guests) : (attrE p).length ≤ 2200000000 := by
  have h1 := textsE_len p.attrs (by have := h.2.1; omega) (fun a ha => by have := h.2.2.2 a ha; omega)
  have h2 := numsE_len p.guests hg (by have := h.2.2.1; omega)
  unfold attrE
  rw [List.length_append]
  omega
theorem flat_attr : ∀ l : List Pss, (∀ p ∈ l, FewP p ∧ AllI p.guests) → (l.flatMap attrE).length ≤ 2200000000 * l.length
  | [], _ => by simp
  | a :: l, h => by
    have h1 := flat_attr l fun p hp => h p (by simp [hp])
    have h2 := attrE_len (h a (by simp)).1 (h a (by simp)).2
    rw [List.flatMap_cons, List.length_append, List.length_cons]
    omega
theorem recE_len {r : Rec} (h : EncB r) : (recE r).length ≤ 10000000000 := by
  have h1 := textsE_len (terms r.links) h.tl h.ts
  have h2 := numsE_len (nums7E r.n7) h.ok.n7 (by have := h.ok.l7; omega)
  have h3 := h.pe
  have h4 := Wire.itoa_len ((pfE r.proof).length : Int) ⟨by omega, by omega⟩
  unfold recE Wire.textE
  simp only [List.length_append, List.length_cons, List.length_nil]
  omega
def CRel (t : Tsk) (wo : World) (vn vp va vi : Value) (wr : World) : Prop :=
  ∃ (k : Nat) (p1 : Option Addr) (n1 c1 : Nat) (p2 : Option Addr) (n2 c2 : Nat), k ≤ t.passes.length ∧ vn = .slice p1 n1 c1 ∧ vp = .slice p2 n2 c2 ∧ va = .string ⟨((t.passes.take k).flatMap attrE).toArray⟩ ∧ vi = .int .i64 k ∧
    Nk wo wr p1 n1 c1 p2 n2 c2 ((t.passes.take k).map Pss.name) ((t.passes.take k).map Pss.pub)
theorem rec_bare {w : World} {tk sp lk cm ch bt es da an : Value} {r : Rec} (h : RecS w tk sp lk cm ch bt es da an r) : RecS w tk sp lk cm ch bt es (.slice none 0 0) (.slice none 0 0) r.bare :=
  ⟨h.tk, h.sp, h.lk, h.cm, h.ch, h.bt, h.es, RowOf.nil_ _ _ _, RowOf.nil_ _ _ _⟩

set_option maxRecDepth 100000 in
set_option maxHeartbeats 16000000 in
theorem ctx_any (t : Tsk) (pa va : Value) (tk sp lk cm ch bt es da an : Value) (r : Rec) (w : World) (hT : TskS w pa va t) (hR : RecS w tk sp lk cm ch bt es da an r) (hE : Env w) (hB : CtxB t) (hBR : EncB r.bare) :
    Calls Tryz.prog 59 #[.agg #[.int .i64 t.version, .string ⟨t.question.toArray⟩, pa, .int .i64 t.most, va, .int .i64 t.dare, .int .i64 t.quorum, .int .i64 t.jurors], .agg #[tk, sp, lk, cm, ch, bt, es, da, an]] w (Ret (.string ⟨(ctxE t r).toArray⟩) w) := by
  obtain ⟨hps, hrv⟩ := hT
  obtain ⟨pp, pc, rfl, lp, _⟩ := hps.form
  obtain ⟨vp, vc, rfl, lr, _⟩ := hrv.form
  have HRB := Lib.hid (rec_bare hR)
  obtain ⟨htk, hsp, hlk, hcm, hch, hbt, hes, hda, han⟩ := hR
  obtain ⟨s0, d0, rfl, _, _⟩ := htk.form
  obtain ⟨s1, d1, rfl, _, _⟩ := hsp.form
  obtain ⟨s2, d2, rfl, _, _⟩ := hlk.form
  obtain ⟨s3, d3, rfl, _, _⟩ := hcm.form
  obtain ⟨s4, d4, rfl, _, _⟩ := hch.form
  obtain ⟨s5, d5, rfl, _, _⟩ := hbt.form
  obtain ⟨s6, d6, rfl, _, _⟩ := hes.form
  obtain ⟨s7, d7, rfl, _, _⟩ := hda.form
  obtain ⟨s8, d8, rfl, _, _⟩ := han.form
  obtain ⟨W, hW⟩ : ∃ W, (w.alloc (.cells #[.int .i64 t.version, .string ⟨t.question.toArray⟩, .slice pp t.passes.length pc, .int .i64 t.most, .slice vp t.revoked.length vc, .int .i64 t.dare, .int .i64 t.quorum, .int .i64 t.jurors] 30)).alloc (.cells #[.slice s0 r.tickets.length d0, .slice s1 r.spends.length d1, .slice s2 r.links.length d2, .slice s3 r.commits.length d3, .slice s4 r.chain.length d4, .slice s5 r.bits.length d5, .slice s6 r.escrow.length d6, .slice s7 r.proof.dares.length d7, .slice s8 r.proof.answers.length d8] 88) = W := ⟨_, rfl⟩
  have hkW : Kept [] w W := hW ▸ ((Kept.refl _ _).alloc _).alloc _
  have hbT : Blk W w.heap.size 30 #[.int .i64 t.version, .string ⟨t.question.toArray⟩, .slice pp t.passes.length pc, .int .i64 t.most, .slice vp t.revoked.length vc, .int .i64 t.dare, .int .i64 t.quorum, .int .i64 t.jurors] := hW ▸ (Blk.new w _ _).alloc _
  have hbR : Blk W (w.heap.size + 1) 88 #[.slice s0 r.tickets.length d0, .slice s1 r.spends.length d1, .slice s2 r.links.length d2, .slice s3 r.commits.length d3, .slice s4 r.chain.length d4, .slice s5 r.bits.length d5, .slice s6 r.escrow.length d6, .slice s7 r.proof.dares.length d7, .slice s8 r.proof.answers.length d8] := by
    have := Blk.new (w.alloc (.cells #[.int .i64 t.version, .string ⟨t.question.toArray⟩, .slice pp t.passes.length pc, .int .i64 t.most, .slice vp t.revoked.length vc, .int .i64 t.dare, .int .i64 t.quorum, .int .i64 t.jurors] 30)) 88 #[.slice s0 r.tickets.length d0, .slice s1 r.spends.length d1, .slice s2 r.links.length d2, .slice s3 r.commits.length d3, .slice s4 r.chain.length d4, .slice s5 r.bits.length d5, .slice s6 r.escrow.length d6, .slice s7 r.proof.dares.length d7, .slice s8 r.proof.answers.length d8]
    rw [hW, World.size_alloc] at this
    exact this
  have ct2 : W.cell? ⟨w.heap.size, 2, none⟩ = some (.slice pp t.passes.length pc) := hbT.cell 2
  have HBT := Lib.hid hbT
  have HBR := Lib.hid hbR
  have HW := Lib.hid hW
  have HK := Lib.hid hkW
  have HPS := Lib.hid hps
  have HRV := Lib.hid hrv
  have HE := Lib.hid hE
  have HB := Lib.hid hB
  have HEB := Lib.hid hBR
  clear htk hsp hlk hcm hch hbt hes hda han hW hbT hbR hkW hps hrv hE hB hBR
  go_enter Tryz.func59, Tryz.ntmps59
  go_upto_region 1 with (fail)
  rw [show (w.alloc _).alloc _ = W from HW.out]
  go_wp2_with fail
  have N0 : Hid (Nk W W none 0 0 none 0 0 [] []) := ⟨Kept.refl _ _, rfl, rfl, World.ownsRow_nil _ _ _ _, World.ownsRow_nil _ _ _ _, by simp [obl, Value.ownBlock]⟩
  go_loopw [5, 6, 7, 15] (fun vn vq va vi wr => CRel t W vn vq va vi wr) (fun _ _ _ vi _ => t.passes.length - (intOf vi).toNat)
  case atStart => exact ⟨0, none, 0, 0, none, 0, 0, Nat.zero_le _, rfl, rfl, rfl, rfl, N0.out⟩
  case round =>
    obtain ⟨k, p1, n1, c1, p2, n2, c2, hk, rfl, rfl, rfl, rfl, hN⟩ := hrel
    have NN := Lib.hid hN
    clear hN N0
    by_cases hlt : k < t.passes.length
    · obtain ⟨b, off, cs, rfl, ⟨v, u, rfl, hv, hu⟩, hce⟩ := HPS.out.atk k hlt
      have hfewp := HB.out.few.ps t.passes[k] (List.getElem_mem hlt)
      have hpubp := HB.out.gs t.passes[k] (List.getElem_mem hlt)
      have htk : t.passes.take (k + 1) = t.passes.take k ++ [t.passes[k]] := List.take_succ_eq_append_getElem hlt
      have hlp5 := HB.out.few.lp
      obtain ⟨P, hP⟩ : ∃ P, t.passes[k] = P := ⟨_, rfl⟩
      rw [hP] at hv hu hce hfewp htk hpubp
      obtain ⟨av, ac, rfl, lv, _⟩ := hv.form
      obtain ⟨au, cu, rfl, lu, _⟩ := hu.form
      have hkr : Kept [] w wr := HK.out.trans NN.out.k0
      have x0 : wr.cell? ⟨b, off + k * 4, none⟩ = some (.string ⟨P.name.toArray⟩) := Kept.cellOf (hce 0 _ (by omega) rfl) wr hkr
      have x1 : wr.cell? ⟨b, off + k * 4 + 1, none⟩ = some (.int .i64 P.pub) := Kept.cellOf (hce 1 _ (by omega) rfl) wr hkr
      have x2 : wr.cell? ⟨b, off + k * 4 + 2, none⟩ = some (.slice av P.attrs.length ac) := Kept.cellOf (hce 2 _ (by omega) rfl) wr hkr
      have x3 : wr.cell? ⟨b, off + k * 4 + 3, none⟩ = some (.slice au P.guests.length cu) := Kept.cellOf (hce 3 _ (by omega) rfl) wr hkr
      have hcat := bcat
      have f0 := flat_attr (t.passes.take k) (fun p hp => ⟨HB.out.few.ps p (List.mem_of_mem_take hp), HB.out.gs p (List.mem_of_mem_take hp)⟩)
      have f1 := textsE_len P.attrs (by have := hfewp.2.1; omega) (fun a ha => by have := hfewp.2.2.2 a ha; omega)
      have f2 := numsE_len P.guests hpubp (by have := hfewp.2.2.1; omega)
      have f3 : (t.passes.take k).length ≤ 5 := by rw [List.length_take]; omega
      have s1' : ¬ 9223372036854775807 < (Wire.textsE P.attrs).length + (Wire.numsE P.guests).length := by omega
      obtain ⟨FA, hFA⟩ : ∃ A, (t.passes.take k).flatMap attrE = A := ⟨_, rfl⟩
      rw [hFA] at f0 ⊢
      have HFA := Lib.hid hFA
      have s2' : ¬ 9223372036854775807 < FA.length + ((Wire.textsE P.attrs).length + (Wire.numsE P.guests).length) := by omega
      clear hFA
      have HV := Lib.hid hv
      have HU := Lib.hid hu
      clear f0 f1 f2 f3
      have HTK := Lib.hid htk
      have hn1 : n1 ≤ 100 := by have := NN.out.e1; rw [List.length_map, List.length_take] at this; omega
      have hn2 : n2 ≤ 100 := by have := NN.out.e2; rw [List.length_map, List.length_take] at this; omega
      have HKR := Lib.hid hkr
      clear hce hP hv hu htk hkr
      go_upto_region 7 with (fail)
      obtain ⟨y0, hy0⟩ : ∃ y0, wr.alloc (.cells #[.string ⟨P.name.toArray⟩, .int .i64 P.pub, .slice av P.attrs.length ac, .slice au P.guests.length cu] 106) = y0 := ⟨_, rfl⟩
      have HKY : Hid (Kept [] wr y0) := hy0 ▸ (Kept.refl _ _).alloc _
      have hyw : wr.heap.size < y0.heap.size := by rw [← hy0]; simp
      have BP : Hid (Blk y0 wr.heap.size 106 #[.string ⟨P.name.toArray⟩, .int .i64 P.pub, .slice av P.attrs.length ac, .slice au P.guests.length cu]) := hy0 ▸ Blk.new _ _ _
      rw [hy0]
      obtain ⟨pb, hpb⟩ : ∃ pb, wr.heap.size = pb := ⟨_, rfl⟩
      have hnb : Hid (pb ∉ obl (.slice p1 n1 c1) ++ obl (.slice p2 n2 c2)) := fun hm => by
        rcases List.mem_append.1 hm with h | h
        · have := (own_ge NN.out.o1 _ h).2; omega
        · have := (own_ge NN.out.o2 _ h).2; omega
      rw [hpb] at BP ⊢
      clear x0 x1 x2 x3 hy0
      have q0 : ∀ w', Kept (obl (.slice p1 n1 c1) ++ obl (.slice p2 n2 c2)) y0 w' → w'.cell? ⟨pb, 0, none⟩ = some (.string ⟨P.name.toArray⟩) := fun w' k => (BP.out.kept k hnb.out).cell 0
      have q1' : ∀ w', Kept (obl (.slice p1 n1 c1) ++ obl (.slice p2 n2 c2)) y0 w' → w'.cell? ⟨pb, 1, none⟩ = some (.int .i64 P.pub) := fun w' k => (BP.out.kept k hnb.out).cell 1
      have HB9 : Hid (∀ w', Kept (obl (.slice p1 n1 c1) ++ obl (.slice p2 n2 c2)) y0 w' → Blk w' pb 106 #[.string ⟨P.name.toArray⟩, .int .i64 P.pub, .slice av P.attrs.length ac, .slice au P.guests.length cu]) := fun w' k => BP.out.kept k hnb.out
      clear hpb
      refine wp_region_T [] (fun w' => Kept (obl (.slice p1 n1 c1) ++ obl (.slice p2 n2 c2)) y0 w') (by kernel_rfl) (Kept.refl _ _).drew (fun hH => ?_)
      refine takeT [4, 9, 10, 11] (i := 0) (v := ?tv1) rfl (by kernel_rfl) (by kernel_rfl) (by kernel_rfl) (by kernel_rfl) (fun _ _ _ h => h) (Or.inl ⟨by rfl, ?ty1⟩) hH ?tr1
      case ty1 => intro w' hSw; (try dsimp only at hSw); go_simp; first | done | with_reducible rfl
      simp only [Act.put, List.setIfInBounds_toArray, List.set_cons_zero, List.set_cons_succ]
      refine takeT [2, 3, 4, 9, 10, 11] (i := 1) (v := ?tv2) rfl (by kernel_rfl) (by kernel_rfl) (by kernel_rfl) (by kernel_rfl) (fun _ _ _ h => h) (Or.inl ⟨by rfl, ?ty2⟩) hH ?tr2
      case ty2 => intro w' hSw; (try dsimp only at hSw); go_simp; first | done | with_reducible rfl
      simp only [Act.put, List.setIfInBounds_toArray, List.set_cons_zero, List.set_cons_succ]
      refine takeT [3, 4, 9, 10, 11] (i := 2) (v := ?tv3) rfl (by kernel_rfl) (by kernel_rfl) (by kernel_rfl) (by kernel_rfl) (fun _ _ _ h => h) (Or.inl ⟨by rfl, ?ty3⟩) hH ?tr3
      case ty3 => intro w' hSw; (try dsimp only at hSw); go_simp; first | done | with_reducible rfl
      simp only [Act.put, List.setIfInBounds_toArray, List.set_cons_zero, List.set_cons_succ]
      refine takeT [9, 10, 11] (i := 5) (v := ?tv4) rfl (by kernel_rfl) (by kernel_rfl) (by kernel_rfl) (by kernel_rfl) (fun _ _ _ h => h) (Or.inl ⟨by rfl, ?ty4⟩) hH ?tr4
      case ty4 => intro w' hSw; (try dsimp only at hSw); go_simp; first | done | with_reducible rfl
      simp only [Act.put, List.setIfInBounds_toArray, List.set_cons_zero, List.set_cons_succ]
      refine takeT [7, 8, 9, 10, 11] (i := 6) (v := ?tv5) rfl (by kernel_rfl) (by kernel_rfl) (by kernel_rfl) (by kernel_rfl) (fun _ _ _ h => h) (Or.inl ⟨by rfl, ?ty5⟩) hH ?tr5
      case ty5 => intro w' hSw; (try dsimp only at hSw); go_simp; first | done | with_reducible rfl
      simp only [Act.put, List.setIfInBounds_toArray, List.set_cons_zero, List.set_cons_succ]
      refine takeT [8, 9, 10, 11] (i := 7) (v := ?tv6) rfl (by kernel_rfl) (by kernel_rfl) (by kernel_rfl) (by kernel_rfl) (fun _ _ _ h => h) (Or.inl ⟨by rfl, ?ty6⟩) hH ?tr6
      case ty6 => intro w' hSw; (try dsimp only at hSw); go_simp; first | done | with_reducible rfl
      simp only [Act.put, List.setIfInBounds_toArray, List.set_cons_zero, List.set_cons_succ]
      refine wpAnyT_ready (rs := [3, 8]) (by kernel_rfl) (by simp) ?_
      refine AllReadyT.cons rfl (fun K hK => ?_) (AllReadyT.cons rfl (fun K hK => ?_) AllReadyT.nil)
      · go_simp
        refine hK.out _ _ (hH.alloc _) (fun hH => ?_)
        clear hK K
        (try skip)
        refine wpAnyT_ready (rs := [4, 8]) (by kernel_rfl) (by simp) ?_
        refine AllReadyT.cons rfl (fun K hK => ?_) (AllReadyT.cons rfl (fun K hK => ?_) AllReadyT.nil)
        · refine step_append_strs rfl _ _ rfl W.heap.size (.slice p1 n1 c1) n1 _ rfl (NN.out.keep (HKY.out.trans (by (repeat (first | (with_reducible exact Kept.refl _ _) | (with_reducible refine Kept.drew ?_) | (with_reducible refine Kept.alloc ?_ _)))))).o1 _ 1 [P.name] rfl (rowN (by simp) _ _) (by omega) (by have h1 := NN.out.k0.size; have h2 := HKY.out.size; simp only [World.size_alloc, World.drew]; omega) ?_
          intro q1 d1 y1 o1 k1 t1
          have N1 := Lib.hid ((NN.out.keep (HKY.out.trans (by (repeat (first | (with_reducible exact Kept.refl _ _) | (with_reducible refine Kept.drew ?_) | (with_reducible refine Kept.alloc ?_ _)))))).push1 k1 rfl o1 t1)
          have hS1 : Kept (obl (.slice p1 n1 c1) ++ obl (.slice p2 n2 c2)) y0 y1 := hH.trans (k1.mono fun z _ hz => List.mem_append_left _ hz)
          refine hK.out _ _ hS1 (fun hH => ?_)
          clear hK K
          (try skip)
          refine wpAnyT_ready (rs := [8]) (by kernel_rfl) (by simp) ?_
          refine AllReadyT.cons rfl (fun K hK => ?_) AllReadyT.nil
          go_simp
          refine hK.out _ _ (hH.alloc _) (fun hH => ?_)
          clear hK K
          (try skip)
          refine wpAnyT_ready (rs := [9]) (by kernel_rfl) (by simp) ?_
          refine AllReadyT.cons rfl (fun K hK => ?_) AllReadyT.nil
          refine step_append_ints rfl _ _ rfl W.heap.size (.slice p2 n2 c2) n2 _ rfl (N1.out.keep (by (repeat (first | (with_reducible exact Kept.refl _ _) | (with_reducible refine Kept.drew ?_) | (with_reducible refine Kept.alloc ?_ _))))).o2 _ 1 [P.pub] rfl (rowN (by simp) _ _) (by omega) (by have h1 := N1.out.k0.size; simp only [World.size_alloc]; omega) ?_
          intro q2 d2 y2 o2 k2 t2
          have N2 := Lib.hid ((N1.out.keep (by (repeat (first | (with_reducible exact Kept.refl _ _) | (with_reducible refine Kept.drew ?_) | (with_reducible refine Kept.alloc ?_ _))))).push2 k2 rfl o2 t2)
          have hS2 : Kept (obl (.slice p1 n1 c1) ++ obl (.slice p2 n2 c2)) y0 y2 := hH.trans (k2.mono fun z _ hz => List.mem_append_right _ hz)
          refine hK.out _ _ hS2 (fun hH => ?_)
          clear hK K
          (try skip)
          refine wpAnyT_ready (rs := [10]) (by kernel_rfl) (by simp) ?_
          refine AllReadyT.cons rfl (fun K hK => ?_) AllReadyT.nil
          go_simp
          refine hK.out _ _ hH (fun hH => ?_)
          clear hK K
          (try skip)
          refine wpAnyT_ready (rs := [11]) (by kernel_rfl) (by simp) ?_
          refine AllReadyT.cons rfl (fun K hK => ?_) AllReadyT.nil
          go_simp
          refine hK.out _ _ hH (fun hH => ?_)
          clear hK K
          (try skip)
          refine wpAnyT_done (by kernel_rfl) ?_ _
          have b9 := HB9.out y2 hS2
          have r2 := Kept.cellOf (show y2.cell? ⟨pb, 2, none⟩ = some (.slice av P.attrs.length ac) from b9.cell 2)
          have r3 := Kept.cellOf (show y2.cell? ⟨pb, 3, none⟩ = some (.slice au P.guests.length cu) from b9.cell 3)
          have hk2y : Kept [] w y2 := HK.out.trans N2.out.k0
          have HVY := Lib.hid (HV.out.kept hk2y)
          have HUY := Lib.hid (HU.out.kept hk2y)
          have HEY := Lib.hid (HE.out.kept0 hk2y)
          clear N1 o1 k1 t1 o2 k2 t2 hS1 hS2 q0 q1' hH b9 hk2y
          go_upto_region 8 with (fail)
          go_region_held3 (fun w' => Kept [] y2 w') (repeat (first | (with_reducible assumption) | (with_reducible exact Kept.refl _ _) | (with_reducible refine Kept.drew ?_) | (with_reducible refine Kept.alloc ?_ _)))
            (first
              | (go_at_call 126; refine (kept_from (W := y2) (by assumption) (texts_any _ P.attrs _ (by exact HVY.out.kept (by assumption)) (by exact HEY.out.kept0 (by assumption)) (by have := hfewp.2.1; omega) (fun a ha => by have := hfewp.2.2.2 a ha; omega))).mono ?_; rintro e w2 ⟨rfl, hk2⟩)
              | (go_at_call 83; refine (kept_from (W := y2) (by assumption) (nums_any _ P.guests _ (by exact HUY.out.kept (by assumption)) (by exact HEY.out.kept0 (by assumption)) (by have := hfewp.2.2.1; omega) (fun a ha => hpubp a ha))).mono ?_; rintro e w2 ⟨rfl, hk2⟩))
          rename_i hHeld
          have NF := Lib.hid (N2.out.keep hHeld)
          clear r2 r3 hHeld N2
          go_wp2_with fail
          go_roundw
          case rel =>
            refine ⟨k + 1, q1, n1 + 1, d1, q2, n2 + 1, d2, by omega, rfl, rfl, ?_, by go_num, ?_⟩
            · rw [HTK.out, List.flatMap_append, HFA.out]
              simp [attrE]
            · rw [HTK.out, List.map_append, List.map_append]
              exact NF.out
          case measure => simp [intOf]; omega
        · go_simp
          refine hK.out _ _ (hH.alloc _) (fun hH => ?_)
          clear hK K
          (try skip)
          refine wpAnyT_ready (rs := [4]) (by kernel_rfl) (by simp) ?_
          refine AllReadyT.cons rfl (fun K hK => ?_) AllReadyT.nil
          refine step_append_strs rfl _ _ rfl W.heap.size (.slice p1 n1 c1) n1 _ rfl (NN.out.keep (HKY.out.trans (by (repeat (first | (with_reducible exact Kept.refl _ _) | (with_reducible refine Kept.drew ?_) | (with_reducible refine Kept.alloc ?_ _)))))).o1 _ 1 [P.name] rfl ((rowN (Y := y0.drew) rfl _ _).kept ((Kept.refl _ _).alloc _)) (by omega) (by have h1 := NN.out.k0.size; have h2 := HKY.out.size; simp only [World.size_alloc, World.drew]; omega) ?_
          intro q1 d1 y1 o1 k1 t1
          have N1 := Lib.hid ((NN.out.keep (HKY.out.trans (by (repeat (first | (with_reducible exact Kept.refl _ _) | (with_reducible refine Kept.drew ?_) | (with_reducible refine Kept.alloc ?_ _)))))).push1 k1 rfl o1 t1)
          have hS1 : Kept (obl (.slice p1 n1 c1) ++ obl (.slice p2 n2 c2)) y0 y1 := hH.trans (k1.mono fun z _ hz => List.mem_append_left _ hz)
          refine hK.out _ _ hS1 (fun hH => ?_)
          clear hK K
          (try skip)
          refine wpAnyT_ready (rs := [9]) (by kernel_rfl) (by simp) ?_
          refine AllReadyT.cons rfl (fun K hK => ?_) AllReadyT.nil
          refine step_append_ints rfl _ _ rfl W.heap.size (.slice p2 n2 c2) n2 _ rfl (N1.out.keep (by (repeat (first | (with_reducible exact Kept.refl _ _) | (with_reducible refine Kept.drew ?_) | (with_reducible refine Kept.alloc ?_ _))))).o2 _ 1 [P.pub] rfl (row_one_keep (rowN (Y := y0.drew.alloc (.cells #[.string ⟨P.name.toArray⟩] 9)) (by simp) _ _) k1 (fun h => by have := (own_ge NN.out.o1 _ h).2; have := hyw; omega)) (by omega) N1.out.k0.size ?_
          intro q2 d2 y2 o2 k2 t2
          have N2 := Lib.hid ((N1.out.keep (by (repeat (first | (with_reducible exact Kept.refl _ _) | (with_reducible refine Kept.drew ?_) | (with_reducible refine Kept.alloc ?_ _))))).push2 k2 rfl o2 t2)
          have hS2 : Kept (obl (.slice p1 n1 c1) ++ obl (.slice p2 n2 c2)) y0 y2 := hH.trans (k2.mono fun z _ hz => List.mem_append_right _ hz)
          refine hK.out _ _ hS2 (fun hH => ?_)
          clear hK K
          (try skip)
          refine wpAnyT_ready (rs := [10]) (by kernel_rfl) (by simp) ?_
          refine AllReadyT.cons rfl (fun K hK => ?_) AllReadyT.nil
          go_simp
          refine hK.out _ _ hH (fun hH => ?_)
          clear hK K
          (try skip)
          refine wpAnyT_ready (rs := [11]) (by kernel_rfl) (by simp) ?_
          refine AllReadyT.cons rfl (fun K hK => ?_) AllReadyT.nil
          go_simp
          refine hK.out _ _ hH (fun hH => ?_)
          clear hK K
          (try skip)
          refine wpAnyT_done (by kernel_rfl) ?_ _
          have b9 := HB9.out y2 hS2
          have r2 := Kept.cellOf (show y2.cell? ⟨pb, 2, none⟩ = some (.slice av P.attrs.length ac) from b9.cell 2)
          have r3 := Kept.cellOf (show y2.cell? ⟨pb, 3, none⟩ = some (.slice au P.guests.length cu) from b9.cell 3)
          have hk2y : Kept [] w y2 := HK.out.trans N2.out.k0
          have HVY := Lib.hid (HV.out.kept hk2y)
          have HUY := Lib.hid (HU.out.kept hk2y)
          have HEY := Lib.hid (HE.out.kept0 hk2y)
          clear N1 o1 k1 t1 o2 k2 t2 hS1 hS2 q0 q1' hH b9 hk2y
          go_upto_region 8 with (fail)
          go_region_held3 (fun w' => Kept [] y2 w') (repeat (first | (with_reducible assumption) | (with_reducible exact Kept.refl _ _) | (with_reducible refine Kept.drew ?_) | (with_reducible refine Kept.alloc ?_ _)))
            (first
              | (go_at_call 126; refine (kept_from (W := y2) (by assumption) (texts_any _ P.attrs _ (by exact HVY.out.kept (by assumption)) (by exact HEY.out.kept0 (by assumption)) (by have := hfewp.2.1; omega) (fun a ha => by have := hfewp.2.2.2 a ha; omega))).mono ?_; rintro e w2 ⟨rfl, hk2⟩)
              | (go_at_call 83; refine (kept_from (W := y2) (by assumption) (nums_any _ P.guests _ (by exact HUY.out.kept (by assumption)) (by exact HEY.out.kept0 (by assumption)) (by have := hfewp.2.2.1; omega) (fun a ha => hpubp a ha))).mono ?_; rintro e w2 ⟨rfl, hk2⟩))
          rename_i hHeld
          have NF := Lib.hid (N2.out.keep hHeld)
          clear r2 r3 hHeld N2
          go_wp2_with fail
          go_roundw
          case rel =>
            refine ⟨k + 1, q1, n1 + 1, d1, q2, n2 + 1, d2, by omega, rfl, rfl, ?_, by go_num, ?_⟩
            · rw [HTK.out, List.flatMap_append, HFA.out]
              simp [attrE]
            · rw [HTK.out, List.map_append, List.map_append]
              exact NF.out
          case measure => simp [intOf]; omega
      · go_simp
        refine hK.out _ _ (hH.alloc _) (fun hH => ?_)
        clear hK K
        (try skip)
        refine wpAnyT_ready (rs := [3]) (by kernel_rfl) (by simp) ?_
        refine AllReadyT.cons rfl (fun K hK => ?_) AllReadyT.nil
        go_simp
        refine hK.out _ _ (hH.alloc _) (fun hH => ?_)
        clear hK K
        (try skip)
        refine wpAnyT_ready (rs := [4]) (by kernel_rfl) (by simp) ?_
        refine AllReadyT.cons rfl (fun K hK => ?_) AllReadyT.nil
        refine step_append_strs rfl _ _ rfl W.heap.size (.slice p1 n1 c1) n1 _ rfl (NN.out.keep (HKY.out.trans (by (repeat (first | (with_reducible exact Kept.refl _ _) | (with_reducible refine Kept.drew ?_) | (with_reducible refine Kept.alloc ?_ _)))))).o1 _ 1 [P.name] rfl (rowN (by simp) _ _) (by omega) (by have h1 := NN.out.k0.size; have h2 := HKY.out.size; simp only [World.size_alloc, World.drew]; omega) ?_
        intro q1 d1 y1 o1 k1 t1
        have N1 := Lib.hid ((NN.out.keep (HKY.out.trans (by (repeat (first | (with_reducible exact Kept.refl _ _) | (with_reducible refine Kept.drew ?_) | (with_reducible refine Kept.alloc ?_ _)))))).push1 k1 rfl o1 t1)
        have hS1 : Kept (obl (.slice p1 n1 c1) ++ obl (.slice p2 n2 c2)) y0 y1 := hH.trans (k1.mono fun z _ hz => List.mem_append_left _ hz)
        refine hK.out _ _ hS1 (fun hH => ?_)
        clear hK K
        (try skip)
        refine wpAnyT_ready (rs := [9]) (by kernel_rfl) (by simp) ?_
        refine AllReadyT.cons rfl (fun K hK => ?_) AllReadyT.nil
        refine step_append_ints rfl _ _ rfl W.heap.size (.slice p2 n2 c2) n2 _ rfl (N1.out.keep (by (repeat (first | (with_reducible exact Kept.refl _ _) | (with_reducible refine Kept.drew ?_) | (with_reducible refine Kept.alloc ?_ _))))).o2 _ 1 [P.pub] rfl (row_one_keep ((rowN (Y := y0.drew) rfl _ _).kept ((Kept.refl _ _).alloc _)) k1 (fun h => by have := (own_ge NN.out.o1 _ h).2; have := hyw; omega)) (by omega) N1.out.k0.size ?_
        intro q2 d2 y2 o2 k2 t2
        have N2 := Lib.hid ((N1.out.keep (by (repeat (first | (with_reducible exact Kept.refl _ _) | (with_reducible refine Kept.drew ?_) | (with_reducible refine Kept.alloc ?_ _))))).push2 k2 rfl o2 t2)
        have hS2 : Kept (obl (.slice p1 n1 c1) ++ obl (.slice p2 n2 c2)) y0 y2 := hH.trans (k2.mono fun z _ hz => List.mem_append_right _ hz)
        refine hK.out _ _ hS2 (fun hH => ?_)
        clear hK K
        (try skip)
        refine wpAnyT_ready (rs := [10]) (by kernel_rfl) (by simp) ?_
        refine AllReadyT.cons rfl (fun K hK => ?_) AllReadyT.nil
        go_simp
        refine hK.out _ _ hH (fun hH => ?_)
        clear hK K
        (try skip)
        refine wpAnyT_ready (rs := [11]) (by kernel_rfl) (by simp) ?_
        refine AllReadyT.cons rfl (fun K hK => ?_) AllReadyT.nil
        go_simp
        refine hK.out _ _ hH (fun hH => ?_)
        clear hK K
        (try skip)
        refine wpAnyT_done (by kernel_rfl) ?_ _
        have b9 := HB9.out y2 hS2
        have r2 := Kept.cellOf (show y2.cell? ⟨pb, 2, none⟩ = some (.slice av P.attrs.length ac) from b9.cell 2)
        have r3 := Kept.cellOf (show y2.cell? ⟨pb, 3, none⟩ = some (.slice au P.guests.length cu) from b9.cell 3)
        have hk2y : Kept [] w y2 := HK.out.trans N2.out.k0
        have HVY := Lib.hid (HV.out.kept hk2y)
        have HUY := Lib.hid (HU.out.kept hk2y)
        have HEY := Lib.hid (HE.out.kept0 hk2y)
        clear N1 o1 k1 t1 o2 k2 t2 hS1 hS2 q0 q1' hH b9 hk2y
        go_upto_region 8 with (fail)
        go_region_held3 (fun w' => Kept [] y2 w') (repeat (first | (with_reducible assumption) | (with_reducible exact Kept.refl _ _) | (with_reducible refine Kept.drew ?_) | (with_reducible refine Kept.alloc ?_ _)))
          (first
            | (go_at_call 126; refine (kept_from (W := y2) (by assumption) (texts_any _ P.attrs _ (by exact HVY.out.kept (by assumption)) (by exact HEY.out.kept0 (by assumption)) (by have := hfewp.2.1; omega) (fun a ha => by have := hfewp.2.2.2 a ha; omega))).mono ?_; rintro e w2 ⟨rfl, hk2⟩)
            | (go_at_call 83; refine (kept_from (W := y2) (by assumption) (nums_any _ P.guests _ (by exact HUY.out.kept (by assumption)) (by exact HEY.out.kept0 (by assumption)) (by have := hfewp.2.2.1; omega) (fun a ha => hpubp a ha))).mono ?_; rintro e w2 ⟨rfl, hk2⟩))
        rename_i hHeld
        have NF := Lib.hid (N2.out.keep hHeld)
        clear r2 r3 hHeld N2
        go_wp2_with fail
        go_roundw
        case rel =>
          refine ⟨k + 1, q1, n1 + 1, d1, q2, n2 + 1, d2, by omega, rfl, rfl, ?_, by go_num, ?_⟩
          · rw [HTK.out, List.flatMap_append, HFA.out]
            simp [attrE]
          · rw [HTK.out, List.map_append, List.map_append]
            exact NF.out
        case measure => simp [intOf]; omega
    · obtain rfl : k = t.passes.length := by omega
      rw [List.take_length] at NN ⊢
      have hkr : Kept [] w wr := HK.out.trans NN.out.k0
      have hbr := HBR.out.kept NN.out.k0 (by simp)
      have e0 : wr.cell? ⟨w.heap.size + 1, 0, none⟩ = some (.slice s0 r.tickets.length d0) := hbr.cell 0
      have e1 : wr.cell? ⟨w.heap.size + 1, 1, none⟩ = some (.slice s1 r.spends.length d1) := hbr.cell 1
      have e2 : wr.cell? ⟨w.heap.size + 1, 2, none⟩ = some (.slice s2 r.links.length d2) := hbr.cell 2
      have e3 : wr.cell? ⟨w.heap.size + 1, 3, none⟩ = some (.slice s3 r.commits.length d3) := hbr.cell 3
      have e4 : wr.cell? ⟨w.heap.size + 1, 4, none⟩ = some (.slice s4 r.chain.length d4) := hbr.cell 4
      have e5 : wr.cell? ⟨w.heap.size + 1, 5, none⟩ = some (.slice s5 r.bits.length d5) := hbr.cell 5
      have e6 : wr.cell? ⟨w.heap.size + 1, 6, none⟩ = some (.slice s6 r.escrow.length d6) := hbr.cell 6
      have e7 : wr.cell? ⟨w.heap.size + 1, 7, none⟩ = some (.slice s7 r.proof.dares.length d7) := hbr.cell 7
      have e8 : wr.cell? ⟨w.heap.size + 1, 8, none⟩ = some (.slice s8 r.proof.answers.length d8) := hbr.cell 8
      have g7 := hbr.frozen 7
      have g8 := hbr.frozen 8
      obtain ⟨Y, hY⟩ : ∃ Y, (wr.setCell ⟨w.heap.size + 1, 7, none⟩ (.slice none 0 0)).setCell ⟨w.heap.size + 1, 8, none⟩ (.slice none 0 0) = Y := ⟨_, rfl⟩
      have hWl := hkr.size
      have kWY : Kept [w.heap.size + 1] wr Y := hY ▸ ((Kept.refl _ _).setCell (by simp) _).setCell (by simp) _
      have kwY : Kept [] w Y := hkr.fresh kWY (by simp)
      have HTY : Hid (Blk Y w.heap.size 30 #[.int .i64 t.version, .string ⟨t.question.toArray⟩, .slice pp t.passes.length pc, .int .i64 t.most, .slice vp t.revoked.length vc, .int .i64 t.dare, .int .i64 t.quorum, .int .i64 t.jurors]) := (HBT.out.kept NN.out.k0 (by simp)).kept kWY (by simp)
      have HRY : Hid (Blk Y (w.heap.size + 1) 88 #[.slice s0 r.tickets.length d0, .slice s1 r.spends.length d1, .slice s2 r.links.length d2, .slice s3 r.commits.length d3, .slice s4 r.chain.length d4, .slice s5 r.bits.length d5, .slice s6 r.escrow.length d6, .slice none 0 0, .slice none 0 0]) := by
        show Blk _ _ _ _
        have := (hbr.set_ 7 (.slice none 0 0)).set_ 8 (.slice none 0 0)
        rw [hY] at this
        simpa using this
      have hWn : w.heap.size + 1 < W.heap.size := HBR.out.lt
      have O1 : Hid (Y.ownsRow W.heap.size 9 1 (.slice p1 n1 c1) n1 (strs (t.passes.map Pss.name))) := own_keep NN.out.o1 kWY (fun z hz hm => by have := (own_ge NN.out.o1 z hz).1; rw [List.mem_singleton] at hm; omega)
      have O2 : Hid (Y.ownsRow W.heap.size 3 1 (.slice p2 n2 c2) n2 (ints (t.passes.map Pss.pub))) := own_keep NN.out.o2 kWY (fun z hz hm => by have := (own_ge NN.out.o2 z hz).1; rw [List.mem_singleton] at hm; omega)
      have hn1 := NN.out.e1
      have hn2 := NN.out.e2
      have HSH : r.bare.proof.shaped := rfl
      have HENC := Lib.hid (encR_any _ _ _ _ _ _ _ _ _ r.bare Y (HRB.out.kept kwY) (HE.out.kept0 kwY) HEB.out)
      rw [encRes_yes HSH] at HENC
      have HKY := Lib.hid kwY
      have HY' := Lib.hid hY
      have HN1 := Lib.hid hn1
      have HN2 := Lib.hid hn2
      clear hkr hbr hY kWY kwY NN HSH hn1 hn2
      go_upto_region 11 with (fail)
      rw [HY'.out]
      clear e0 e1 e2 e3 e4 e5 e6 e7 e8 g7 g8 HY'
      have e0 := HRY.out.cell 0
      have e1 := HRY.out.cell 1
      have e2 := HRY.out.cell 2
      have e3 := HRY.out.cell 3
      have e4 := HRY.out.cell 4
      have e5 := HRY.out.cell 5
      have e6 := HRY.out.cell 6
      have e7 := HRY.out.cell 7
      have e8 := HRY.out.cell 8
      go_wp2_with (go_at_call 54; refine HENC.out.mono ?_)
      rintro e x ⟨rfl, kx⟩
      clear e0 e1 e2 e3 e4 e5 e6 e7 e8 HENC
      have hlp5 := HB.out.few.lp
      have HTX := Lib.hid (HTY.out.kept kx (by simp))
      have r0 := Kept.cellOf (show x.cell? ⟨w.heap.size, 0, none⟩ = some (.int .i64 t.version) from HTX.out.cell 0)
      have r1 := Kept.cellOf (show x.cell? ⟨w.heap.size, 1, none⟩ = some (.string ⟨t.question.toArray⟩) from HTX.out.cell 1)
      have r3 := Kept.cellOf (show x.cell? ⟨w.heap.size, 3, none⟩ = some (.int .i64 t.most) from HTX.out.cell 3)
      have r4 := Kept.cellOf (show x.cell? ⟨w.heap.size, 4, none⟩ = some (.slice vp t.revoked.length vc) from HTX.out.cell 4)
      have r5 := Kept.cellOf (show x.cell? ⟨w.heap.size, 5, none⟩ = some (.int .i64 t.dare) from HTX.out.cell 5)
      have r6 := Kept.cellOf (show x.cell? ⟨w.heap.size, 6, none⟩ = some (.int .i64 t.quorum) from HTX.out.cell 6)
      have r7 := Kept.cellOf (show x.cell? ⟨w.heap.size, 7, none⟩ = some (.int .i64 t.jurors) from HTX.out.cell 7)
      have HX := Lib.hid (HKY.out.trans kx)
      have HEX := Lib.hid (HE.out.kept0 HX.out)
      have hl1 : n1 ≤ 100 := by have := HN1.out; rw [List.length_map] at this; omega
      have hl2 : n2 ≤ 100 := by have := HN2.out; rw [List.length_map] at this; omega
      have HRN : Hid (Row x 1 (.slice p1 n1 c1) (t.passes.map Pss.name).length (strs (t.passes.map Pss.name))) := by have := Row.of_own (own_keep O1.out kx (by simp)) (by omega); rw [HN1.out] at this ⊢; exact this
      have HRP : Hid (Row x 1 (.slice p2 n2 c2) (t.passes.map Pss.pub).length (ints (t.passes.map Pss.pub))) := by have := Row.of_own (own_keep O2.out kx (by simp)) (by omega); rw [HN2.out] at this ⊢; exact this
      have HRR := Lib.hid (HRV.out.kept HX.out)
      have HNM : Hid (∀ y ∈ t.passes.map Pss.name, y.length ≤ 1000) := fun y hy => by obtain ⟨p, hp, rfl⟩ := List.mem_map.1 hy; have := (HB.out.few.ps p hp).1; omega
      have HPB : Hid (∀ y ∈ t.passes.map Pss.pub, Wire.I64 y) := fun y hy => by obtain ⟨p, hp, rfl⟩ := List.mem_map.1 hy; exact HB.out.pub p hp
      have hqx : t.question.length ≤ 100000000 := by have := HB.out.few.q; omega
      have hrx : t.revoked.length ≤ 100000001 := by have := HB.out.few.rv; omega
      have HRI := Lib.hid HB.out.rv
      have H5I := Lib.hid HB.out.h5
      have hnl : Hid ((t.passes.map Pss.name).length ≤ 100000) := by show _ ≤ _; rw [List.length_map]; omega
      have hpl : Hid ((t.passes.map Pss.pub).length ≤ 100000001) := by show _ ≤ _; rw [List.length_map]; omega
      have hcat := bcat
      have f0 := numsE_len [t.version, t.most, t.dare, t.quorum, t.jurors] H5I.out (by simp)
      have f1 := textE_len t.question hqx
      have f2 := textsE_len (t.passes.map Pss.name) (by rw [List.length_map]; omega) HNM.out
      have f3 := numsE_len (t.passes.map Pss.pub) HPB.out hpl.out
      have f4 := flat_attr t.passes (fun p hp => ⟨HB.out.few.ps p hp, HB.out.gs p hp⟩)
      have f5 := numsE_len t.revoked HRI.out hrx
      have f6 := recE_len HEB.out
      obtain ⟨FA, hFA⟩ : ∃ A, t.passes.flatMap attrE = A := ⟨_, rfl⟩
      obtain ⟨NS, hNS⟩ : ∃ A, t.passes.map Pss.name = A := ⟨_, rfl⟩
      obtain ⟨PS, hPS⟩ : ∃ A, t.passes.map Pss.pub = A := ⟨_, rfl⟩
      have HCX : Hid (ctxE t r = Wire.numsE [t.version, t.most, t.dare, t.quorum, t.jurors] ++ (Wire.textE t.question ++ (Wire.textsE NS ++ (Wire.numsE PS ++ (FA ++ (Wire.numsE t.revoked ++ recE r.bare)))))) := by show _ = _; rw [← hFA, ← hNS, ← hPS]; rfl
      rw [hFA] at f4
      rw [hNS] at f2 HRN HNM hnl
      rw [hPS] at f3 HRP HPB hpl
      rw [hFA]
      clear hFA hNS hPS
      have s1' : ¬ 9223372036854775807 < (Wire.numsE [t.version, t.most, t.dare, t.quorum, t.jurors]).length + (Wire.textE t.question).length := by omega
      have s2' : ¬ 9223372036854775807 < (Wire.numsE [t.version, t.most, t.dare, t.quorum, t.jurors]).length + (Wire.textE t.question).length + (Wire.textsE NS).length := by omega
      have s3' : ¬ 9223372036854775807 < (Wire.numsE [t.version, t.most, t.dare, t.quorum, t.jurors]).length + ((Wire.textE t.question).length + (Wire.textsE NS).length) + (Wire.numsE PS).length := by omega
      have s4' : ¬ 9223372036854775807 < (Wire.numsE [t.version, t.most, t.dare, t.quorum, t.jurors]).length + ((Wire.textE t.question).length + ((Wire.textsE NS).length + (Wire.numsE PS).length)) + FA.length := by omega
      have s5' : ¬ 9223372036854775807 < (Wire.numsE [t.version, t.most, t.dare, t.quorum, t.jurors]).length + ((Wire.textE t.question).length + ((Wire.textsE NS).length + ((Wire.numsE PS).length + FA.length))) + (Wire.numsE t.revoked).length := by omega
      have s6' : ¬ 9223372036854775807 < (Wire.numsE [t.version, t.most, t.dare, t.quorum, t.jurors]).length + ((Wire.textE t.question).length + ((Wire.textsE NS).length + ((Wire.numsE PS).length + (FA.length + (Wire.numsE t.revoked).length)))) + (recE r.bare).length := by omega
      clear O1 O2 HTY HRY kx HTX f0 f1 f2 f3 f4 f5 f6
      go_upto_region 12 with (fail)
      go_region_held3 (fun w' => Kept [] x w') (repeat (first | (with_reducible assumption) | (with_reducible exact Kept.refl _ _) | (with_reducible refine Kept.drew ?_) | (with_reducible refine Kept.alloc ?_ _)))
        (first
          | (go_at_call_of 83 (Value.slice p2 n2 c2); refine (kept_from (W := x) (by assumption) (nums_any _ PS _ (by exact HRP.out.kept (by assumption)) (by exact HEX.out.kept0 (by assumption)) hpl.out HPB.out)).mono ?_; rintro e w2 ⟨rfl, hk2⟩)
          | (go_at_call_of 83 (Value.slice vp t.revoked.length vc); refine (kept_from (W := x) (by assumption) (nums_any _ t.revoked _ (by exact HRR.out.kept (by assumption)) (by exact HEX.out.kept0 (by assumption)) hrx HRI.out)).mono ?_; rintro e w2 ⟨rfl, hk2⟩)
          | (go_at_call 83; refine (kept_from (W := x) (by assumption) (nums_any _ [t.version, t.most, t.dare, t.quorum, t.jurors] _ (by exact (Row.lit _ [t.version, t.most, t.dare, t.quorum, t.jurors] (by simp)).drew) (by exact HEX.out.kept0 (by assumption)) (by simp) (by exact H5I.out))).mono ?_; rintro e w2 ⟨rfl, hk2⟩)
          | (go_at_call 126; refine (kept_from (W := x) (by assumption) (texts_any _ NS _ (by exact HRN.out.kept (by assumption)) (by exact HEX.out.kept0 (by assumption)) hnl.out HNM.out)).mono ?_; rintro e w2 ⟨rfl, hk2⟩)
          | (go_at_call 84; refine (kept_from (W := x) (by assumption) (text_any t.question _ hqx (by exact HEX.out.kept0 (by assumption)))).mono ?_; rintro e w2 ⟨rfl, hk2⟩))
      rename_i hHeld
      go_wp2
      go_ret
      exact ⟨by rw [HCX.out]; simp, HX.out.trans hHeld⟩
end Go.Proofs.YtabiklpemoijcaaGreatDoor
