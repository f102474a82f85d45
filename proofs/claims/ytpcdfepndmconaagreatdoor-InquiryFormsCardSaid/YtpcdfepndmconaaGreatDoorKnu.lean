/- Division of two words by one, as math/bits does it: the arithmetic alone. -/
import Derived.Test.YtpcdfepndmconaaGreatDoorRows2
import Derived.Laws.OwnMore
import Derived.Maps.AppendAt
import Derived.Test.YtpcdfepndmconaaGreatDoorBallot
/- JOINED: App Pcl Knu -/
/- append onto a slice of the call's own: a row of ints behind it; where the new slice lies. -/
namespace Go.Proofs.YtpcdfepndmconaaGreatDoor
open Go.RowKit

/-- the block of a slice's array -/
def obl (v : Value) : List Nat := v.ownBlock.toList
theorem obl_some {v : Value} {k : Nat} (h : v.ownBlock = some k) : k ∈ obl v := by unfold obl; rw [h]; simp
theorem obl_mem {v : Value} {k : Nat} (h : k ∈ obl v) : v.ownBlock = some k := by unfold obl at h; simpa using h
theorem Kept.of_obl {w w' : World} {v : Value} (h : w.grownBy w' v.ownBlock) : Kept (obl v) w w' := Kept.of_grown h fun _ h => obl_some h
theorem own_ge {w : World} {B : Nat} {e : TypeId} {size n : Nat} {v : Value} {xs : List Value} (h : w.ownsRow B e size v n xs) : ∀ k ∈ obl v, B ≤ k ∧ k < w.heap.size := fun k hk => h.lt k (obl_mem hk)
theorem own_keep {w w' : World} {S : List Nat} {B : Nat} {e : TypeId} {size n : Nat} {v : Value} {xs : List Value} (h : w.ownsRow B e size v n xs) (k : Kept S w w') (hS : ∀ z ∈ obl v, z ∉ S) :
    w'.ownsRow B e size v n xs := by
  refine ⟨h.1, ?_⟩
  rcases h.2 with h1 | ⟨g', cap, cur, hv, hB, hb, r⟩
  · exact Or.inl h1
  · subst hv
    exact Or.inr ⟨g', cap, cur, rfl, hB, (k.block g' (Array.getElem?_eq_some_iff.1 hb).1 (hS g' (obl_some rfl))).trans hb, r⟩

section
variable {P : Program}
theorem run_append_nothing {w : World} (base : Nat) (t ty e : TypeId) (i : TypeInfo) (size : Nat) (ht : P.underlying t = some (.slice e)) (hi : P.info? e = some i)
    (v : Value) (n c : Nat) (xs : List Value) (hown : w.ownsRow base e size v n xs) :
    (Builtin.append_ #[t, t] ty #[v, .slice none 0 c]).run P w = .ok v w := by
  rcases hown.2 with ⟨rfl, rfl⟩ | ⟨g, cap, cur, rfl, _, _, hnc, _⟩
  · simp [Builtin.append_, run_underlying ht, sizeOf, typeInfo, hi, Builtin.lenOf, Builtin.firstCells]
  · simp [Builtin.append_, run_underlying ht, sizeOf, typeInfo, hi, Builtin.lenOf, Builtin.firstCells, hnc, storeCells]

theorem wp_append_row {w : World} {o : Oper} {a : Act} {K : Act → World → Prop} {Q : Exit → Act → World → Prop} (s x : Operand) (t : TypeId)
    (ho : o.op = .call { callee := .builtin .append, args := #[s, x], argTypes := #[t, t] })
    (base : Nat) (e : TypeId) (i : TypeInfo) (z : Value) (size bytes : Nat) (ht : P.underlying t = some (.slice e)) (hi : P.info? e = some i) (hz : i.zero = some z)
    (hsize : i.size = size) (hby : i.bytes = bytes) (hzs : z.cells.size = size) (hsz : 0 < size)
    (v : Value) (n : Nat) (xs : List Value) (hs : a.eval s = v) (hown : w.ownsRow base e size v n xs)
    (u : Value) (m : Nat) (news : List Value) (hx : a.eval x = u) (hrow : Row w size u m news) (h1 : ∀ u ∈ news, u.oneCell' = true)
    (h63 : n + m ≤ maxLen) (hbytes : (n + m) * bytes ≤ 140737488355328) (hbase : base ≤ w.heap.size)
    (h : ∀ a' c' w', w'.ownsRow base e size (.slice a' (n + m) c') (n + m) (xs ++ news) → Kept (obl v) w w' → (∀ k ∈ obl (.slice a' (n + m) c'), k ∈ obl v ∨ k = w.heap.size) → K (a.put o.dst (.slice a' (n + m) c')) w') : o.wp P a w K Q := by
  obtain ⟨hl, _, ad, c, rfl, _, hc⟩ := hrow
  cases ad with
  | none =>
    have hm : m = 0 := by
      rcases Nat.eq_zero_or_pos m with h | h
      · exact h
      · obtain ⟨b, off, hb, _⟩ := hc h
        cases hb
    subst hm
    have hn : news = [] := List.eq_nil_of_length_eq_zero (by simpa using hl)
    subst hn
    have hr := run_append_nothing (P := P) base t o.type e i size ht hi v n c xs hown
    obtain ⟨a', c', hv⟩ := own_form hown
    subst hv
    unfold Oper.wp execOp
    simp only [ho, resolve, invoke, builtin, Sem.run_bind, Sem.run_pure, Result.andThen_ok, List.map_toArray, List.map_cons, List.map_nil, hs, hx, hr]
    exact h a' c' w (by simpa using hown) (Kept.refl _ _) (fun k hk => Or.inl hk)
  | some ad =>
    have hnews : ∀ j u, news[j]? = some u → w.cell? (ad.add j) = some u := by
      intro j u hj
      rcases Nat.eq_zero_or_pos m with h | h
      · subst h
        have hn : news = [] := List.eq_nil_of_length_eq_zero (by simpa using hl)
        rw [hn] at hj
        simp at hj
      · obtain ⟨b, off, hb, hcell⟩ := hc h
        injection hb with hb
        subst hb
        rw [add_cell]
        exact hcell j u hj
    obtain ⟨v', w', hr, h2, h3, _, h5⟩ := run_append_own_at (P := P) w base t o.type e i z size bytes ht hi hz hsize hby hzs hsz v n xs hown ad m c news hl hnews h1 h63 hbytes hbase
    obtain ⟨a', c', hv⟩ := own_form h2
    subst hv
    unfold Oper.wp execOp
    simp only [ho, resolve, invoke, builtin, Sem.run_bind, Sem.run_pure, Result.andThen_ok, List.map_toArray, List.map_cons, List.map_nil, hs, hx, hr]
    refine h a' c' w' h2 (Kept.of_obl h3) (fun k hk => ?_)
    rcases h5 with h5 | h5
    · exact Or.inl (obl_some (h5 ▸ obl_mem hk))
    · have := obl_mem hk
      rw [h5] at this
      injection this with this
      exact Or.inr this.symm
end

/-- a row of ints behind a slice of ints -/
theorem wp_append_ints {w : World} {o : Oper} {a : Act} {K : Act → World → Prop} {Q : Exit → Act → World → Prop} (s x : Operand)
    (ho : o.op = .call { callee := .builtin .append, args := #[s, x], argTypes := #[24, 24] })
    (base : Nat) (v : Value) (n : Nat) (xs : List Int) (hs : a.eval s = v) (hown : w.ownsRow base 3 1 v n (ints xs))
    (u : Value) (m : Nat) (l : List Int) (hx : a.eval x = u) (hrow : Row w 1 u m (ints l)) (hsm : n + m ≤ 1000000000) (hbase : base ≤ w.heap.size)
    (h : ∀ a' c' w', w'.ownsRow base 3 1 (.slice a' (n + m) c') (n + m) (ints (xs ++ l)) → Kept (obl v) w w' → (∀ k ∈ obl (.slice a' (n + m) c'), k ∈ obl v ∨ k = w.heap.size) → K (a.put o.dst (.slice a' (n + m) c')) w') : o.wp Tryz.prog a w K Q := by
  obtain ⟨i0, hi, hz0, hz1, hz2⟩ := info_parts infoInt
  refine wp_append_row s x 24 ho base 3 i0 (.int .i64 0) 1 8 Tryz.underlying24 hi hz0 hz1 hz2 rfl (by decide) v n (ints xs) hs hown u m (ints l) hx hrow ?_ (by unfold maxLen; omega) (by omega) hbase ?_
  · intro u hu
    obtain ⟨y, _, rfl⟩ := List.mem_map.1 hu
    rfl
  · rw [← show ints (xs ++ l) = ints xs ++ ints l by simp [ints]]
    exact h
theorem wpList_append_ints {w : World} {ops : Array Oper} {rest : List Oper} {o : Oper} {a : Act} {Q : Exit → Act → World → Prop} (hgd : o.guard = none) (s x : Operand)
    (ho : o.op = .call { callee := .builtin .append, args := #[s, x], argTypes := #[24, 24] })
    (base : Nat) (v : Value) (n : Nat) (xs : List Int) (hs : a.eval s = v) (hown : w.ownsRow base 3 1 v n (ints xs))
    (u : Value) (m : Nat) (l : List Int) (hx : a.eval x = u) (hrow : Row w 1 u m (ints l)) (hsm : n + m ≤ 1000000000) (hbase : base ≤ w.heap.size)
    (h : ∀ a' c' w', w'.ownsRow base 3 1 (.slice a' (n + m) c') (n + m) (ints (xs ++ l)) → Kept (obl v) w w' → (∀ k ∈ obl (.slice a' (n + m) c'), k ∈ obl v ∨ k = w.heap.size) → wpList Tryz.prog ops Q rest (a.put o.dst (.slice a' (n + m) c')) w') :
    wpList Tryz.prog ops Q (o :: rest) a w :=
  wpList_plain hgd fun _ hK => wp_append_ints s x ho base v n xs hs hown u m l hx hrow hsm hbase fun a' c' w' h2 h3 h4 => hK _ _ (h a' c' w' h2 h3 h4)
theorem step_append_ints {w : World} {ops : Array Oper} {o : Oper} {a : Act} {K : Act → World → Prop} {Q : Exit → Act → World → Prop} {E : Prop} (hgd : o.guard = none) (s x : Operand)
    (ho : o.op = .call { callee := .builtin .append, args := #[s, x], argTypes := #[24, 24] })
    (base : Nat) (v : Value) (n : Nat) (xs : List Int) (hs : a.eval s = v) (hown : w.ownsRow base 3 1 v n (ints xs))
    (u : Value) (m : Nat) (l : List Int) (hx : a.eval x = u) (hrow : Row w 1 u m (ints l)) (hsm : n + m ≤ 1000000000) (hbase : base ≤ w.heap.size)
    (h : ∀ a' c' w', w'.ownsRow base 3 1 (.slice a' (n + m) c') (n + m) (ints (xs ++ l)) → Kept (obl v) w w' → (∀ k ∈ obl (.slice a' (n + m) c'), k ∈ obl v ∨ k = w.heap.size) → K (a.put o.dst (.slice a' (n + m) c')) w') :
    if Region.wanted o (yielded ops a.tmps) = true then Oper.wp Tryz.prog o a w K Q else E := by
  rw [if_pos (by simp [Region.wanted, hgd])]
  exact wp_append_ints s x ho base v n xs hs hown u m l hx hrow hsm hbase h

/-- the row that a slice literal lays -/
theorem Row.lit (w : World) (l : List Int) (hl : l.length ≤ 1000) : Row (w.alloc (.cells (ints l).toArray 3)) 1 (.slice (some ⟨w.heap.size, 0, none⟩) l.length l.length) l.length (ints l) :=
  row_of_blk (Blk.new w 3 (ints l).toArray) (by simp [ints]) (by omega)
/-- a fixed answer, all old memory kept -/
def Ret (v : Value) (w : World) (e : Ending) (w' : World) : Prop := e = .returned v ∧ Kept [] w w'
theorem Kept.cell0 {S : List Nat} {w0 w1 w' : World} {p : Addr} {v : Value} (k : Kept S w1 w') (h : w0.cell? p = some v) (h0 : Kept [] w0 w1) (hS : ∀ z ∈ S, w0.heap.size ≤ z) : w'.cell? p = some v :=
  ((h0.fresh k hS).cell (World.block_lt_of_cell? w0 p h) (by simp)).trans h
/-- the one cell of an element of size one -/
theorem RowOf.one {α : Type} {R : World → List Value → α → Prop} {w : World} {a : Option Addr} {n c : Nat} {l : List α} (h : RowOf R 1 w (.slice a n c) l) (k : Nat) (hk : k < l.length) :
    ∃ b off v, a = some ⟨b, off, none⟩ ∧ w.cell? ⟨b, off + k, none⟩ = some v ∧ R w [v] l[k] := by
  obtain ⟨b, off, rfl, hc⟩ := h.at_ (by omega)
  obtain ⟨cs, h1, h2, h3⟩ := hc k _ (List.getElem?_eq_getElem hk)
  obtain ⟨v, rfl⟩ : ∃ v, cs = [v] := by
    rcases cs with _ | ⟨v, _ | ⟨u, t⟩⟩
    · cases h1
    · exact ⟨v, rfl⟩
    · simp at h1
  have := h3 0 v (by omega) rfl
  rw [Nat.mul_one, Nat.add_zero] at this
  exact ⟨b, off, v, rfl, this, h2⟩
end Go.Proofs.YtpcdfepndmconaaGreatDoor
/- slices.Clone at points; the length of a ballot; a vote whose signature is known. -/
namespace Go.Proofs.YtpcdfepndmconaaGreatDoor
open Go.RowKit

theorem infoPt : (Tryz.prog.info? 78).map (fun i => (i.zero, i.size, i.bytes)) = some (some (.agg #[.int .i64 0, .int .i64 0, .int .i64 0]), 3, 24) := by kernel_rfl
theorem wpList_append_pts {w : World} {ops : Array Oper} {rest : List Oper} {o : Oper} {a : Act} {Q : Exit → Act → World → Prop} (hgd : o.guard = none) (s x : Operand)
    (ho : o.op = .call { callee := .builtin .append, args := #[s, x], argTypes := #[31, 31] })
    (base : Nat) (v : Value) (hs : a.eval s = v) (hown : w.ownsRow base 78 3 v 0 [])
    (u : Value) (m : Nat) (l : List Int) (hx : a.eval x = u) (hrow : Row w 3 u m (ints l)) (hsm : m ≤ 1000000000) (hbase : base ≤ w.heap.size)
    (h : ∀ a' c' w', w'.ownsRow base 78 3 (.slice a' m c') m (ints l) → Kept (obl v) w w' → wpList Tryz.prog ops Q rest (a.put o.dst (.slice a' m c')) w') :
    wpList Tryz.prog ops Q (o :: rest) a w := by
  obtain ⟨i0, hi, hz0, hz1, hz2⟩ := info_parts infoPt
  refine wpList_plain hgd fun _ hK => wp_append_row s x 31 ho base 78 i0 (.agg #[.int .i64 0, .int .i64 0, .int .i64 0]) 3 24 Tryz.underlying31 hi hz0 hz1 hz2 rfl (by decide) v 0 [] hs hown u m (ints l) hx hrow ?_ (by unfold maxLen; omega) (by omega) hbase ?_
  · intro u hu
    obtain ⟨y, _, rfl⟩ := List.mem_map.1 hu
    rfl
  · intro a' c' w' h2 h3 _
    rw [Nat.zero_add, List.nil_append] at h2
    rw [Nat.zero_add]
    exact hK _ _ (h a' c' w' h2 h3)

def ClonePts (l : List Int) (n : Nat) (w : World) (e : Ending) (w' : World) : Prop := ∃ a c, e = .returned (.slice a n c) ∧ w'.ownsRow w.heap.size 78 3 (.slice a n c) n (ints l) ∧ Kept [] w w'

set_option maxRecDepth 100000 in
set_option maxHeartbeats 1000000 in
theorem clone_pts (v : Value) (n : Nat) (l : List Int) (w : World) (h : Row w 3 v n (ints l)) (hn : n ≤ 1000000000) :
    Calls Tryz.prog 57 #[v] w (ClonePts l n w) := by
  obtain ⟨a, c, rfl, _, _⟩ := h.form
  have HH := Lib.hid h
  have HL : Hid (l.length = n * 3) := by show _ = _; simpa [ints] using h.1
  have q31 : ∀ (w : World) (a : Option Addr) (n c n' c' : Nat), (binOp .eql 31 (.slice a n c) (.slice none n' c')).run Tryz.prog w = .ok (.bool a.isNone) w := fun w a n c n' c' => Lib.run_eql_slice_nil w _ _ a n c n' c' Tryz.underlying31
  clear h
  cases a with
  | none =>
    have h0 : Hid (n = 0) := by
      show n = 0
      rcases Nat.eq_zero_or_pos n with h0 | hp
      · exact h0
      · obtain ⟨b, off, ha, _⟩ := HH.out.at_ hp
        cases ha
    go_enter Tryz.func57, Tryz.ntmps57
    go_wp2_with fail
    go_ret
    have hl : l = [] := List.eq_nil_of_length_eq_zero (by rw [HL.out, h0.out])
    rw [h0.out, hl]
    exact ⟨none, 0, rfl, by simpa [ints] using World.ownsRow_nil _ _ _ _, Kept.refl _ _⟩
  | some ad =>
    go_enter Tryz.func57, Tryz.ntmps57
    go_wp2_with (at_builtin; refine wpList_append_pts rfl _ _ rfl w.heap.size _ rfl (World.ownsRow_made w #[] 0 (Nat.le_refl _) (Nat.zero_le _) rfl) (.slice (some ad) n c) n l rfl (HH.out.kept ((Kept.refl [] w).alloc _)) hn (by simp) ?_)
    intro a' c' w1 hown hk
    go_wp2
    go_ret
    exact ⟨a', c', rfl, hown, ((Kept.refl [] w).alloc _).fresh hk (fun k hk => (own_ge (World.ownsRow_made w #[] 0 (Nat.le_refl _) (Nat.zero_le _) rfl : World.ownsRow _ w.heap.size 78 3 _ 0 []) k hk).1)⟩

theorem ballot_len (x : Vote) (w : World) (v : Value) (h : VoteV w v x) (hr : x.reason.length ≤ 1000000) (hp : x.pts.length ≤ 900000) : (ballotE x).length ≤ 50000000 := by
  have h4 : ∀ n ∈ [x.juror, x.version, x.gate, x.no], Wire.I64 n := by
    intro n hn
    simp only [List.mem_cons, List.not_mem_nil, or_false] at hn
    rcases hn with rfl | rfl | rfl | rfl
    · exact h.h0
    · exact h.h1
    · exact h.h2
    · exact h.h3
  have l0 := flat_len _ h4
  have l1 := flat_len x.pts h.hp
  have i0 := Wire.itoa_len (4 : Int) ⟨by omega, by omega⟩
  have i1 := Wire.itoa_len (x.reason.length : Int) ⟨by omega, by omega⟩
  have i2 := Wire.itoa_len (x.pts.length : Int) ⟨by omega, by omega⟩
  simp only [ballotE, Wire.numsE, Wire.listE, Wire.textE, List.length_append, List.length_cons, List.length_nil] at l0 l1 i0 i1 i2 ⊢
  simp only [show ((0 + 1 + 1 + 1 + 1 : Nat) : Int) = 4 from rfl] at *
  omega

/-- a vote whose signature is known -/
structure VoteX (w : World) (v : Value) (x : Vote) (c s : Int) : Prop where
  form : ∃ ps n, v = .agg #[.int .i64 x.juror, .int .i64 x.version, .int .i64 x.gate, .int .i64 x.no, .string ⟨x.reason.toArray⟩, ps, .int .i64 c, .int .i64 s] ∧ Row w 3 ps n (ints x.pts)
  h0 : Wire.I64 x.juror
  h1 : Wire.I64 x.version
  h2 : Wire.I64 x.gate
  h3 : Wire.I64 x.no
  hp : ∀ n ∈ x.pts, Wire.I64 n
theorem VoteX.v {w : World} {v : Value} {x : Vote} {c s : Int} (h : VoteX w v x c s) : VoteV w v x := by
  obtain ⟨⟨ps, n, a, b⟩, h0, h1, h2, h3, hp⟩ := h
  exact ⟨⟨ps, n, c, s, a, b⟩, h0, h1, h2, h3, hp⟩
theorem VoteX.kept {w w' : World} {v : Value} {x : Vote} {c s : Int} (h : VoteX w v x c s) (k : Kept [] w w') : VoteX w' v x c s := by
  obtain ⟨⟨ps, n, hv, hr⟩, a, b, c', d, e⟩ := h
  exact ⟨⟨ps, n, hv, hr.kept k⟩, a, b, c', d, e⟩
def zeroVt : Vote := ⟨0, 0, 0, 0, [], []⟩
def zerosVt : Array Value := #[.int .i64 0, .int .i64 0, .int .i64 0, .int .i64 0, .string ⟨#[]⟩, .slice none 0 0, .int .i64 0, .int .i64 0]
theorem voteX_zero (w : World) : VoteX w (.agg zerosVt) zeroVt 0 0 :=
  ⟨⟨_, 0, rfl, by simpa [zeroVt, ints] using Row.none_ w 3⟩, ⟨by decide, by decide⟩, ⟨by decide, by decide⟩, ⟨by decide, by decide⟩, ⟨by decide, by decide⟩, by simp [zeroVt]⟩
end Go.Proofs.YtpcdfepndmconaaGreatDoor
namespace Go.Knu

/-- one step of the division by halves: the state of the loop -/
structure St (Y yn1 yn0 u un1 q rh : Nat) : Prop where
  hy : Y = yn1 * 4294967296 + yn0
  hy1 : 2147483648 ≤ yn1
  hy1' : yn1 < 4294967296
  hy0 : yn0 < 4294967296
  hu : u < Y
  h1 : un1 < 4294967296
  hq : (u * 4294967296 + un1) / Y ≤ q
  hr : q * yn1 + rh = u

theorem St.start {Y yn1 yn0 u un1 : Nat} (hy : Y = yn1 * 4294967296 + yn0) (hy1 : 2147483648 ≤ yn1) (hy1' : yn1 < 4294967296) (hy0 : yn0 < 4294967296) (hu : u < Y) (h1 : un1 < 4294967296) :
    St Y yn1 yn0 u un1 (u / yn1) (u % yn1) := by
  refine ⟨hy, hy1, hy1', hy0, hu, h1, ?_, by rw [Nat.mul_comm]; exact Nat.div_add_mod u yn1⟩
  -- N / Y ≤ u / yn1
  have hY : 0 < Y := by omega
  refine (Nat.div_le_iff_le_mul_add_pred hY).2 ?_
  -- N ≤ Y * (u / yn1) + (Y - 1)
  have e := Nat.div_add_mod u yn1
  have hm := Nat.mod_lt u (show 0 < yn1 by omega)
  generalize u / yn1 = k at *
  generalize u % yn1 = r at *
  subst hy
  rw [Nat.add_mul]
  have : yn1 * 4294967296 * k = (yn1 * k) * 4294967296 := by rw [Nat.mul_right_comm]
  rw [this, ← e, Nat.add_mul]
  have h3 : 0 ≤ yn0 * k := Nat.zero_le _
  generalize yn1 * k = p at *
  generalize yn0 * k = t at *
  omega

theorem St.q_lt {Y yn1 yn0 u un1 q rh : Nat} (h : St Y yn1 yn0 u un1 q rh) : q ≤ 4294967297 := by
  obtain ⟨hy, hy1, hy1', hy0, hu, h1, hq, hr⟩ := h
  rcases Nat.lt_or_ge 4294967297 q with h | h
  · have : 4294967298 * yn1 ≤ q * yn1 := Nat.mul_le_mul_right _ (by omega)
    omega
  · exact h

theorem St.big {Y yn1 yn0 u un1 q rh : Nat} (h : St Y yn1 yn0 u un1 q rh) (hb : 4294967296 ≤ rh) : q < 4294967296 := by
  obtain ⟨hy, hy1, hy1', hy0, hu, h1, hq, hr⟩ := h
  rcases Nat.lt_or_ge q 4294967296 with h | h
  · exact h
  · have : 4294967296 * yn1 ≤ q * yn1 := Nat.mul_le_mul_right _ h
    omega

theorem St.qlt {Y yn1 yn0 u un1 q rh : Nat} (h : St Y yn1 yn0 u un1 q rh) : (u * 4294967296 + un1) / Y < 4294967296 := by
  obtain ⟨hy, hy1, hy1', hy0, hu, h1, hq, hr⟩ := h
  refine Nat.div_lt_of_lt_mul ?_
  have : (u + 1) * 4294967296 ≤ Y * 4294967296 := Nat.mul_le_mul_right _ hu
  omega

theorem split {Y yn1 yn0 u un1 q rh : Nat} (hy : Y = yn1 * 4294967296 + yn0) (hr : q * yn1 + rh = u) :
    q * Y + (rh * 4294967296 + un1) = (u * 4294967296 + un1) + q * yn0 := by
  subst hy hr
  rw [Nat.mul_add, Nat.add_mul, ← Nat.mul_assoc]
  omega

/-- the loop's test is false: the quotient is exact -/
theorem St.done {Y yn1 yn0 u un1 q rh : Nat} (h : St Y yn1 yn0 u un1 q rh) (hc : q * yn0 ≤ rh * 4294967296 + un1) : q = (u * 4294967296 + un1) / Y := by
  obtain ⟨hy, hy1, hy1', hy0, hu, h1, hq, hr⟩ := h
  have e := split (un1 := un1) hy hr
  have hle : q * Y ≤ u * 4294967296 + un1 := by omega
  have := (Nat.le_div_iff_mul_le (show 0 < Y by omega)).2 hle
  omega

theorem ar1 {a b N R : Nat} (e : a + R = N + b) (h : R < b) : N < a := by omega
/-- the loop's test is true: one less -/
theorem St.step {Y yn1 yn0 u un1 q rh : Nat} (h : St Y yn1 yn0 u un1 q rh) (hc : 4294967296 ≤ q ∨ rh * 4294967296 + un1 < q * yn0) : 1 ≤ q ∧ St Y yn1 yn0 u un1 (q - 1) (rh + yn1) := by
  have hql := h.qlt
  obtain ⟨hy, hy1, hy1', hy0, hu, h1, hq, hr⟩ := h
  have hlt : (u * 4294967296 + un1) / Y < q := by
    rcases hc with hc | hc
    · omega
    · refine (Nat.div_lt_iff_lt_mul (show 0 < Y by omega)).2 ?_
      have e := split (un1 := un1) hy hr
      exact ar1 e hc
  have hq1 : 1 ≤ q := Nat.lt_of_le_of_lt (Nat.zero_le _) hlt
  refine ⟨hq1, hy, hy1, hy1', hy0, hu, h1, Nat.le_sub_one_of_lt hlt, ?_⟩
  have : q * yn1 = (q - 1) * yn1 + yn1 := by
    conv => lhs; rw [show q = (q - 1) + 1 by omega, Nat.add_mul, Nat.one_mul]
  omega

/-- behind a step, with a remainder of more than a half word -/
theorem St.broke {Y yn1 yn0 u un1 q rh : Nat} (h : St Y yn1 yn0 u un1 q rh) (hb : 4294967296 ≤ rh) : q = (u * 4294967296 + un1) / Y := by
  have hql := h.big hb
  refine h.done ?_
  have : q * yn0 ≤ 4294967295 * 4294967295 := Nat.mul_le_mul (by omega) (by have := h.hy0; omega)
  have : 4294967296 * 4294967296 ≤ rh * 4294967296 := Nat.mul_le_mul_right _ hb
  omega

theorem rest {N Y q : Nat} (hq : q = N / Y) : q * Y ≤ N ∧ N - q * Y = N % Y := by
  subst hq
  have := Nat.div_add_mod N Y
  rw [Nat.mul_comm] at this
  constructor <;> omega

theorem ar2 {a b D : Nat} (e : a * 18446744073709551616 + b = D) : (a * 4294967296 + b / 4294967296) * 4294967296 + b % 4294967296 = D := by
  have hb := Nat.div_add_mod b 4294967296
  have h1 : a * 18446744073709551616 = a * 4294967296 * 4294967296 := by rw [Nat.mul_assoc]
  rw [Nat.add_mul, Nat.add_assoc, Nat.mul_comm (b / 4294967296), hb, ← h1, e]
/-- two steps: the remainder of the scaled numbers, scaled back -/
theorem two {hi lo y s un32 un10 un21 : Nat} (e1 : un32 * 18446744073709551616 + un10 = (hi * 18446744073709551616 + lo) * 2 ^ s) 
    (e2 : un21 = (un32 * 4294967296 + un10 / 4294967296) % (y * 2 ^ s)) :
    (un21 * 4294967296 + un10 % 4294967296) % (y * 2 ^ s) / 2 ^ s = (hi * 18446744073709551616 + lo) % y := by
  have e3 : (un21 * 4294967296 + un10 % 4294967296) % (y * 2 ^ s) = ((hi * 18446744073709551616 + lo) * 2 ^ s) % (y * 2 ^ s) := by
    generalize y * 2 ^ s = Z at *
    subst e2
    have hg : ∀ M H : Nat, M % Z * H % Z = M * H % Z := fun M H => Nat.mod_mul_mod M H Z
    have h := hg (un32 * 4294967296 + un10 / 4294967296) 4294967296
    have h2 : (un32 * 4294967296 + un10 / 4294967296) * 4294967296 + un10 % 4294967296 = (hi * 18446744073709551616 + lo) * 2 ^ s := ar2 e1
    rw [Nat.add_mod, h, ← Nat.add_mod, h2]
  rw [e3, Nat.mul_mod_mul_right, Nat.mul_div_cancel _ (Nat.two_pow_pos s)]

/-- the shifted halves -/
theorem shifted {hi lo s : Nat} (hs : s ≤ 64) : (hi * 2 ^ s + lo / 2 ^ (64 - s)) * 18446744073709551616 + lo * 2 ^ s % 18446744073709551616 = (hi * 18446744073709551616 + lo) * 2 ^ s := by
  have e : lo * 2 ^ s / 18446744073709551616 = lo / 2 ^ (64 - s) := by
    have h2 : 18446744073709551616 = 2 ^ (64 - s) * 2 ^ s := by rw [← Nat.pow_add, show 64 - s + s = 64 by omega]
    rw [h2, Nat.mul_div_mul_right _ _ (Nat.two_pow_pos s)]
  have h3 := Nat.div_add_mod (lo * 2 ^ s) 18446744073709551616
  rw [e] at h3
  have h4 : (hi * 18446744073709551616 + lo) * 2 ^ s = hi * 2 ^ s * 18446744073709551616 + lo * 2 ^ s := by rw [Nat.add_mul, Nat.mul_right_comm hi]
  rw [h4, Nat.add_mul, Nat.add_assoc]
  refine congrArg _ ?_
  rw [Nat.mul_comm (lo / 2 ^ (64 - s))]
  exact h3

/-- the halves' or is their sum -/
theorem or_add {a b s : Nat} (hb : b < 2 ^ s) : a * 2 ^ s ||| b = a * 2 ^ s + b := by
  rw [Nat.mul_comm a (2 ^ s), Nat.two_pow_add_eq_or_of_lt hb]
theorem div_lt {lo s : Nat} (hl : lo < 18446744073709551616) (hs : s ≤ 64) : lo / 2 ^ (64 - s) < 2 ^ s := by
  rw [Nat.div_lt_iff_lt_mul (Nat.two_pow_pos _), ← Nat.pow_add, show s + (64 - s) = 64 by omega]
  exact hl
theorem un_lt {hi lo y s : Nat} (hh : hi < y) (hl : lo < 18446744073709551616) (hs : s ≤ 64) : hi * 2 ^ s + lo / 2 ^ (64 - s) < y * 2 ^ s := by
  have h1 := div_lt hl hs
  have h2 : (hi + 1) * 2 ^ s ≤ y * 2 ^ s := Nat.mul_le_mul_right _ hh
  rw [Nat.add_mul, Nat.one_mul] at h2
  generalize lo / 2 ^ (64 - s) = a at *
  generalize hi * 2 ^ s = b at *
  generalize y * 2 ^ s = c at *
  omega
end Go.Knu
