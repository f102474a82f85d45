/- The methods of show's row: list, ticket, spend. -/
import Derived.Test.YtabiklpemoijcaaGreatDoorSize
import Derived.Test.YtabiklpemoijcaaGreatDoorApp
import Derived.Outline
/- JOINED: DecP Tp Stb Row Row2 -/
/- The plain law of reading: what the loops of Decode keep. -/
namespace Go.Proofs.YtabiklpemoijcaaGreatDoor.Tape
open Wire (I64)

theorem times_zero {α : Type} (one : Tp → α × Tp) (r : Tp) (acc : List α) : times one 0 r acc = (acc, r) := rfl
theorem times_succ {α : Type} (one : Tp → α × Tp) (n : Nat) (r : Tp) (acc : List α) : times one (n + 1) r acc = times one n (one r).2 (acc ++ [(one r).1]) := rfl
theorem times_pre {α : Type} (one : Tp → α × Tp) : ∀ (n : Nat) (r : Tp) (acc : List α), ∃ l, (times one n r acc).1 = acc ++ l
  | 0, _, acc => ⟨[], by simp [times]⟩
  | n + 1, r, acc => by
    obtain ⟨l, hl⟩ := times_pre one n (one r).2 (acc ++ [(one r).1])
    exact ⟨(one r).1 :: l, by rw [times, hl]; simp⟩

/-- how much is left: each round reads on -/
theorem list_le (r : Tp) : (list r).2.left.length ≤ r.left.length := list_codec.le r
theorem list_len (r : Tp) : (list r).1.length ≤ r.left.length := by
  unfold list
  have := count_le r
  simp only [List.length_take]
  omega

theorem total_app (a b : List (List Lnk)) : total (a ++ b) = total a + total b := by
  induction a with
  | nil => simp [total]
  | cons x a ih => simp only [List.cons_append, total, ih]; omega

/-- the terms run out ahead of the links -/
theorem total_out {m m' : Nat} {r' : Tp} {accL : List (List (Lnk × List UInt8))} {acc : List (Lnk × List UInt8)} {fin : List (List Lnk) × Tp} {ts : List (List UInt8)}
    {li : List Lnk × Tp} (hli : times lnk (m' + 1) r' (acc.map Prod.fst) = li) (hf : times (many lnk) m li.2 (strip accL ++ [li.1]) = fin) (ht : terms accL ++ acc.map Prod.snd = ts) : ts.length < total fin.1 := by
  obtain ⟨l, hl⟩ := times_pre (many lnk) m li.2 (strip accL ++ [li.1])
  rw [hf] at hl
  have h1 : li.1.length = acc.length + (m' + 1) := by rw [← hli, times_len]; simp
  rw [hl, total_app, total_app, total_strip, ← ht]
  simp only [total, List.length_append, List.length_map]
  omega

theorem strip_snoc (a : List (List (Lnk × List UInt8))) (x : List (Lnk × List UInt8)) : strip (a ++ [x]) = strip a ++ [x.map Prod.fst] := by simp [strip]
theorem terms_snoc (a : List (List (Lnk × List UInt8))) (x : List (Lnk × List UInt8)) : terms (a ++ [x]) = terms a ++ x.map Prod.snd := by simp [terms]

/-- a list of a record reads back from its parts: the terms are all used -/
theorem attach_of {accL : List (List (Lnk × List UInt8))} {lk : List (List Lnk)} {ts : List (List UInt8)} (h1 : strip accL = lk) (h2 : terms accL = ts) : attach lk ts = accL ∧ total lk = ts.length := by
  subst h1 h2
  exact ⟨attach_strip accL, total_strip accL⟩
end Go.Proofs.YtabiklpemoijcaaGreatDoor.Tape
/- Numbers read one after the other: the state in memory. -/
namespace Go.Proofs.YtabiklpemoijcaaGreatDoor
open Go.RowKit Tape

/-- ints behind one another in block g -/
def Src (w : World) (g : Nat) (a : Option Addr) (c : Nat) (l : List Int) : Prop :=
  l.length ≤ c ∧ l.length ≤ 9223372036854775807 ∧ (0 < l.length → ∃ off, a = some ⟨g, off, none⟩ ∧ ∀ (k : Nat) n, l[k]? = some n → w.cell? ⟨g, off + k, none⟩ = some (.int .i64 n))
section
variable {w w' : World} {g : Nat} {a : Option Addr} {c : Nat} {l : List Int} {S : List Nat}
theorem Src.keep (h : Src w g a c l) (k : Kept S w w') (hg : g ∉ S) : Src w' g a c l := by
  refine ⟨h.1, h.2.1, fun hp => ?_⟩
  obtain ⟨off, ha, hc⟩ := h.2.2 hp
  refine ⟨off, ha, fun i n hn => ?_⟩
  have := hc i n hn
  exact (k.cell (World.block_lt_of_cell? w _ this) hg).trans this
theorem Src.row (h : Src w g a c l) : Row w 1 (.slice a l.length c) l.length (ints l) := by
  refine ⟨by simp [ints], h.2.1, a, c, rfl, h.1, fun hp => ?_⟩
  obtain ⟨off, ha, hc⟩ := h.2.2 hp
  refine ⟨g, off, ha, fun i u hu => ?_⟩
  have : ∃ n, l[i]? = some n ∧ Value.int .i64 n = u := by
    simpa [ints] using hu
  obtain ⟨n, hn, rfl⟩ := this
  exact hc i n hn
theorem Src.of_own {B : Nat} (h : w.ownsRow B 3 1 (.slice a l.length c) l.length (ints l)) (hl : l.length ≤ 9223372036854775807) : ∃ g, Src w g a c l ∧ (g = 0 ∨ (B ≤ g ∧ g < w.heap.size)) := by
  rcases Nat.eq_zero_or_pos l.length with h0 | hp
  · have := List.eq_nil_of_length_eq_zero h0
    subst this
    exact ⟨0, ⟨Nat.zero_le _, by simp, fun h => absurd h (by simp)⟩, Or.inl rfl⟩
  · have hr := Row.of_own h hl
    obtain ⟨b, off, ha, hc⟩ := hr.at_ hp
    refine ⟨b, ⟨(hr.form).elim (fun a h => h.elim fun c h => by have := h.1; injection this with _ _ e; omega), hl, fun _ => ⟨off, ha, fun k n hn => hc k _ ?_⟩⟩, Or.inr ?_⟩
    · simp [ints, hn]
    · exact own_ge h b (by subst ha; unfold obl; simp [Value.ownBlock])
theorem Src.nil_ (w : World) (g : Nat) : Src w g none 0 [] := ⟨Nat.zero_le _, by simp, fun h => absurd h (by simp)⟩
theorem Src.empty (w : World) (g : Nat) (a : Option Addr) (c : Nat) : Src w g a c [] := ⟨Nat.zero_le _, by simp, fun h => absurd h (by simp)⟩
/-- the rest behind the first m -/
theorem Src.drop (h : Src w g a c l) (m : Nat) (hm : m ≤ l.length) (a' : Option Addr) (ha : m < l.length → ∀ off, a = some ⟨g, off, none⟩ → a' = some ⟨g, off + m, none⟩) : Src w g a' (c - m) (l.drop m) := by
  refine ⟨by rw [List.length_drop]; have := h.1; omega, by rw [List.length_drop]; have := h.2.1; omega, fun hp => ?_⟩
  rw [List.length_drop] at hp
  obtain ⟨off, ho, hc⟩ := h.2.2 (by omega)
  refine ⟨off + m, ha (by omega) off ho, fun k n hn => ?_⟩
  rw [List.getElem?_drop] at hn
  rw [Nat.add_assoc]
  exact hc _ _ hn
/-- the first m -/
theorem Src.take (h : Src w g a c l) (m : Nat) (hm : m ≤ l.length) : Src w g a c (l.take m) := by
  refine ⟨by rw [List.length_take]; have := h.1; omega, by rw [List.length_take]; have := h.2.1; omega, fun hp => ?_⟩
  rw [List.length_take] at hp
  obtain ⟨off, ho, hc⟩ := h.2.2 (by omega)
  refine ⟨off, ho, fun k n hn => hc _ _ ?_⟩
  rw [List.getElem?_take] at hn
  split at hn
  · exact hn
  · cases hn
end

/-- what reads numbers one after the other -/
structure TpAt (T : TypeId) (w : World) (b g : Nat) (r : Tp) : Prop where
  st : ∃ a c, Blk w b T #[.slice a r.left.length c, .bool r.bad] ∧ Src w g a c r.left
  ne : b ≠ g
theorem TpAt.keep {T : TypeId} {w w' : World} {b g : Nat} {r : Tp} {S : List Nat} (h : TpAt T w b g r) (k : Kept S w w') (hb : b ∉ S) (hg : g ∉ S) : TpAt T w' b g r := by
  obtain ⟨a, c, h1, h2⟩ := h.st
  exact ⟨⟨a, c, h1.kept k hb, h2.keep k hg⟩, h.ne⟩
theorem TpAt.lt {T : TypeId} {w : World} {b g : Nat} {r : Tp} (h : TpAt T w b g r) : b < w.heap.size := by
  obtain ⟨a, c, h1, h2⟩ := h.st
  exact h1.lt
end Go.Proofs.YtabiklpemoijcaaGreatDoor
/- Rows that grow: what is finished stays as it is while some blocks change. -/
namespace Go.Proofs.YtabiklpemoijcaaGreatDoor
open Go.RowKit Tape

/-- it holds whatever becomes of the blocks of X, and of new ones -/
def Stable (X : List Nat) (P : World → Prop) (w : World) : Prop := ∀ S w', Kept S w w' → (∀ z ∈ S, z < w.heap.size → z ∈ X) → P w'
section
variable {X X' S : List Nat} {P Q : World → Prop} {w w' : World}
theorem Stable.get (h : Stable X P w) : P w := h [] w (Kept.refl _ _) (by simp)
theorem Stable.step (h : Stable X P w) (k : Kept S w w') (hS : ∀ z ∈ S, z < w.heap.size → z ∈ X) (hX : ∀ z ∈ X', z ∈ X ∨ w.heap.size ≤ z) : Stable X' P w' := fun S' w'' k' hS' =>
  h (S ++ S') w'' ((k.mono fun z _ hz => List.mem_append_left _ hz).then_ k' fun z _ hz => List.mem_append_right _ hz) fun z hz hlt => by
    rcases List.mem_append.1 hz with h1 | h1
    · exact hS z h1 hlt
    · have := k.size
      rcases hX z (hS' z h1 (by omega)) with h2 | h2
      · exact h2
      · omega
theorem Stable.less (h : Stable X P w) (hX : ∀ z ∈ X', z ∈ X ∨ w.heap.size ≤ z) : Stable X' P w := h.step (Kept.refl [] _) (by simp) hX
theorem Stable.imp (h : Stable X P w) (hPQ : ∀ w, P w → Q w) : Stable X Q w := fun S w' k hS => hPQ _ (h S w' k hS)
theorem Stable.and (h : Stable X P w) (k : Stable X Q w) : Stable X (fun w => P w ∧ Q w) w := fun S w' kk hS => ⟨h S w' kk hS, k S w' kk hS⟩
theorem Stable.const {p : Prop} (h : p) : Stable X (fun _ => p) w := fun _ _ _ _ => h
theorem Stable.own {B : Nat} {e : TypeId} {size n : Nat} {v : Value} {xs : List Value} (h : w.ownsRow B e size v n xs) (hX : ∀ z ∈ obl v, z ∉ X) : Stable X (fun w => w.ownsRow B e size v n xs) w := fun _ _ k hS =>
  own_keep h k fun z hz hm => hX z hz (hS z hm (own_ge h z hz).2)
theorem Stable.row {B : Nat} {e : TypeId} {size n : Nat} {v : Value} {xs : List Value} (h : w.ownsRow B e size v n xs) (hX : ∀ z ∈ obl v, z ∉ X) (hn : n ≤ 9223372036854775807) : Stable X (fun w => Row w size v n xs) w :=
  (Stable.own h hX).imp fun _ h => Row.of_own h hn
end

/-- the cells of the members of a list -/
def Elems {α : Type} (R : World → List Value → α → Prop) (m : Nat) (vs : List (List Value)) (l : List α) (w : World) : Prop :=
  vs.length = l.length ∧ (∀ c ∈ vs, c.length = m) ∧ ∀ (k : Nat) a, l[k]? = some a → ∃ c, vs[k]? = some c ∧ R w c a
theorem Elems.nil_ {α : Type} (R : World → List Value → α → Prop) (m : Nat) (w : World) : Elems R m [] [] w := ⟨rfl, by simp, by simp⟩
theorem Elems.snoc {α : Type} {R : World → List Value → α → Prop} {m : Nat} {vs : List (List Value)} {l : List α} {w : World} (h : Elems R m vs l w) {c : List Value} {a : α} (hc : c.length = m) (hR : R w c a) : Elems R m (vs ++ [c]) (l ++ [a]) w := by
  obtain ⟨h1, h2, h3⟩ := h
  refine ⟨by simp [h1], fun x hx => ?_, fun k b hb => ?_⟩
  · rcases List.mem_append.1 hx with h | h
    · exact h2 x h
    · rw [List.mem_singleton] at h; subst h; exact hc
  · by_cases hk : k < l.length
    · rw [List.getElem?_append_left hk] at hb
      obtain ⟨c', hc', hR'⟩ := h3 k b hb
      exact ⟨c', by rw [List.getElem?_append_left (by omega)]; exact hc', hR'⟩
    · rw [List.getElem?_append_right (by omega)] at hb
      have hk0 : k - l.length = 0 := by
        rcases Nat.eq_zero_or_pos (k - l.length) with h | h
        · exact h
        · rw [List.getElem?_eq_none (by simp; omega)] at hb; cases hb
      rw [hk0] at hb
      simp at hb
      subst hb
      exact ⟨c, by rw [List.getElem?_append_right (by omega), h1, hk0]; rfl, hR⟩

/-- a row of the call's own that grows -/
def Grow {α : Type} (R : World → List Value → α → Prop) (m : Nat) (e : TypeId) (B : Nat) (X : List Nat) (w : World) (v : Value) (l : List α) : Prop :=
  ∃ vs, w.ownsRow B e m v l.length vs.flatten ∧ Stable X (Elems R m vs l) w
section
variable {α : Type} {R : World → List Value → α → Prop} {m : Nat} {e : TypeId} {B : Nat} {X X' S : List Nat} {w w' : World} {v : Value} {l : List α}
theorem Grow.nil_ (R : World → List Value → α → Prop) (m : Nat) (e : TypeId) (B : Nat) (X : List Nat) (w : World) : Grow R m e B X w (.slice none 0 0) [] :=
  ⟨[], World.ownsRow_nil _ _ _ _, fun _ _ _ _ => Elems.nil_ _ _ _⟩
theorem Grow.step (h : Grow R m e B X w v l) (k : Kept S w w') (hv : ∀ z ∈ obl v, z ∉ S) (hS : ∀ z ∈ S, z < w.heap.size → z ∈ X) (hX : ∀ z ∈ X', z ∈ X ∨ w.heap.size ≤ z) : Grow R m e B X' w' v l := by
  obtain ⟨vs, h1, h2⟩ := h
  exact ⟨vs, own_keep h1 k hv, h2.step k hS hX⟩
theorem Grow.ge (h : Grow R m e B X w v l) : ∀ z ∈ obl v, B ≤ z ∧ z < w.heap.size := by
  obtain ⟨vs, h1, h2⟩ := h
  exact own_ge h1
theorem own_len {w : World} {B : Nat} {e : TypeId} {size n : Nat} {v : Value} {xs : List Value} (h : w.ownsRow B e size v n xs) (hs : 0 < size) : ∃ a c, v = .slice a n c := by
  rcases h.2 with ⟨h3, h4⟩ | ⟨g, cap, cur, hv, _⟩
  · have h5 := h.1
    rw [h4] at h5
    have hn : n = 0 := by
      rcases Nat.eq_zero_or_pos n with h | h
      · exact h
      · have := Nat.mul_pos h hs
        simp at h5
        omega
    subst hn
    exact ⟨_, _, h3⟩
  · exact ⟨_, _, hv⟩
theorem Grow.form (h : Grow R m e B X w v l) (hm : 0 < m) : ∃ a c, v = .slice a l.length c := by
  obtain ⟨vs, h1, h2⟩ := h
  exact own_len h1 hm
/-- it is finished -/
theorem Grow.done (h : Grow R m e B X w v l) (hX : ∀ z ∈ X', z ∈ X ∨ w.heap.size ≤ z) (hv : ∀ z ∈ obl v, z ∉ X') (hl : l.length ≤ 9223372036854775807) : Stable X' (fun w => RowOf R m w v l) w := by
  obtain ⟨vs, h1, h2⟩ := h
  exact ((Stable.own h1 hv).and (h2.less hX)).imp fun w' h => RowOf.of_own h.1 h.2.1 h.2.2.1 h.2.2.2 hl
theorem Grow.row (h : Grow R m e B X w v l) (hl : l.length ≤ 9223372036854775807) : RowOf R m w v l := by
  obtain ⟨vs, h1, h2⟩ := h
  have h3 := h2.get
  exact RowOf.of_own h1 h3.1 h3.2.1 h3.2.2 hl

/-- one element behind a row that grows -/
theorem wp_append_grow {P : Program} {o : Oper} {a : Act} {K : Act → World → Prop} {Q : Exit → Act → World → Prop} (s x : Operand) (t : TypeId)
    (ho : o.op = .call { callee := .builtin .append, args := #[s, x], argTypes := #[t, t] })
    (i : TypeInfo) (z : Value) (bytes : Nat) (ht : P.underlying t = some (.slice e)) (hi : P.info? e = some i) (hz : i.zero = some z)
    (hsize : i.size = m) (hby : i.bytes = bytes) (hzs : z.cells.size = m) (hsz : 0 < m) (hbs : bytes ≤ 128)
    (hs : a.eval s = v) (hg : Grow R m e B X w v l) (u : Value) (c : List Value) (b : α) (hx : a.eval x = u) (hrow : Row w m u 1 c) (hR : Stable X (fun w => R w c b) w) (h1 : ∀ u ∈ c, u.oneCell' = true)
    (hn : l.length ≤ 1000000000) (hbase : B ≤ w.heap.size) (hvX : ∀ z ∈ obl v, z ∈ X)
    (h : ∀ a' c' w', Grow R m e B (X ++ obl (.slice a' (l.length + 1) c')) w' (.slice a' (l.length + 1) c') (l ++ [b]) → Kept (obl v) w w' → (∀ k ∈ obl (.slice a' (l.length + 1) c'), k ∈ obl v ∨ k = w.heap.size) → K (a.put o.dst (.slice a' (l.length + 1) c')) w') : o.wp P a w K Q := by
  obtain ⟨vs, h2, h3⟩ := hg
  refine wp_append_row s x t ho B e i z m bytes ht hi hz hsize hby hzs hsz v l.length vs.flatten hs h2 u 1 c hx hrow h1 (by unfold maxLen; omega) ?_ hbase ?_
  · have : (l.length + 1) * bytes ≤ 1000000001 * 128 := Nat.mul_le_mul (by omega) hbs
    omega
  · intro a' c' w' own k hb
    have hcm : c.length = m := by have := hrow.1; omega
    refine h a' c' w' ⟨vs ++ [c], by simpa using own, ?_⟩ k hb
    have h4 : Stable X (Elems R m (vs ++ [c]) (l ++ [b])) w := (h3.and hR).imp fun _ h => h.1.snoc hcm h.2
    exact h4.step k (fun z hz _ => hvX z hz) fun z hz => by
      rcases List.mem_append.1 hz with h | h
      · exact Or.inl h
      · rcases hb z h with h | h
        · exact Or.inl (hvX z h)
        · exact Or.inr (by omega)
theorem wpList_append_grow {P : Program} {ops : Array Oper} {rest : List Oper} {o : Oper} {a : Act} {Q : Exit → Act → World → Prop} (hgd : o.guard = none) (s x : Operand) (t : TypeId)
    (ho : o.op = .call { callee := .builtin .append, args := #[s, x], argTypes := #[t, t] })
    (i : TypeInfo) (z : Value) (bytes : Nat) (ht : P.underlying t = some (.slice e)) (hi : P.info? e = some i) (hz : i.zero = some z)
    (hsize : i.size = m) (hby : i.bytes = bytes) (hzs : z.cells.size = m) (hsz : 0 < m) (hbs : bytes ≤ 128)
    (hs : a.eval s = v) (hg : Grow R m e B X w v l) (u : Value) (c : List Value) (b : α) (hx : a.eval x = u) (hrow : Row w m u 1 c) (hR : Stable X (fun w => R w c b) w) (h1 : ∀ u ∈ c, u.oneCell' = true)
    (hn : l.length ≤ 1000000000) (hbase : B ≤ w.heap.size) (hvX : ∀ z ∈ obl v, z ∈ X)
    (h : ∀ a' c' w', Grow R m e B (X ++ obl (.slice a' (l.length + 1) c')) w' (.slice a' (l.length + 1) c') (l ++ [b]) → Kept (obl v) w w' → (∀ k ∈ obl (.slice a' (l.length + 1) c'), k ∈ obl v ∨ k = w.heap.size) → wpList P ops Q rest (a.put o.dst (.slice a' (l.length + 1) c')) w') :
    wpList P ops Q (o :: rest) a w :=
  wpList_plain hgd fun _ hK => wp_append_grow s x t ho i z bytes ht hi hz hsize hby hzs hsz hbs hs hg u c b hx hrow hR h1 hn hbase hvX fun a' c' w' h2 h3 h4 => hK _ _ (h a' c' w' h2 h3 h4)
theorem step_append_grow {P : Program} {ops : Array Oper} {o : Oper} {a : Act} {K : Act → World → Prop} {Q : Exit → Act → World → Prop} {E : Prop} (hgd : o.guard = none) (s x : Operand) (t : TypeId)
    (ho : o.op = .call { callee := .builtin .append, args := #[s, x], argTypes := #[t, t] })
    (i : TypeInfo) (z : Value) (bytes : Nat) (ht : P.underlying t = some (.slice e)) (hi : P.info? e = some i) (hz : i.zero = some z)
    (hsize : i.size = m) (hby : i.bytes = bytes) (hzs : z.cells.size = m) (hsz : 0 < m) (hbs : bytes ≤ 128)
    (hs : a.eval s = v) (hg : Grow R m e B X w v l) (u : Value) (c : List Value) (b : α) (hx : a.eval x = u) (hrow : Row w m u 1 c) (hR : Stable X (fun w => R w c b) w) (h1 : ∀ u ∈ c, u.oneCell' = true)
    (hn : l.length ≤ 1000000000) (hbase : B ≤ w.heap.size) (hvX : ∀ z ∈ obl v, z ∈ X)
    (h : ∀ a' c' w', Grow R m e B (X ++ obl (.slice a' (l.length + 1) c')) w' (.slice a' (l.length + 1) c') (l ++ [b]) → Kept (obl v) w w' → (∀ k ∈ obl (.slice a' (l.length + 1) c'), k ∈ obl v ∨ k = w.heap.size) → K (a.put o.dst (.slice a' (l.length + 1) c')) w') :
    if Region.wanted o (yielded ops a.tmps) = true then Oper.wp P o a w K Q else E := by
  rw [if_pos (by simp [Region.wanted, hgd])]
  exact wp_append_grow s x t ho i z bytes ht hi hz hsize hby hzs hsz hbs hs hg u c b hx hrow hR h1 hn hbase hvX h
end
end Go.Proofs.YtabiklpemoijcaaGreatDoor
/- The methods of row: next, count (show, proof); list, ticket, spend (show). -/
namespace Go.Proofs.YtabiklpemoijcaaGreatDoor
open Go.RowKit Tape

/-- what a reader leaves -/
def ReadP (T : TypeId) (b g : Nat) (v : Value) (r : Tp) (w : World) (e : Ending) (w' : World) : Prop := e = .returned v ∧ TpAt T w' b g r ∧ Kept [b] w w'

theorem count_of {r r1 : Tp} {n : Int} (hq : next r = (n, r1)) : (n < 0 → count r = (0, ⟨r1.left, true⟩)) ∧ (0 ≤ n → (r1.left.length : Int) < n → count r = (0, ⟨r1.left, true⟩)) ∧ (0 ≤ n → n ≤ r1.left.length → count r = (n.toNat, r1)) := by
  unfold count
  rw [hq]
  simp only
  exact ⟨fun h => if_pos (Or.inl h), fun _ h => if_pos (Or.inr h), fun h1 h2 => if_neg (by omega)⟩

set_option maxRecDepth 100000 in
set_option maxHeartbeats 1000000 in
theorem srow_next (b g : Nat) (r : Tp) (w : World) (h : TpAt 163 w b g r) :
    Calls Tryz.prog 192 #[.pointer (some ⟨b, 0, none⟩)] w (ReadP 163 b g (.int .i64 (next r).1) (next r).2 w) := by
  obtain ⟨⟨a, c, hb, hs⟩, hne⟩ := h
  obtain ⟨l, bd⟩ := r
  have f0 := hb.frozen 0
  have f1 := hb.frozen 1
  have HN : Hid (g ∉ [b]) := by show g ∉ [b]; simp; omega
  rcases l with _ | ⟨n, t⟩
  · have c0 : w.cell? ⟨b, 0, none⟩ = some (.slice a 0 c) := hb.cell 0
    have c1 : w.cell? ⟨b, 1, none⟩ = some (.bool bd) := hb.cell 1
    have HB := Lib.hid hb
    have HS := Lib.hid hs
    clear hb hs
    go_enter Tryz.func192, Tryz.ntmps192
    go_wp2
    go_ret
    rw [show next ⟨[], bd⟩ = (0, ⟨[], true⟩) from rfl]
    exact ⟨rfl, ⟨⟨a, c, by simpa using HB.out.set_ 1 (.bool true), (HS.out.keep (S := [b]) ((Kept.refl _ _).setCell (by simp) _) HN.out)⟩, hne⟩, (Kept.refl _ _).setCell (by simp) _⟩
  · have HS := Lib.hid hs
    have HB := Lib.hid hb
    have hcl : t.length + 1 ≤ c := hs.1
    have hml : t.length + 1 ≤ 9223372036854775807 := hs.2.1
    obtain ⟨off, rfl, hc⟩ := hs.2.2 (by simp)
    have c0 : w.cell? ⟨b, 0, none⟩ = some (.slice (some ⟨g, off, none⟩) (t.length + 1) c) := hb.cell 0
    have x0 : w.cell? ⟨g, off, none⟩ = some (.int .i64 n) := by simpa using hc 0 n rfl
    clear hb hs hc
    obtain ⟨L, hL⟩ : ∃ L, t.length = L := ⟨_, rfl⟩
    have HL := Lib.hid hL
    rw [hL] at hcl hml c0
    clear hL
    by_cases h1 : c = 1
    · subst h1
      obtain rfl : L = 0 := by omega
      go_enter Tryz.func192, Tryz.ntmps192
      go_wp2
      go_ret
      have ht : t = [] := List.eq_nil_of_length_eq_zero HL.out
      subst ht
      rw [show next ⟨[n], bd⟩ = (n, ⟨[], bd⟩) from rfl]
      exact ⟨rfl, ⟨⟨_, 0, by simpa using HB.out.set_ 0 (.slice (some ⟨g, off, none⟩) 0 0), Src.empty _ _ _ _⟩, hne⟩, (Kept.refl _ _).setCell (by simp) _⟩
    · go_enter Tryz.func192, Tryz.ntmps192
      go_wp2
      go_ret
      rw [show next ⟨n :: t, bd⟩ = (n, ⟨t, bd⟩) from rfl]
      refine ⟨rfl, ⟨⟨some ⟨g, off + 1, none⟩, c - 1, ?_, ?_⟩, hne⟩, (Kept.refl _ _).setCell (by simp) _⟩
      · have := HB.out.set_ 0 (.slice (some ⟨g, off + 1, none⟩) L (c - 1))
        show Blk _ _ _ #[.slice _ t.length _, _]
        rw [HL.out]
        simpa using this
      · exact (HS.out.keep (S := [b]) ((Kept.refl _ _).setCell (by simp) _) HN.out).drop 1 (by simp) (some ⟨g, off + 1, none⟩) (fun _ o ho => by injection ho with ho; injection ho with _ ho; subst ho; rfl)

set_option maxRecDepth 100000 in
set_option maxHeartbeats 1000000 in
theorem srow_count (b g : Nat) (r : Tp) (w : World) (h : TpAt 163 w b g r) :
    Calls Tryz.prog 133 #[.pointer (some ⟨b, 0, none⟩)] w (ReadP 163 b g (.int .i64 ((count r).1 : Nat)) (count r).2 w) := by
  have HC := Lib.hid (srow_next b g r w h)
  obtain ⟨n, r1, hq⟩ : ∃ n r1, next r = (n, r1) := ⟨_, _, rfl⟩
  have HQ := Lib.hid (count_of hq)
  rw [hq] at HC
  clear hq h
  go_enter Tryz.func133, Tryz.ntmps133
  go_wp2_with (go_at_call 192; refine HC.out.mono ?_)
  rintro e w1 ⟨rfl, h1, k1⟩
  have H1 := Lib.hid h1
  obtain ⟨⟨a, c, hb, hs⟩, hne⟩ := h1
  have c0 := hb.cell 0
  have f1 := hb.frozen 1
  have hml := hs.2.1
  have HN : Hid (g ∉ [b]) := by show g ∉ [b]; simp; omega
  have HB := Lib.hid hb
  have HS := Lib.hid hs
  have HK := Lib.hid k1
  clear hb hs HC k1
  obtain ⟨l, bd⟩ := r1
  replace c0 : w1.cell? ⟨b, 0, none⟩ = some (.slice a l.length c) := c0
  have c1 : w1.cell? ⟨b, 1, none⟩ = some (.bool bd) := HB.out.cell 1
  replace hml : l.length ≤ 9223372036854775807 := hml
  by_cases hn : n < 0
  · have e1 := Lib.hid (HQ.out.1 hn)
    clear HQ
    go_wp2
    go_ret
    rw [e1.out]
    exact ⟨rfl, ⟨⟨a, c, by simpa using HB.out.set_ 1 (.bool true), HS.out.keep (S := [b]) ((Kept.refl _ _).setCell (by simp) _) HN.out⟩, hne⟩, HK.out.setCell (by simp) _⟩
  · by_cases hl : (l.length : Int) < n
    · have e1 := Lib.hid (HQ.out.2.1 (by omega) hl)
      clear HQ
      go_wp2
      go_ret
      rw [e1.out]
      exact ⟨rfl, ⟨⟨a, c, by simpa using HB.out.set_ 1 (.bool true), HS.out.keep (S := [b]) ((Kept.refl _ _).setCell (by simp) _) HN.out⟩, hne⟩, HK.out.setCell (by simp) _⟩
    · have e1 := Lib.hid (HQ.out.2.2 (by omega) (by simpa using hl))
      have hle : n ≤ (l.length : Int) := by omega
      clear HQ
      go_wp2
      go_ret
      rw [e1.out]
      refine ⟨?_, H1.out, HK.out⟩
      show Ending.returned (.int .i64 n) = .returned (.int .i64 (n.toNat : Int))
      rw [Int.toNat_of_nonneg (by omega)]

set_option maxRecDepth 100000 in
set_option maxHeartbeats 1000000 in
theorem prow_next (b g : Nat) (r : Tp) (w : World) (h : TpAt 202 w b g r) :
    Calls Tryz.prog 190 #[.pointer (some ⟨b, 0, none⟩)] w (ReadP 202 b g (.int .i64 (next r).1) (next r).2 w) := by
  obtain ⟨⟨a, c, hb, hs⟩, hne⟩ := h
  obtain ⟨l, bd⟩ := r
  have f0 := hb.frozen 0
  have f1 := hb.frozen 1
  have HN : Hid (g ∉ [b]) := by show g ∉ [b]; simp; omega
  rcases l with _ | ⟨n, t⟩
  · have c0 : w.cell? ⟨b, 0, none⟩ = some (.slice a 0 c) := hb.cell 0
    have c1 : w.cell? ⟨b, 1, none⟩ = some (.bool bd) := hb.cell 1
    have HB := Lib.hid hb
    have HS := Lib.hid hs
    clear hb hs
    go_enter Tryz.func190, Tryz.ntmps190
    go_wp2
    go_ret
    rw [show next ⟨[], bd⟩ = (0, ⟨[], true⟩) from rfl]
    exact ⟨rfl, ⟨⟨a, c, by simpa using HB.out.set_ 1 (.bool true), (HS.out.keep (S := [b]) ((Kept.refl _ _).setCell (by simp) _) HN.out)⟩, hne⟩, (Kept.refl _ _).setCell (by simp) _⟩
  · have HS := Lib.hid hs
    have HB := Lib.hid hb
    have hcl : t.length + 1 ≤ c := hs.1
    have hml : t.length + 1 ≤ 9223372036854775807 := hs.2.1
    obtain ⟨off, rfl, hc⟩ := hs.2.2 (by simp)
    have c0 : w.cell? ⟨b, 0, none⟩ = some (.slice (some ⟨g, off, none⟩) (t.length + 1) c) := hb.cell 0
    have x0 : w.cell? ⟨g, off, none⟩ = some (.int .i64 n) := by simpa using hc 0 n rfl
    clear hb hs hc
    obtain ⟨L, hL⟩ : ∃ L, t.length = L := ⟨_, rfl⟩
    have HL := Lib.hid hL
    rw [hL] at hcl hml c0
    clear hL
    by_cases h1 : c = 1
    · subst h1
      obtain rfl : L = 0 := by omega
      go_enter Tryz.func190, Tryz.ntmps190
      go_wp2
      go_ret
      have ht : t = [] := List.eq_nil_of_length_eq_zero HL.out
      subst ht
      rw [show next ⟨[n], bd⟩ = (n, ⟨[], bd⟩) from rfl]
      exact ⟨rfl, ⟨⟨_, 0, by simpa using HB.out.set_ 0 (.slice (some ⟨g, off, none⟩) 0 0), Src.empty _ _ _ _⟩, hne⟩, (Kept.refl _ _).setCell (by simp) _⟩
    · go_enter Tryz.func190, Tryz.ntmps190
      go_wp2
      go_ret
      rw [show next ⟨n :: t, bd⟩ = (n, ⟨t, bd⟩) from rfl]
      refine ⟨rfl, ⟨⟨some ⟨g, off + 1, none⟩, c - 1, ?_, ?_⟩, hne⟩, (Kept.refl _ _).setCell (by simp) _⟩
      · have := HB.out.set_ 0 (.slice (some ⟨g, off + 1, none⟩) L (c - 1))
        show Blk _ _ _ #[.slice _ t.length _, _]
        rw [HL.out]
        simpa using this
      · exact (HS.out.keep (S := [b]) ((Kept.refl _ _).setCell (by simp) _) HN.out).drop 1 (by simp) (some ⟨g, off + 1, none⟩) (fun _ o ho => by injection ho with ho; injection ho with _ ho; subst ho; rfl)

set_option maxRecDepth 100000 in
set_option maxHeartbeats 1000000 in
theorem prow_count (b g : Nat) (r : Tp) (w : World) (h : TpAt 202 w b g r) :
    Calls Tryz.prog 189 #[.pointer (some ⟨b, 0, none⟩)] w (ReadP 202 b g (.int .i64 ((count r).1 : Nat)) (count r).2 w) := by
  have HC := Lib.hid (prow_next b g r w h)
  obtain ⟨n, r1, hq⟩ : ∃ n r1, next r = (n, r1) := ⟨_, _, rfl⟩
  have HQ := Lib.hid (count_of hq)
  rw [hq] at HC
  clear hq h
  go_enter Tryz.func189, Tryz.ntmps189
  go_wp2_with (go_at_call 190; refine HC.out.mono ?_)
  rintro e w1 ⟨rfl, h1, k1⟩
  have H1 := Lib.hid h1
  obtain ⟨⟨a, c, hb, hs⟩, hne⟩ := h1
  have c0 := hb.cell 0
  have f1 := hb.frozen 1
  have hml := hs.2.1
  have HN : Hid (g ∉ [b]) := by show g ∉ [b]; simp; omega
  have HB := Lib.hid hb
  have HS := Lib.hid hs
  have HK := Lib.hid k1
  clear hb hs HC k1
  obtain ⟨l, bd⟩ := r1
  replace c0 : w1.cell? ⟨b, 0, none⟩ = some (.slice a l.length c) := c0
  have c1 : w1.cell? ⟨b, 1, none⟩ = some (.bool bd) := HB.out.cell 1
  replace hml : l.length ≤ 9223372036854775807 := hml
  by_cases hn : n < 0
  · have e1 := Lib.hid (HQ.out.1 hn)
    clear HQ
    go_wp2
    go_ret
    rw [e1.out]
    exact ⟨rfl, ⟨⟨a, c, by simpa using HB.out.set_ 1 (.bool true), HS.out.keep (S := [b]) ((Kept.refl _ _).setCell (by simp) _) HN.out⟩, hne⟩, HK.out.setCell (by simp) _⟩
  · by_cases hl : (l.length : Int) < n
    · have e1 := Lib.hid (HQ.out.2.1 (by omega) hl)
      clear HQ
      go_wp2
      go_ret
      rw [e1.out]
      exact ⟨rfl, ⟨⟨a, c, by simpa using HB.out.set_ 1 (.bool true), HS.out.keep (S := [b]) ((Kept.refl _ _).setCell (by simp) _) HN.out⟩, hne⟩, HK.out.setCell (by simp) _⟩
    · have e1 := Lib.hid (HQ.out.2.2 (by omega) (by simpa using hl))
      have hle : n ≤ (l.length : Int) := by omega
      clear HQ
      go_wp2
      go_ret
      rw [e1.out]
      refine ⟨?_, H1.out, HK.out⟩
      show Ending.returned (.int .i64 n) = .returned (.int .i64 (n.toNat : Int))
      rw [Int.toNat_of_nonneg (by omega)]

/-- a copy of the first ints -/
def CloneP (l : List Int) (w : World) (e : Ending) (w' : World) : Prop := ∃ a c, e = .returned (.slice a l.length c) ∧ w'.ownsRow w.heap.size 3 1 (.slice a l.length c) l.length (ints l) ∧ Kept [] w w'
theorem clone_ints (g : Nat) (a : Option Addr) (c m : Nat) (l : List Int) (w : World) (h : Src w g a c l) (hm : m ≤ l.length) (hl : l.length ≤ 1000000000) :
    Calls Tryz.prog 191 #[.slice a m c] w (CloneP (l.take m) w) := by
  have htl : (l.take m).length = m := by rw [List.length_take]; omega
  cases a with
  | none =>
    have h0 : m = 0 := by
      rcases Nat.eq_zero_or_pos m with h0 | hp
      · exact h0
      · obtain ⟨off, ha, _⟩ := h.2.2 (by omega)
        cases ha
    subst h0
    exact (Tryz.slices_Clone_int_nil 0 c w).mono fun e w' ⟨he, hw⟩ => ⟨none, 0, by simpa using he, by subst hw; simpa [ints] using World.ownsRow_nil _ _ _ _, by subst hw; exact Kept.refl _ _⟩
  | some x =>
    rcases Nat.eq_zero_or_pos m with h0 | hp
    · subst h0
      refine (Tryz.slices_Clone_int_zero x c w).mono fun e w' ⟨v, he, ho, _, hb⟩ => ?_
      obtain ⟨a', c', rfl⟩ := own_len ho (by decide)
      exact ⟨a', c', by simpa using he, by simpa [ints] using ho, Kept.of_below hb⟩
    · obtain ⟨off, ha, hc⟩ := h.2.2 (by omega)
      injection ha with ha
      subst ha
      refine (Tryz.slices_Clone_int g off m c l w hm (by omega) (fun j hj => ?_)).mono fun e w' ⟨v, he, ho, _, hb⟩ => ?_
      · rw [hc j l[j] (List.getElem?_eq_getElem hj)]
        simp [List.getD, List.getElem?_eq_getElem hj]
      · obtain ⟨a', c', rfl⟩ := own_len ho (by decide)
        exact ⟨a', c', by rw [htl]; exact he, by rw [htl]; exact ho, Kept.of_below hb⟩
end Go.Proofs.YtabiklpemoijcaaGreatDoor
namespace Go.Proofs.YtabiklpemoijcaaGreatDoor
open Go.RowKit Tape

theorem flat_add' (b o k : Nat) : (some ((⟨b, o, none⟩ : Addr).add k)) = some ⟨b, o + k, none⟩ := by
  unfold Addr.add
  by_cases h : k = 0
  · subst h; simp
  · simp [h]
/-- what list leaves -/
def ListP (b g : Nat) (l : List Int) (r : Tp) (w : World) (e : Ending) (w' : World) : Prop :=
  ∃ a c, e = .returned (.slice a l.length c) ∧ w'.ownsRow w.heap.size 3 1 (.slice a l.length c) l.length (ints l) ∧ TpAt 163 w' b g r ∧ Kept [b] w w'

set_option maxRecDepth 100000 in
set_option maxHeartbeats 1000000 in
theorem srow_list (b g : Nat) (r : Tp) (w : World) (h : TpAt 163 w b g r) (hl : r.left.length ≤ 1000000000) :
    Calls Tryz.prog 136 #[.pointer (some ⟨b, 0, none⟩)] w (ListP b g (list r).1 (list r).2 w) := by
  have HC := Lib.hid (srow_count b g r w h)
  have hcl := count_le r
  have hq : list r = ((count r).2.left.take (count r).1, ⟨(count r).2.left.drop (count r).1, (count r).2.bad⟩) := rfl
  obtain ⟨n, r1, hr⟩ : ∃ n r1, count r = (n, r1) := ⟨_, _, rfl⟩
  rw [hr] at HC hcl hq
  obtain ⟨l, bd⟩ := r1
  replace hcl : n ≤ l.length ∧ l.length ≤ r.left.length := hcl
  replace hq : list r = (l.take n, ⟨l.drop n, bd⟩) := hq
  rw [hq]
  clear hr hq
  obtain ⟨hn, hlr⟩ := hcl
  have hl1 : l.length ≤ 1000000000 := by omega
  have hne := h.ne
  have hlt := h.lt
  clear h hl hlr
  have HT : Hid ((l.take n).length = n) := by show _ = _; rw [List.length_take]; omega
  have HD : Hid ((l.drop n).length = l.length - n) := by show _ = _; rw [List.length_drop]
  go_enter Tryz.func136, Tryz.ntmps136
  go_wp2_with (go_at_call 133; refine HC.out.mono ?_)
  rintro e w1 ⟨rfl, ⟨⟨a, c, hb, hs⟩, _⟩, k1⟩
  have HB := Lib.hid hb
  have HS := Lib.hid hs
  have HK := Lib.hid k1
  have hlc : l.length ≤ c := hs.1
  have c0 : w1.cell? ⟨b, 0, none⟩ = some (.slice a l.length c) := hb.cell 0
  have HCl := Lib.hid (clone_ints g a c n l w1 hs hn hl1)
  have hsz := k1.size
  have HN : Hid (g ∉ [b]) := by show g ∉ [b]; simp; omega
  clear hb hs HC k1
  go_wp2_with (go_at_call 191; refine HCl.out.mono ?_)
  rintro e w2 ⟨a2, c2, rfl, own, k2⟩
  have HB2 := Lib.hid (HB.out.kept k2 (by simp))
  have d0 : w2.cell? ⟨b, 0, none⟩ = some (.slice a l.length c) := HB2.out.cell 0
  have d1 := HB2.out.frozen 0
  have HO := Lib.hid own
  have HK2 := Lib.hid k2
  rw [HT.out]
  rw [HT.out] at HO
  clear own k2 HCl c0
  have hput : ∀ (x : Option Addr) (m cc : Nat), m = l.length - n → Src w2 g x cc (l.drop n) → Hid (ListP b g (l.take n) ⟨l.drop n, bd⟩ w (.returned (.slice a2 n c2)) (w2.setCell ⟨b, 0, none⟩ (.slice x m cc))) := by
    intro x m cc hm hsrc
    subst hm
    have kk : Kept [b] w2 (w2.setCell ⟨b, 0, none⟩ (.slice x (l.length - n) cc)) := (Kept.refl _ _).setCell (by simp) _
    refine ⟨a2, c2, by rw [HT.out], ?_, ⟨⟨x, cc, ?_, hsrc.keep kk HN.out⟩, hne⟩, (HK.out.trans (HK2.out.mono (by simp))).trans kk⟩
    · rw [HT.out]
      refine own_base (own_keep HO.out kk fun z hz hm => ?_) hsz
      have := (own_ge HO.out z hz).1
      rw [List.mem_singleton] at hm
      omega
    · show Blk _ _ _ #[.slice x (l.drop n).length cc, .bool bd]
      rw [HD.out]
      simpa using HB2.out.set_ 0 (.slice x (l.length - n) cc)
  have HP := Lib.hid hput
  have HS2 := Lib.hid (HS.out.keep HK2.out (by simp))
  clear hput
  cases a with
  | none =>
    have h0 : l = [] := by
      rcases Nat.eq_zero_or_pos l.length with h | h
      · exact List.eq_nil_of_length_eq_zero h
      · obtain ⟨off, ha, _⟩ := HS.out.2.2 h
        cases ha
    subst h0
    obtain rfl : n = 0 := by simpa using hn
    have HF := Lib.hid (HP.out none 0 c (by simp) (Src.empty _ _ _ _))
    clear HP
    go_wp2
    go_ret
    exact HF.out
  | some ad =>
    by_cases hnc : n = c
    · have hnl : n = l.length := by omega
      have hd : l.drop n = [] := by rw [hnl]; simp
      have HF := Lib.hid (HP.out (some ad) 0 0 (by omega) (by rw [hd]; exact Src.empty _ _ _ _))
      clear HP hd
      subst hnc
      subst hnl
      go_wp2
      go_ret
      exact HF.out
    · have HF := Lib.hid (HP.out (some (ad.add n)) (l.length - n) (c - n) rfl (HS2.out.drop n hn _ (fun _ o ho => by injection ho with ho; subst ho; rw [flat_add'])))
      clear HP
      go_wp2
      go_ret
      exact HF.out

/-- what ticket and spend leave -/
def TickP (b g : Nat) (t : Tick) (r : Tp) (w : World) (e : Ending) (w' : World) : Prop := e = .returned (.agg (tickC t).toArray) ∧ TpAt 163 w' b g r ∧ Kept [b] w w'

set_option maxRecDepth 100000 in
set_option maxHeartbeats 2000000 in
theorem srow_ticket (b g : Nat) (r : Tp) (w : World) (h : TpAt 163 w b g r) (hgs : g ≠ w.heap.size) :
    Calls Tryz.prog 134 #[.pointer (some ⟨b, 0, none⟩)] w (TickP b g (tick r).1 (tick r).2 w) := by
  obtain ⟨n1, r1, h1⟩ : ∃ n r1, next r = (n, r1) := ⟨_, _, rfl⟩
  obtain ⟨n2, r2, h2⟩ : ∃ n r2, next r1 = (n, r2) := ⟨_, _, rfl⟩
  obtain ⟨n3, r3, h3⟩ : ∃ n r3, next r2 = (n, r3) := ⟨_, _, rfl⟩
  obtain ⟨n4, r4, h4⟩ : ∃ n r4, next r3 = (n, r4) := ⟨_, _, rfl⟩
  obtain ⟨n5, r5, h5⟩ : ∃ n r5, next r4 = (n, r5) := ⟨_, _, rfl⟩
  obtain ⟨n6, r6, h6⟩ : ∃ n r6, next r5 = (n, r6) := ⟨_, _, rfl⟩
  have hq : tick r = ((n1, n2, n3, n4, n5, n6), r6) := by
    simp only [tick, both, h1, h2, h3, h4, h5, h6]
  rw [hq]
  have H1 : Hid (∀ w, TpAt 163 w b g r → Calls Tryz.prog 192 #[.pointer (some ⟨b, 0, none⟩)] w (ReadP 163 b g (.int .i64 n1) r1 w)) := fun w h => by have := srow_next b g r w h; rwa [h1] at this
  have H2 : Hid (∀ w, TpAt 163 w b g r1 → Calls Tryz.prog 192 #[.pointer (some ⟨b, 0, none⟩)] w (ReadP 163 b g (.int .i64 n2) r2 w)) := fun w h => by have := srow_next b g r1 w h; rwa [h2] at this
  have H3 : Hid (∀ w, TpAt 163 w b g r2 → Calls Tryz.prog 192 #[.pointer (some ⟨b, 0, none⟩)] w (ReadP 163 b g (.int .i64 n3) r3 w)) := fun w h => by have := srow_next b g r2 w h; rwa [h3] at this
  have H4 : Hid (∀ w, TpAt 163 w b g r3 → Calls Tryz.prog 192 #[.pointer (some ⟨b, 0, none⟩)] w (ReadP 163 b g (.int .i64 n4) r4 w)) := fun w h => by have := srow_next b g r3 w h; rwa [h4] at this
  have H5 : Hid (∀ w, TpAt 163 w b g r4 → Calls Tryz.prog 192 #[.pointer (some ⟨b, 0, none⟩)] w (ReadP 163 b g (.int .i64 n5) r5 w)) := fun w h => by have := srow_next b g r4 w h; rwa [h5] at this
  have H6 : Hid (∀ w, TpAt 163 w b g r5 → Calls Tryz.prog 192 #[.pointer (some ⟨b, 0, none⟩)] w (ReadP 163 b g (.int .i64 n6) r6 w)) := fun w h => by have := srow_next b g r5 w h; rwa [h6] at this
  clear h1 h2 h3 h4 h5 h6 hq
  have HT := Lib.hid h
  have hlt := h.lt
  have hne := h.ne
  have HG : Hid (g ≠ w.heap.size) := hgs
  clear h
  go_enter Tryz.func134, Tryz.ntmps134
  go_upto_region 1 with (fail)
  obtain ⟨W, hW⟩ : ∃ W, w.alloc (.cells #[.int .i64 0, .int .i64 0, .int .i64 0, .int .i64 0, .int .i64 0, .int .i64 0] 152) = W := ⟨_, rfl⟩
  have hbW : Blk W w.heap.size 152 #[.int .i64 0, .int .i64 0, .int .i64 0, .int .i64 0, .int .i64 0, .int .i64 0] := hW ▸ Blk.new _ _ _
  have hkW : Kept [b] w W := hW ▸ (Kept.refl _ _).alloc _
  have T0 := Lib.hid ((HT.out.keep (S := []) (hW ▸ (Kept.refl _ _).alloc _) (by simp) (by simp)))
  rw [hW]
  clear hW HT
  go_wp2_with (go_at_call 192; refine (H1.out _ T0.out).mono ?_)
  rintro e w1 ⟨rfl, t1, k1⟩
  have T1 := Lib.hid t1
  have K1 := Lib.hid (hkW.trans k1)
  have B1 := Lib.hid (hbW.kept k1 (by simp; omega))
  clear t1 k1 hbW hkW H1 T0
  go_wp2_with (go_at_call 192; refine (H2.out _ T1.out).mono ?_)
  rintro e w2 ⟨rfl, t2, k2⟩
  have T2 := Lib.hid t2
  have K2 := Lib.hid (K1.out.trans k2)
  have B2 := Lib.hid (B1.out.kept k2 (by simp; omega))
  clear t2 k2 T1 K1 B1 H2
  go_wp2_with (go_at_call 192; refine (H3.out _ T2.out).mono ?_)
  rintro e w3 ⟨rfl, t3, k3⟩
  have T3 := Lib.hid t3
  have K3 := Lib.hid (K2.out.trans k3)
  have B3 := Lib.hid (B2.out.kept k3 (by simp; omega))
  clear t3 k3 T2 K2 B2 H3
  go_wp2_with (go_at_call 192; refine (H4.out _ T3.out).mono ?_)
  rintro e w4 ⟨rfl, t4, k4⟩
  have T4 := Lib.hid t4
  have K4 := Lib.hid (K3.out.trans k4)
  have B4 := Lib.hid (B3.out.kept k4 (by simp; omega))
  clear t4 k4 T3 K3 B3 H4
  go_wp2_with (go_at_call 192; refine (H5.out _ T4.out).mono ?_)
  rintro e w5 ⟨rfl, t5, k5⟩
  have T5 := Lib.hid t5
  have K5 := Lib.hid (K4.out.trans k5)
  have B5 := Lib.hid (B4.out.kept k5 (by simp; omega))
  clear t5 k5 T4 K4 B4 H5
  go_wp2_with (go_at_call 192; refine (H6.out _ T5.out).mono ?_)
  rintro e w6 ⟨rfl, t6, k6⟩
  have T6 := Lib.hid t6
  have K6 := Lib.hid (K5.out.trans k6)
  have B6 := Lib.hid (B5.out.kept k6 (by simp; omega))
  clear t6 k6 T5 K5 B5 H6
  have d0 : w6.cell? ⟨w.heap.size, 0, none⟩ = some (.int .i64 0) := B6.out.cell 0
  have g0 := B6.out.frozen 0
  have d1 : w6.cell? ⟨w.heap.size, 1, none⟩ = some (.int .i64 0) := B6.out.cell 1
  have g1 := B6.out.frozen 1
  have d2 : w6.cell? ⟨w.heap.size, 2, none⟩ = some (.int .i64 0) := B6.out.cell 2
  have g2 := B6.out.frozen 2
  have d3 : w6.cell? ⟨w.heap.size, 3, none⟩ = some (.int .i64 0) := B6.out.cell 3
  have g3 := B6.out.frozen 3
  have d4 : w6.cell? ⟨w.heap.size, 4, none⟩ = some (.int .i64 0) := B6.out.cell 4
  have g4 := B6.out.frozen 4
  have d5 : w6.cell? ⟨w.heap.size, 5, none⟩ = some (.int .i64 0) := B6.out.cell 5
  have g5 := B6.out.frozen 5
  have hgl : Hid (g ≠ w.heap.size) := HG
  go_wp2_with fail
  have B7 : Blk ((((((w6.setCell ⟨w.heap.size, 0, none⟩ (.int .i64 n1)).setCell ⟨w.heap.size, 1, none⟩ (.int .i64 n2)).setCell ⟨w.heap.size, 2, none⟩ (.int .i64 n3)).setCell ⟨w.heap.size, 3, none⟩ (.int .i64 n4)).setCell ⟨w.heap.size, 4, none⟩ (.int .i64 n5)).setCell ⟨w.heap.size, 5, none⟩ (.int .i64 n6)) w.heap.size 152 #[.int .i64 n1, .int .i64 n2, .int .i64 n3, .int .i64 n4, .int .i64 n5, .int .i64 n6] := by simpa using ((((((B6.out.set_ 0 (.int .i64 n1)).set_ 1 (.int .i64 n2)).set_ 2 (.int .i64 n3)).set_ 3 (.int .i64 n4)).set_ 4 (.int .i64 n5)).set_ 5 (.int .i64 n6))
  have z0 := B7.cell 0
  have z1 := B7.cell 1
  have z2 := B7.cell 2
  have z3 := B7.cell 3
  have z4 := B7.cell 4
  have z5 := B7.cell 5
  refine bodyPost_ret (v := .agg #[.int .i64 n1, .int .i64 n2, .int .i64 n3, .int .i64 n4, .int .i64 n5, .int .i64 n6]) (by simp [results, Tryz.results134, go_sem, z0, z1, z2, z3, z4, z5]) rfl ⟨rfl, ?_, ?_⟩
  · exact T6.out.keep (((((((Kept.refl [w.heap.size] w6).setCell (by simp) (.int .i64 n1)).setCell (by simp) (.int .i64 n2)).setCell (by simp) (.int .i64 n3)).setCell (by simp) (.int .i64 n4)).setCell (by simp) (.int .i64 n5)).setCell (by simp) (.int .i64 n6)) (by simp; omega) (by simp; exact hgl.out)
  · exact ((((((K6.out.setCell (Or.inr (Nat.le_refl _)) (.int .i64 n1)).setCell (Or.inr (Nat.le_refl _)) (.int .i64 n2)).setCell (Or.inr (Nat.le_refl _)) (.int .i64 n3)).setCell (Or.inr (Nat.le_refl _)) (.int .i64 n4)).setCell (Or.inr (Nat.le_refl _)) (.int .i64 n5)).setCell (Or.inr (Nat.le_refl _)) (.int .i64 n6))

def SpndP (b g : Nat) (x : Spnd) (r : Tp) (w : World) (e : Ending) (w' : World) : Prop :=
  ∃ a c, e = .returned (.agg #[.int .i64 x.1, .slice a x.2.length c]) ∧ w'.ownsRow w.heap.size 3 1 (.slice a x.2.length c) x.2.length (ints x.2) ∧ TpAt 163 w' b g r ∧ Kept [b] w w'

set_option maxRecDepth 100000 in
set_option maxHeartbeats 2000000 in
theorem srow_spend (b g : Nat) (r : Tp) (w : World) (h : TpAt 163 w b g r) (hgs : g ≠ w.heap.size) (hl : r.left.length ≤ 1000000000) :
    Calls Tryz.prog 135 #[.pointer (some ⟨b, 0, none⟩)] w (SpndP b g (spnd r).1 (spnd r).2 w) := by
  obtain ⟨n1, r1, h1⟩ : ∃ n r1, next r = (n, r1) := ⟨_, _, rfl⟩
  obtain ⟨l, r2, h2⟩ : ∃ n r2, list r1 = (n, r2) := ⟨_, _, rfl⟩
  have hq : spnd r = ((n1, l), r2) := by
    simp only [spnd, both, h1, h2]
  rw [hq]
  have hl1 : r1.left.length ≤ 1000000000 := by have := next_le r; rw [h1] at this; have : r1.left.length ≤ r.left.length := this; omega
  have H1 : Hid (∀ w, TpAt 163 w b g r → Calls Tryz.prog 192 #[.pointer (some ⟨b, 0, none⟩)] w (ReadP 163 b g (.int .i64 n1) r1 w)) := fun w h => by have := srow_next b g r w h; rwa [h1] at this
  have H2 : Hid (∀ w, TpAt 163 w b g r1 → Calls Tryz.prog 136 #[.pointer (some ⟨b, 0, none⟩)] w (ListP b g l r2 w)) := fun w h => by have := srow_list b g r1 w h hl1; rwa [h2] at this
  clear h1 h2 hq
  have HT := Lib.hid h
  have hlt := h.lt
  have hne := h.ne
  have HG : Hid (g ≠ w.heap.size) := hgs
  clear h
  go_enter Tryz.func135, Tryz.ntmps135
  go_upto_region 1 with (fail)
  obtain ⟨W, hW⟩ : ∃ W, w.alloc (.cells #[.int .i64 0, .slice none 0 0] 141) = W := ⟨_, rfl⟩
  have hbW : Blk W w.heap.size 141 #[.int .i64 0, .slice none 0 0] := hW ▸ Blk.new _ _ _
  have hkW : Kept [b] w W := hW ▸ (Kept.refl _ _).alloc _
  have hWs : W.heap.size = w.heap.size + 1 := by rw [← hW]; simp
  have T0 := Lib.hid ((HT.out.keep (S := []) (hW ▸ (Kept.refl _ _).alloc _) (by simp) (by simp)))
  rw [hW]
  clear hW HT
  go_wp2_with (go_at_call 192; refine (H1.out _ T0.out).mono ?_)
  rintro e w1 ⟨rfl, t1, k1⟩
  have T1 := Lib.hid t1
  have K1 := Lib.hid (hkW.trans k1)
  have B1 := Lib.hid (hbW.kept k1 (by simp; omega))
  have hs1 := k1.size
  clear t1 k1 hbW hkW H1 T0
  go_wp2_with (go_at_call 136; refine (H2.out _ T1.out).mono ?_)
  rintro e w2 ⟨a, c, rfl, own, t2, k2⟩
  have T2 := Lib.hid t2
  have K2 := Lib.hid (K1.out.trans k2)
  have B2 := Lib.hid (B1.out.kept k2 (by simp; omega))
  have HO := Lib.hid own
  clear t2 k2 own T1 K1 B1 H2
  have d0 : w2.cell? ⟨w.heap.size, 0, none⟩ = some (.int .i64 0) := B2.out.cell 0
  have d1 : w2.cell? ⟨w.heap.size, 1, none⟩ = some (.slice none 0 0) := B2.out.cell 1
  have g0 := B2.out.frozen 0
  have g1 := B2.out.frozen 1
  go_wp2_with fail
  have B7 : Blk ((w2.setCell ⟨w.heap.size, 0, none⟩ (.int .i64 n1)).setCell ⟨w.heap.size, 1, none⟩ (.slice a l.length c)) w.heap.size 141 #[.int .i64 n1, .slice a l.length c] := by simpa using (B2.out.set_ 0 (.int .i64 n1)).set_ 1 (.slice a l.length c)
  have z0 := B7.cell 0
  have z1 := B7.cell 1
  have kk : Kept [w.heap.size] w2 ((w2.setCell ⟨w.heap.size, 0, none⟩ (.int .i64 n1)).setCell ⟨w.heap.size, 1, none⟩ (.slice a l.length c)) := ((Kept.refl _ _).setCell (by simp) _).setCell (by simp) _
  refine bodyPost_ret (v := .agg #[.int .i64 n1, .slice a l.length c]) (by simp [results, Tryz.results135, go_sem, z0, z1]) rfl ⟨a, c, rfl, ?_, ?_, ?_⟩
  · refine own_base (own_keep HO.out kk fun z hz hm => ?_) (by omega)
    have := (own_ge HO.out z hz).1
    rw [List.mem_singleton] at hm
    omega
  · exact T2.out.keep kk (by simp; omega) (by simp; exact HG.out)
  · exact (K2.out.setCell (Or.inr (Nat.le_refl _)) _).setCell (Or.inr (Nat.le_refl _)) _
end Go.Proofs.YtabiklpemoijcaaGreatDoor
