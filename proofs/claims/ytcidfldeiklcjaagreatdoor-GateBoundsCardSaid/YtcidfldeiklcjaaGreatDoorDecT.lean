/- A record is read: show.Decode. -/
import Derived.Test.YtcidfldeiklcjaaGreatDoorPfD
import Derived.Test.YtcidfldeiklcjaaGreatDoorDeS
import Derived.Test.YtcidfldeiklcjaaGreatDoorRdS
import Derived.Outline
namespace Go.Proofs.YtcidfldeiklcjaaGreatDoor
open Go.RowKit Tape

theorem infoTk : (Tryz.prog.info? 178).map (fun i => (i.zero, i.size, i.bytes)) = some (some (.agg #[.int .i64 0, .int .i64 0, .int .i64 0, .int .i64 0, .int .i64 0, .int .i64 0]), 6, 48) := by kernel_rfl
theorem infoSp : (Tryz.prog.info? 181).map (fun i => (i.zero, i.size, i.bytes)) = some (some (.agg #[.int .i64 0, .slice none 0 0]), 2, 32) := by kernel_rfl
theorem infoLk : (Tryz.prog.info? 185).map (fun i => (i.zero, i.size, i.bytes)) = some (some (.agg #[.int .i64 0, .int .i64 0, .int .i64 0, .int .i64 0, .int .i64 0, .int .i64 0, .int .i64 0, .slice none 0 0, .string ⟨#[]⟩]), 9, 96) := by kernel_rfl
theorem infoLks : (Tryz.prog.info? 183).map (fun i => (i.zero, i.size, i.bytes)) = some (some (.slice none 0 0), 1, 24) := by kernel_rfl

theorem RowOf_none (w : World) : Row w 1 (.slice none 0 0) ([] : List Int).length (ints []) := ⟨rfl, by simp, none, 0, rfl, by simp, fun h => absurd h (by simp)⟩
/-- what show.Decode gives -/
def DecRet (q : Rec × Bool) (w : World) (e : Ending) (w' : World) : Prop := ∃ v, e = .returned (.tuple #[v, .bool q.2]) ∧ RecV w' v q.1 ∧ Kept [] w w'
/-- what the reader's Texts gives -/
def TextsP (b : Nat) (l : List (List UInt8)) (rd : Wire.Rd) (w : World) (e : Ending) (w' : World) : Prop := ∃ a c, e = .returned (.slice a l.length c) ∧ w'.ownsRow w.heap.size 9 1 (.slice a l.length c) l.length (strs l) ∧ RdAt w' b rd ∧ Kept [b] w w'
theorem rd_textsP {l : List (List UInt8)} {r' : Wire.Rd} (b : Nat) (r : Wire.Rd) (hq : Wire.texts r = (l, r')) (w : World) (h : RdAt w b r) (hE : Env w) (hs : Fits r) :
    Calls Tryz.prog 130 #[.pointer (some ⟨b, 0, none⟩)] w (TextsP b l r' w) :=
  (rd_texts' b r hq w h hE hs).mono fun e w' ⟨v, h1, h2, h3, h4⟩ => by
    obtain ⟨a, c, rfl⟩ := own_len h2 (by decide)
    exact ⟨a, c, h1, h2, h3, h4⟩
def TextP (b : Nat) (l : List UInt8) (rd : Wire.Rd) (w : World) (e : Ending) (w' : World) : Prop := e = .returned (.string ⟨l.toArray⟩) ∧ RdAt w' b rd ∧ Kept [b] w w'
def BoolP (x : Bool) (w : World) (e : Ending) (w' : World) : Prop := e = .returned (.bool x) ∧ Kept [] w w'

def TickP6 (b g : Nat) (t1 t2 t3 t4 t5 t6 : Int) (r : Tp) (w : World) (e : Ending) (w' : World) : Prop := e = .returned (.agg #[.int .i64 t1, .int .i64 t2, .int .i64 t3, .int .i64 t4, .int .i64 t5, .int .i64 t6]) ∧ TpAt 174 w' b g r ∧ Kept [b] w w'
theorem own_max {w : World} {B : Nat} {e : TypeId} {size n : Nat} {v : Value} {xs : List Value} (h : w.ownsRow B e size v n xs) (hs : 0 < size) : n ≤ 9223372036854775807 := by
  rcases h.2 with ⟨_, h4⟩ | ⟨g, cap, cur, _, _, _, h1, h2, _⟩
  · have h5 := h.1
    rw [h4] at h5
    rcases Nat.eq_zero_or_pos n with h | h
    · omega
    · have := Nat.mul_pos h hs
      simp at h5
      omega
  · unfold maxLen at h2
    omega
theorem recV_zero (w : World) : RecV w (.agg zeros9) zeroR :=
  ⟨_, _, _, _, _, _, _, _, _, rfl, RowOf.nil_ _ _ _, RowOf.nil_ _ _ _, RowOf.nil_ _ _ _, RowOf_none w, RowOf_none w, RowOf.nil_ _ _ _, RowOf_none w, RowOf.nil_ _ _ _, RowOf.nil_ _ _ _⟩
theorem readR_eq {s tx : List UInt8} {ts : List (List UInt8)} {ns : List Int} {rd1 rd2 rd3 : Wire.Rd} {p : Pf} {ok : Bool} (h1 : Wire.texts ⟨s, false⟩ = (ts, rd1)) (h2 : Wire.nums rd1 = (ns, rd2)) (h3 : Wire.text rd2 = (tx, rd3)) (h4 : readPf tx = (p, ok)) :
    readR s = joinR ts ns rd3 (p, ok) := by
  unfold readR
  rw [h1]
  simp only
  rw [h2]
  simp only
  rw [h3]
  simp only
  rw [h4]
theorem nums7_eq {r r1 r2 r3 r4 r5 r6 r7 : Tp} {tk : List Tick} {sp : List Spnd} {lk : List (List Lnk)} {cm ch es : List Int} {bt : List (List Int)} (h1 : many tick r = (tk, r1)) (h2 : many spnd r1 = (sp, r2)) (h3 : many (many lnk) r2 = (lk, r3)) (h4 : list r3 = (cm, r4)) (h5 : list r4 = (ch, r5)) (h6 : many list r5 = (bt, r6)) (h7 : list r6 = (es, r7)) :
    nums7 r = ((tk, sp, lk, cm, ch, bt, es), r7) := by
  simp only [nums7, both, h1, h2, h3, h4, h5, h6, h7]
end Go.Proofs.YtcidfldeiklcjaaGreatDoor
