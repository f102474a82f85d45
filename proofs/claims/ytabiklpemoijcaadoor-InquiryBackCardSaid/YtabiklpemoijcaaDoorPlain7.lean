/- The plain law: minutes read back, no other text is read; the signed text tells the votes apart. -/
import Derived.Test.YtabiklpemoijcaaDoorFewV
import Derived.Test.YtabiklpemoijcaaDoorSame
namespace Go.Proofs.YtabiklpemoijcaaDoor
open Go.RowKit

structure OkO (o : Opening) : Prop where
  h0 : Wire.I64 o.version
  h1 : Wire.I64 o.gate
  h2 : Wire.I64 o.no
  h5 : Wire.I64 o.holder
  h4 : ∀ x ∈ o.jurors, Wire.I64 x
  l3 : o.reason.length ≤ 1000000
  l4 : o.jurors.length ≤ 1000001

theorem OpenV.ok {w : World} {v : Value} {o : Opening} (h : OpenV w v o) : OkO o := ⟨h.h0, h.h1, h.h2, h.h5, h.h4, h.l3, h.l4⟩

theorem read_minutes (o : Opening) (h : OkO o) : readMinutes (minutesE o) = (o, true) := by
  have h3 : ∀ x ∈ [o.version, o.gate, o.no], Wire.I64 x := by
    intro x hx
    simp only [List.mem_cons, List.not_mem_nil, or_false] at hx
    rcases hx with rfl | rfl | rfl
    · exact h.h0
    · exact h.h1
    · exact h.h2
  have l3 := h.l3
  have l4 := h.l4
  have e1 : Wire.nums ⟨minutesE o, false⟩ = ([o.version, o.gate, o.no], ⟨Wire.textE o.reason ++ (Wire.numsE o.jurors ++ Wire.intE o.holder), false⟩) := Wire.nums_ok _ _ (by simp) h3
  have e2 := Wire.text_ok o.reason (Wire.numsE o.jurors ++ Wire.intE o.holder) (by omega)
  have e3 := Wire.nums_ok o.jurors (Wire.intE o.holder) (by omega) h.h4
  have e4 : Wire.number 59 (-9223372036854775808) ⟨Wire.intE o.holder, false⟩ = (o.holder, ⟨[], false⟩) := by
    have := Wire.int_codec.fwd o.holder [] h.h5
    simpa using this
  rw [readMinutes_eq e1 e2 e3 e4]
  simp

theorem read_inv (s : List UInt8) (o : Opening) (h : readMinutes s = (o, true)) : minutesE o = s := by
  obtain ⟨head, r1, h1⟩ : ∃ a b, Wire.nums ⟨s, false⟩ = (a, b) := ⟨_, _, rfl⟩
  obtain ⟨reason, r2, h2⟩ : ∃ a b, Wire.text r1 = (a, b) := ⟨_, _, rfl⟩
  obtain ⟨jurors, r3, h3⟩ : ∃ a b, Wire.nums r2 = (a, b) := ⟨_, _, rfl⟩
  obtain ⟨holder, r4, h4⟩ : ∃ a b, Wire.number 59 (-9223372036854775808) r3 = (a, b) := ⟨_, _, rfl⟩
  rw [readMinutes_eq h1 h2 h3 h4] at h
  split at h
  · next hc =>
    obtain ⟨hb, hl⟩ := hc
    simp only [Bool.and_eq_true, Bool.not_eq_true'] at hb
    obtain ⟨hb, he⟩ := hb
    have hr : r4.rest = [] := by simpa using he
    obtain ⟨b3, q4, _⟩ := Wire.int_codec.inv r3 (by rw [h4]; exact hb)
    rw [h4] at q4
    simp only [hr, List.append_nil] at q4
    obtain ⟨b2, q3, _⟩ := Wire.nums_inv r2 (by rw [h3]; exact b3)
    rw [h3] at q3
    simp only at q3
    obtain ⟨b1, q2, _⟩ := Wire.text_inv r1 (by rw [h2]; exact b2)
    rw [h2] at q2
    simp only at q2
    obtain ⟨_, q1, _⟩ := Wire.nums_inv ⟨s, false⟩ (by rw [h1]; exact b1)
    rw [h1] at q1
    simp only at q1
    obtain rfl : o = ⟨head.getD 0 0, head.getD 1 0, head.getD 2 0, reason, jurors, holder⟩ := ((Prod.mk.inj h).1).symm
    match head, hl with
    | [a, b, c], _ =>
      simp only [minutesE]
      rw [q1, q2, q3, q4]
      simp
  · have := (Prod.mk.inj h).2
    cases this

def sameV (a b : Vote) : Bool := (a.juror == b.juror) && ((a.version == b.version) && ((a.gate == b.gate) && ((a.no == b.no) && ((a.reason == b.reason) && decide (a.pts = b.pts)))))

structure OkV (x : Vote) : Prop where
  h0 : Wire.I64 x.juror
  h1 : Wire.I64 x.version
  h2 : Wire.I64 x.gate
  h3 : Wire.I64 x.no
  hp : ∀ n ∈ x.pts, Wire.I64 n
  lr : x.reason.length ≤ 1000000
  lp : x.pts.length ≤ 900000

theorem ballot_read (x : Vote) (h : OkV x) : Wire.nums ⟨ballotE x, false⟩ = ([x.juror, x.version, x.gate, x.no], ⟨Wire.textE x.reason ++ Wire.numsE x.pts, false⟩) ∧
    Wire.text ⟨Wire.textE x.reason ++ Wire.numsE x.pts, false⟩ = (x.reason, ⟨Wire.numsE x.pts, false⟩) ∧ Wire.nums ⟨Wire.numsE x.pts, false⟩ = (x.pts, ⟨[], false⟩) := by
  have lr := h.lr
  have lp := h.lp
  have h4 : ∀ n ∈ [x.juror, x.version, x.gate, x.no], Wire.I64 n := by
    intro n hn
    simp only [List.mem_cons, List.not_mem_nil, or_false] at hn
    rcases hn with rfl | rfl | rfl | rfl
    · exact h.h0
    · exact h.h1
    · exact h.h2
    · exact h.h3
  refine ⟨Wire.nums_ok _ _ (by simp) h4, Wire.text_ok x.reason _ (by omega), ?_⟩
  have := Wire.nums_ok x.pts [] (by omega) h.hp
  simpa using this

theorem ballot_inj {a b : Vote} (ha : OkV a) (hb : OkV b) (h : ballotE a = ballotE b) : a = b := by
  obtain ⟨a1, a2, a3⟩ := ballot_read a ha
  obtain ⟨b1, b2, b3⟩ := ballot_read b hb
  rw [h, b1] at a1
  have e1 := (Prod.mk.inj a1).1
  have e2 : (⟨Wire.textE b.reason ++ Wire.numsE b.pts, false⟩ : Wire.Rd) = ⟨Wire.textE a.reason ++ Wire.numsE a.pts, false⟩ := (Prod.mk.inj a1).2
  rw [← e2, b2] at a2
  have e3 := (Prod.mk.inj a2).1
  have e4 : (⟨Wire.numsE b.pts, false⟩ : Wire.Rd) = ⟨Wire.numsE a.pts, false⟩ := (Prod.mk.inj a2).2
  rw [← e4, b3] at a3
  have e5 := (Prod.mk.inj a3).1
  obtain ⟨aj, av, ag, an, ar, ap⟩ := a
  obtain ⟨bj, bv, bg, bn, br, bp⟩ := b
  simp only [List.cons.injEq, and_true] at e1
  simp only at e3 e5
  obtain ⟨x1, x2, x3, x4⟩ := e1
  subst x1 x2 x3 x4 e3 e5
  rfl

theorem ballot_same (a b : Vote) (ha : OkV a) (hb : OkV b) : (ballotE a == ballotE b) = sameV a b := by
  by_cases h : a = b
  · subst h
    simp [sameV]
  · have h1 : (ballotE a == ballotE b) = false := by rw [beq_eq_false_iff_ne]; exact fun e => h (ballot_inj ha hb e)
    rw [h1]
    symm
    rw [Bool.eq_false_iff]
    intro hs
    apply h
    obtain ⟨aj, av, ag, an, ar, ap⟩ := a
    obtain ⟨bj, bv, bg, bn, br, bp⟩ := b
    simp only [sameV, Bool.and_eq_true, beq_iff_eq, decide_eq_true_eq] at hs
    obtain ⟨rfl, rfl, rfl, rfl, rfl, rfl⟩ := hs
    rfl
end Go.Proofs.YtabiklpemoijcaaDoor
