/- The law on encodings and contexts: ShowEncodes. -/
import Derived.Test.YtabiklpemoijcaaGreatDoorBnd
import Derived.Test.YtabiklpemoijcaaGreatDoorDec
import Derived.Test.YtabiklpemoijcaaGreatDoorCtxw
import Derived.Test.YtabiklpemoijcaaGreatDoorFewR
import Derived.Test.YtabiklpemoijcaaGreatDoorLess
namespace Go.Proofs.YtabiklpemoijcaaGreatDoor
open Go.RowKit Tape

theorem n7_len {r : Rec} (hf : FewB r) : (nums7E r.n7).length ≤ 2000 := by
  have t1 := hf.tk
  have t2 := hf.sp
  have t3 := hf.lk
  have t4 := hf.cm
  have t5 := hf.ch
  have t6 := hf.bt
  have t7 := hf.es
  have hs : ∀ l ∈ strip r.links, l.length ≤ 6 ∧ ∀ x ∈ l, x.2.2.length ≤ 9 := by
    intro l hl
    obtain ⟨m, hm, rfl⟩ := List.mem_map.1 hl
    refine ⟨by rw [List.length_map]; exact hf.lkl m hm, fun x hx => ?_⟩
    obtain ⟨y, hy, rfl⟩ := List.mem_map.1 hx
    exact hf.lka m hm y hy
  have hsl : (strip r.links).length ≤ 6 := by unfold strip; rw [List.length_map]; exact t3
  have a1 := len_many (enc := tickE) (l := r.tickets) 6 6 t1 (fun x _ => Nat.le_of_eq (len_tick x))
  have a2 := len_many (enc := spndE) (l := r.spends) 6 11 t2 (fun x hx => len_spnd x 9 (hf.spa x hx))
  have a3 := len_many (enc := manyE lnkE) (l := strip r.links) 6 103 hsl (fun l hl => len_many (enc := lnkE) 6 17 (hs l hl).1 fun x hx => by
    have := len_spnd x.2 9 ((hs l hl).2 x hx)
    show (tickE x.1 ++ spndE x.2).length ≤ 17
    rw [List.length_append, len_tick]
    omega)
  have a4 := len_list 25 t4
  have a5 := len_list 18 t5
  have a6 := len_many (enc := listE) (l := r.bits) 10 21 t6 (fun l hl => len_list 20 (hf.btl l hl))
  have a7 := len_list 14 t7
  show (manyE tickE r.tickets ++ (manyE spndE r.spends ++ (manyE (manyE lnkE) (strip r.links) ++ (listE r.commits ++ (listE r.chain ++ (manyE listE r.bits ++ listE r.escrow)))))).length ≤ _
  simp only [List.length_append]
  omega
theorem recE_small {r : Rec} (hi : RecI r) (hf : FewB r) : (recE r).length ≤ 100000000 := by
  have hB := encB_of hi hf
  have h1 := textsE_len (terms r.links) hB.tl hB.ts
  have h2 := numsE_le hB.ok.n7 (by have := n7_len hf; omega)
  have h3 := n7_len hf
  have h4 := pf_ok hi hf
  have h5 := numsE_le h4.1 (by have := h4.2; omega)
  have h6 : (pfE r.proof).length ≤ 4200100 := by unfold pfE; have := h4.2; omega
  have h7 := Wire.itoa_len ((pfE r.proof).length : Int) ⟨by omega, by omega⟩
  unfold recE Wire.textE
  simp only [List.length_append, List.length_cons, List.length_nil]
  omega
/-- every int of a task -/
structure TskI (t : Tsk) : Prop where
  h5 : AllI (head5 t)
  pub : ∀ p ∈ t.passes, Wire.I64 p.pub
  gs : ∀ p ∈ t.passes, AllI p.guests
  rv : AllI t.revoked
theorem okT_of {t : Tsk} (hi : TskI t) (hf : FewT t) : OkT t :=
  ⟨hi.h5, by have := hf.q; omega, by have := hf.lp; omega, fun p hp => by have := (hf.ps p hp).1; omega, hi.pub, fun p hp => by have := (hf.ps p hp).2.1; omega, fun p hp a ha => by have := (hf.ps p hp).2.2.2 a ha; omega, fun p hp => by have := (hf.ps p hp).2.2.1; omega, hi.gs, by have := hf.rv; omega, hi.rv⟩
theorem law_fwd {r : Rec} (hi : RecI r) (hf : FewB r) (hs : r.proof.shaped) : readR (recE r) = (r, true) := readR_ok r (okR_of hi hf) hs
end Go.Proofs.YtabiklpemoijcaaGreatDoor
