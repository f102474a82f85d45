/- Equal records compare as equal: SameNums, SameProof, tickets, spends, SameRecord. -/
import Derived.Test.YtpcdfepndmconaaGreatDoorEncM
import Derived.Test.YtpcdfepndmconaaGreatDoorKnu
import Derived.Test.YtpcdfepndmconaaGreatDoorBallot
/- JOINED: FewS SameR SameS -/
/- The documents' bounds: fewLists, fewNums, fewLinks. -/
namespace Go.Proofs.YtpcdfepndmconaaGreatDoor
open Go.RowKit Tape

/-- a test's answer, and what it tells if it is true -/
def FewRet (P : Prop) (w : World) (e : Ending) (w' : World) : Prop := ∃ b, e = .returned (.bool b) ∧ (b = true → P) ∧ Kept [] w w'
theorem all_succ {α : Type} {P : α → Prop} {l : List α} {k : Nat} (hk : k < l.length) (h : ∀ j (h : j < l.length), j < k → P l[j]) (hp : P l[k]) : ∀ j (h : j < l.length), j < k + 1 → P l[j] := fun j hj hjk => by
  rcases (by omega : j < k ∨ j = k) with h1 | rfl
  · exact h j hj h1
  · exact hp
theorem all_mem {α : Type} {P : α → Prop} {l : List α} (h : ∀ j (h : j < l.length), j < l.length → P l[j]) : ∀ x ∈ l, P x := fun x hx => by
  obtain ⟨j, hj, rfl⟩ := List.getElem_of_mem hx
  exact h j hj hj

def FewLs (l : List (List Int)) (n m : Nat) : Prop := l.length ≤ n ∧ ∀ x ∈ l, x.length ≤ m
def FewNs (l : List (List (List Int))) : Prop := l.length ≤ 160 ∧ ∀ x ∈ l, x.length ≤ 10 ∧ ∀ y ∈ x, y.length ≤ 70
def FewLk (l : List (Lnk × List UInt8)) : Prop := l.length ≤ 6 ∧ ∀ x ∈ l, x.2.length ≤ 100 ∧ x.1.2.2.length ≤ 9

set_option maxRecDepth 100000 in
set_option maxHeartbeats 2000000 in
theorem fewLists_any (v : Value) (l : List (List Int)) (n m : Nat) (w : World) (h : RowOf ListR 1 w v l) (hn : n ≤ 1000) (_hm : m ≤ 1000) :
    Calls Tryz.prog 78 #[v, .int .i64 (n : Int), .int .i64 (m : Int)] w (FewRet (FewLs l n m) w) := by
  obtain ⟨a, c, rfl, hl, _⟩ := h.form
  have H := Lib.hid h
  clear h
  go_enter Tryz.func78, Tryz.ntmps78
  go_wp2_with fail
  go_loop [7] (fun i => ∃ k : Nat, k ≤ l.length ∧ k ≤ n + 1 ∧ i = .int .i64 k ∧ ∀ j (h : j < l.length), j < k → l[j].length ≤ m) (fun i => l.length - (intOf i).toNat)
  case atStart => exact ⟨0, Nat.zero_le _, by omega, rfl, fun j _ h => by omega⟩
  case round =>
    obtain ⟨k, hk, hkn, rfl, hall⟩ := hrel
    have HA := Lib.hid hall
    clear hall
    by_cases hlt : k < l.length
    · by_cases h18 : k ≤ n
      · obtain ⟨b, off, u, rfl, x, v1, e1, hv⟩ := H.out.one k hlt
        injection e1 with e1
        subst e1
        obtain ⟨a1, c1, rfl, hl1, _⟩ := hv.form
        by_cases hx : l[k].length ≤ m
        · have HT := Lib.hid (all_succ (P := fun x : List Int => x.length ≤ m) hlt HA.out hx)
          clear hv
          obtain ⟨L, hL⟩ : ∃ L, l[k].length = L := ⟨_, rfl⟩
          rw [hL] at x hl1 hx
          clear hL
          go_wp2_with fail
          go_round
          case rel => exact ⟨k + 1, by omega, by omega, by go_num, HT.out⟩
          case measure => simp [intOf]; omega
        · clear hv
          obtain ⟨L, hL⟩ : ∃ L, l[k].length = L := ⟨_, rfl⟩
          rw [hL] at x hl1 hx
          clear hL
          go_wp2_with fail
          go_ret
          exact ⟨false, rfl, by simp, Kept.refl _ _⟩
      · go_wp2_with fail
        go_ret
        exact ⟨_, rfl, fun h => by simp at h; omega, Kept.refl _ _⟩
    · obtain rfl : k = l.length := by omega
      go_wp2_with fail
      go_ret
      exact ⟨_, rfl, fun h => ⟨by simp at h; omega, all_mem (P := fun x : List Int => x.length ≤ m) HA.out⟩, Kept.refl _ _⟩

set_option maxRecDepth 100000 in
set_option maxHeartbeats 2000000 in
theorem fewNums_any (v : Value) (l : List (List (List Int))) (w : World) (h : RowOf ListsR 1 w v l) :
    Calls Tryz.prog 79 #[v] w (FewRet (FewNs l) w) := by
  obtain ⟨a, c, rfl, hl, _⟩ := h.form
  have H := Lib.hid h
  clear h
  go_enter Tryz.func79, Tryz.ntmps79
  go_wp2_with fail
  go_loopw [3] (fun i wr => ∃ k : Nat, k ≤ l.length ∧ k ≤ 161 ∧ i = .int .i64 k ∧ (∀ j (h : j < l.length), j < k → l[j].length ≤ 10 ∧ ∀ y ∈ l[j], y.length ≤ 70) ∧ Kept [] w wr) (fun i _ => l.length - (intOf i).toNat)
  case atStart => exact ⟨0, Nat.zero_le _, by omega, rfl, fun j _ h => by omega, Kept.refl _ _⟩
  case round =>
    obtain ⟨k, hk, hkn, rfl, hall, hkr⟩ := hrel
    have HA := Lib.hid hall
    clear hall
    by_cases hlt : k < l.length
    · by_cases h18 : k ≤ 160
      · obtain ⟨b, off, u, rfl, x, v1, e1, hv⟩ := H.out.one k hlt
        injection e1 with e1
        subst e1
        have x1 := Kept.cellOf x wr hkr
        have HL : Hid (Calls Tryz.prog 78 #[u, .int .i64 10, .int .i64 70] wr (FewRet (FewLs l[k] 10 70) wr)) := fewLists_any u l[k] 10 70 wr (RowOf.kept hv (fun _ _ y => ListR.kept y hkr) hkr) (by omega) (by omega)
        have HS : Hid (FewLs l[k] 10 70 → ∀ j (h : j < l.length), j < k + 1 → l[j].length ≤ 10 ∧ ∀ y ∈ l[j], y.length ≤ 70) := fun hp => all_succ (P := fun x : List (List Int) => x.length ≤ 10 ∧ ∀ y ∈ x, y.length ≤ 70) hlt HA.out hp
        clear hv x
        go_wp2_with (go_at_call 78; refine HL.out.mono ?_)
        rintro e w1 ⟨bb, rfl, hbb, hk1⟩
        cases bb
        · go_wp2_with fail
          go_ret
          exact ⟨false, rfl, by simp, hkr.trans hk1⟩
        · have HT := Lib.hid (HS.out (hbb rfl))
          clear hbb
          go_wp2_with fail
          go_roundw
          case rel => exact ⟨k + 1, by omega, by omega, by go_num, HT.out, hkr.trans hk1⟩
          case measure => simp [intOf]; omega
      · go_wp2_with fail
        go_ret
        exact ⟨_, rfl, fun h => by simp at h; omega, hkr⟩
    · obtain rfl : k = l.length := by omega
      go_wp2_with fail
      go_ret
      exact ⟨_, rfl, fun h => ⟨by simp at h; omega, all_mem (P := fun x : List (List Int) => x.length ≤ 10 ∧ ∀ y ∈ x, y.length ≤ 70) HA.out⟩, hkr⟩

set_option maxRecDepth 100000 in
set_option maxHeartbeats 2000000 in
theorem fewLinks_any (v : Value) (l : List (Lnk × List UInt8)) (w : World) (h : RowOf LnkR 9 w v l) (hs : ∀ x ∈ l, x.2.length ≤ 9223372036854775807) :
    Calls Tryz.prog 77 #[v] w (FewRet (FewLk l) w) := by
  obtain ⟨a, c, rfl, hl, _⟩ := h.form
  have H := Lib.hid h
  have HS := Lib.hid hs
  clear h hs
  go_enter Tryz.func77, Tryz.ntmps77
  go_wp2_with fail
  go_loop [3] (fun i => ∃ k : Nat, k ≤ l.length ∧ k ≤ 7 ∧ i = .int .i64 k ∧ ∀ j (h : j < l.length), j < k → l[j].2.length ≤ 100 ∧ l[j].1.2.2.length ≤ 9) (fun i => l.length - (intOf i).toNat)
  case atStart => exact ⟨0, Nat.zero_le _, by omega, rfl, fun j _ h => by omega⟩
  case round =>
    obtain ⟨k, hk, hkn, rfl, hall⟩ := hrel
    have HA := Lib.hid hall
    clear hall
    by_cases hlt : k < l.length
    · by_cases h18 : k < 7
      · obtain ⟨b, off, rfl, hcell⟩ := H.out.at_ (by omega)
        obtain ⟨cs, hcl, ⟨u, rfl, hu⟩, hce⟩ := hcell k _ (List.getElem?_eq_getElem hlt)
        obtain ⟨a1, c1, rfl, hl1, _⟩ := hu.form
        have hlen := HS.out l[k] (List.getElem_mem hlt)
        have HT : Hid (l[k].2.length ≤ 100 ∧ l[k].1.2.2.length ≤ 9 → ∀ j (h : j < l.length), j < k + 1 → l[j].2.length ≤ 100 ∧ l[j].1.2.2.length ≤ 9) := fun hp => all_succ (P := fun x : Lnk × List UInt8 => x.2.length ≤ 100 ∧ x.1.2.2.length ≤ 9) hlt HA.out hp
        obtain ⟨x, hx⟩ : ∃ x, l[k] = x := ⟨_, rfl⟩
        rw [hx] at hce hlen HT hl1
        obtain ⟨⟨tt, dare, ans⟩, term⟩ := x
        have x7 : w.cell? ⟨b, off + k * 9 + 7, none⟩ = some (.slice a1 ans.length c1) := by have := hce 7 _ (by omega) rfl; rw [Nat.add_assoc]; exact this
        have x8 : w.cell? ⟨b, off + k * 9 + 8, none⟩ = some (.string ⟨term.toArray⟩) := by have := hce 8 _ (by omega) rfl; rw [Nat.add_assoc]; exact this
        replace hlen : term.length ≤ 9223372036854775807 := hlen
        replace hl1 : ans.length ≤ 9223372036854775807 := hl1
        replace HT : Hid (term.length ≤ 100 ∧ ans.length ≤ 9 → ∀ j (h : j < l.length), j < k + 1 → l[j].2.length ≤ 100 ∧ l[j].1.2.2.length ≤ 9) := HT
        clear hcell hce hcl hu hx
        by_cases h1 : term.length ≤ 100
        · by_cases h2 : ans.length ≤ 9
          · have HT2 := Lib.hid (HT.out ⟨h1, h2⟩)
            go_wp2_with fail
            go_round
            case rel => exact ⟨k + 1, by omega, by omega, by go_num, HT2.out⟩
            case measure => simp [intOf]; omega
          · go_wp2_with fail
            go_ret
            exact ⟨false, rfl, by simp, Kept.refl _ _⟩
        · go_wp2_with fail
          go_ret
          exact ⟨false, rfl, by simp, Kept.refl _ _⟩
      · go_wp2_with fail
        go_ret
        exact ⟨_, rfl, fun h => by simp at h; omega, Kept.refl _ _⟩
    · obtain rfl : k = l.length := by omega
      go_wp2_with fail
      go_ret
      exact ⟨_, rfl, fun h => ⟨by simp at h; omega, all_mem (P := fun x : Lnk × List UInt8 => x.2.length ≤ 100 ∧ x.1.2.2.length ≤ 9) HA.out⟩, Kept.refl _ _⟩
end Go.Proofs.YtpcdfepndmconaaGreatDoor
/- Equal things compare as equal: SameInts, SameLists, SameNums, SameProof, tickets and spends. -/
namespace Go.Proofs.YtpcdfepndmconaaGreatDoor
open Go.RowKit Tape

set_option maxHeartbeats 800000 in
theorem sameInts_any (va vb : Value) (a b : List Int) (w : World) (ha : Row w 1 va a.length (ints a)) (hb : Row w 1 vb b.length (ints b)) :
    Calls Tryz.prog 37 #[va, vb] w fun e w' => e = .returned (.bool (decide (a = b))) ∧ Kept [] w w' := by
  obtain ⟨aa, ca, rfl, hla, _⟩ := ha.form
  obtain ⟨ab, cb, rfl, hlb, _⟩ := hb.form
  by_cases hl : a.length = b.length
  · have hlq : ((a.length : Int) != (b.length : Int)) = false := by simp; omega
    have HL := Lib.hid hl
    clear hl
    go_enter Tryz.func37, Tryz.ntmps37
    go_wp2_with fail
    go_loopw [5] (fun i wr => ∃ k : Nat, k ≤ a.length ∧ i = .int .i64 k ∧ (a = b ↔ a.drop k = b.drop k) ∧ Kept [] w wr) (fun i _ => a.length - (intOf i).toNat)
    case atStart => exact ⟨0, Nat.zero_le _, rfl, by simp, Kept.refl _ _⟩
    case round =>
      obtain ⟨k, hk, rfl, hr, hkr⟩ := hrel
      have HR := Lib.hid hr
      clear hr
      by_cases hlt : k < a.length
      · have hltb : k < b.length := by have := HL.out; omega
        obtain ⟨ba, oa, rfl, hca⟩ := (ha.kept hkr).at_ (by omega)
        obtain ⟨bb, ob, rfl, hcb⟩ := (hb.kept hkr).at_ (by omega)
        have xa := hca k _ (ints_get hlt)
        have xb := hcb k _ (ints_get hltb)
        have hda : a.drop k = a[k] :: a.drop (k + 1) := List.drop_eq_getElem_cons hlt
        have hdb : b.drop k = b[k] :: b.drop (k + 1) := List.drop_eq_getElem_cons hltb
        by_cases he : a[k] = b[k]
        · have heq : (a[k] != b[k]) = false := by simp [he]
          have hn : a = b ↔ a.drop (k + 1) = b.drop (k + 1) := by rw [HR.out, hda, hdb, he]; exact ⟨fun h => (List.cons.inj h).2, fun h => by rw [h]⟩
          have HN := Lib.hid hn
          clear hn hda hdb he hca hcb
          go_wp2_with fail
          go_quiet (fail)
          go_wp2_with fail
          go_roundw
          case rel => exact ⟨k + 1, by omega, by go_num, HN.out, hkr.drewN _⟩
          case measure => simp [intOf]; omega
        · have heq : (a[k] != b[k]) = true := by simp [he]
          have hn : ¬ a = b := by rw [HR.out, hda, hdb]; intro h; injection h with h1; exact he h1
          have HN := Lib.hid hn
          clear hn hda hdb he hca hcb
          go_wp2_with fail
          go_quiet (fail)
          go_wp2_with fail
          go_ret
          exact ⟨by rw [decide_eq_false HN.out]; rfl, hkr.drewN _⟩
      · obtain rfl : k = a.length := by omega
        have hn : a = b := by rw [HR.out, List.drop_length, HL.out, List.drop_length]
        have HN := Lib.hid hn
        clear hn
        go_wp2_with fail
        go_ret
        exact ⟨by rw [decide_eq_true HN.out]; rfl, hkr⟩
  · have hlq : ((a.length : Int) != (b.length : Int)) = true := by simp; omega
    have hn : ¬ a = b := fun h => hl (by rw [h])
    have HN := Lib.hid hn
    clear hn hl
    go_enter Tryz.func37, Tryz.ntmps37
    go_wp2_with fail
    go_ret
    exact ⟨by rw [decide_eq_false HN.out]; rfl, Kept.refl _ _⟩


theorem sameInts_eq {va vb : Value} {l : List Int} {w : World} (ha : Row w 1 va l.length (ints l)) (hb : Row w 1 vb l.length (ints l)) :
    Calls Tryz.prog 37 #[va, vb] w fun e w' => e = .returned (.bool true) ∧ Kept [] w w' :=
  (sameInts_any va vb l l w ha hb).mono fun _ _ h => ⟨by rw [h.1]; simp, h.2⟩

set_option maxRecDepth 100000 in
set_option maxHeartbeats 1000000 in
theorem sameLists_eq (va vb : Value) (l : List (List Int)) (w : World) (ha : RowOf ListR 1 w va l) (hb : RowOf ListR 1 w vb l) :
    Calls Tryz.prog 128 #[va, vb] w fun e w' => e = .returned (.bool true) ∧ Kept [] w w' := by
  obtain ⟨aa, ca, rfl, hla, _⟩ := ha.form
  obtain ⟨ab, cb, rfl, hlb, _⟩ := hb.form
  have HA := Lib.hid ha
  have HB := Lib.hid hb
  have hlq : ((l.length : Int) != (l.length : Int)) = false := by simp
  clear ha hb
  go_enter Tryz.func128, Tryz.ntmps128
  go_wp2_with fail
  go_loopw [5] (fun i wr => ∃ k : Nat, k ≤ l.length ∧ i = .int .i64 k ∧ Kept [] w wr) (fun i _ => l.length - (intOf i).toNat)
  case atStart => exact ⟨0, Nat.zero_le _, rfl, Kept.refl _ _⟩
  case round =>
    obtain ⟨k, hk, rfl, hkr⟩ := hrel
    by_cases hlt : k < l.length
    · obtain ⟨ba, oa, ua, rfl, xa, v1, e1, hva⟩ := (RowOf.kept HA.out (fun _ _ x => x.kept hkr) hkr).one k hlt
      obtain ⟨bb, ob, ub, rfl, xb, v2, e2, hvb⟩ := (RowOf.kept HB.out (fun _ _ x => x.kept hkr) hkr).one k hlt
      injection e1 with e1
      injection e2 with e2
      subst e1 e2
      have HV : Hid (Calls Tryz.prog 37 #[ua, ub] wr.drew fun e w' => e = .returned (.bool true) ∧ Kept [] wr.drew w') := sameInts_eq (hva.kept ((Kept.refl _ _).drew)) (hvb.kept ((Kept.refl _ _).drew))
      have HC : Hid (∀ x : KW wr, Calls Tryz.prog 37 #[ua, ub] x.val fun e w' => e = .returned (.bool true) ∧ Kept [] x.val w') := fun x => sameInts_eq (hva.kept x.property) (hvb.kept x.property)
      have ya : ∀ x : KW wr, x.val.cell? ⟨ba, oa + k, none⟩ = some ua := fun x => x.cell xa
      have yb : ∀ x : KW wr, x.val.cell? ⟨bb, ob + k, none⟩ = some ub := fun x => x.cell xb
      clear hva hvb HV
      go_upto_region 6 with (fail)
      refine wp_region_kept wr (Kept.refl _ _) (by kernel_rfl) (by kernel_rfl) ?_
      repeat (go_big_quiet_step ((go_at_call 37; exact quiet_kept (HC.out _))))
      refine wpQuiet_nil ?_
      rintro w2 ⟨⟨_, hk3⟩, rfl⟩
      go_wp2_with fail
      go_roundw
      case rel => exact ⟨k + 1, by omega, by go_num, hkr.trans hk3⟩
      case measure => simp [intOf]; omega
    · obtain rfl : k = l.length := by omega
      go_wp2_with fail
      go_ret
      exact ⟨rfl, hkr⟩
end Go.Proofs.YtpcdfepndmconaaGreatDoor
namespace Go.Proofs.YtpcdfepndmconaaGreatDoor
open Go.RowKit Tape

set_option maxRecDepth 100000 in
set_option maxHeartbeats 1000000 in
theorem sameNums3_eq (va vb : Value) (l : List (List (List Int))) (w : World) (ha : RowOf ListsR 1 w va l) (hb : RowOf ListsR 1 w vb l) :
    Calls Tryz.prog 185 #[va, vb] w fun e w' => e = .returned (.bool true) ∧ Kept [] w w' := by
  obtain ⟨aa, ca, rfl, hla, _⟩ := ha.form
  obtain ⟨ab, cb, rfl, hlb, _⟩ := hb.form
  have HA := Lib.hid ha
  have HB := Lib.hid hb
  have hlq : ((l.length : Int) != (l.length : Int)) = false := by simp
  clear ha hb
  go_enter Tryz.func185, Tryz.ntmps185
  go_wp2_with fail
  go_loopw [5] (fun i wr => ∃ k : Nat, k ≤ l.length ∧ i = .int .i64 k ∧ Kept [] w wr) (fun i _ => l.length - (intOf i).toNat)
  case atStart => exact ⟨0, Nat.zero_le _, rfl, Kept.refl _ _⟩
  case round =>
    obtain ⟨k, hk, rfl, hkr⟩ := hrel
    by_cases hlt : k < l.length
    · obtain ⟨ba, oa, ua, rfl, xa, v1, e1, hva⟩ := (RowOf.kept HA.out (fun _ _ x => x.kept hkr) hkr).one k hlt
      obtain ⟨bb, ob, ub, rfl, xb, v2, e2, hvb⟩ := (RowOf.kept HB.out (fun _ _ x => x.kept hkr) hkr).one k hlt
      injection e1 with e1
      injection e2 with e2
      subst e1 e2
      have HC : Hid (∀ x : KW wr, Calls Tryz.prog 128 #[ua, ub] x.val fun e w' => e = .returned (.bool true) ∧ Kept [] x.val w') := fun x => sameLists_eq _ _ _ _ (RowOf.kept hva (fun _ _ y => ListR.kept y x.property) x.property) (RowOf.kept hvb (fun _ _ y => ListR.kept y x.property) x.property)
      have ya : ∀ x : KW wr, x.val.cell? ⟨ba, oa + k, none⟩ = some ua := fun x => x.cell xa
      have yb : ∀ x : KW wr, x.val.cell? ⟨bb, ob + k, none⟩ = some ub := fun x => x.cell xb
      clear hva hvb
      go_upto_region 6 with (fail)
      refine wp_region_kept wr (Kept.refl _ _) (by kernel_rfl) (by kernel_rfl) ?_
      repeat (go_big_quiet_step ((go_at_call 128; exact quiet_kept (HC.out _))))
      refine wpQuiet_nil ?_
      rintro w2 ⟨⟨_, hk3⟩, rfl⟩
      go_wp2_with fail
      go_roundw
      case rel => exact ⟨k + 1, by omega, by go_num, hkr.trans hk3⟩
      case measure => simp [intOf]; omega
    · obtain rfl : k = l.length := by omega
      go_wp2_with fail
      go_ret
      exact ⟨rfl, hkr⟩

set_option maxRecDepth 100000 in
set_option maxHeartbeats 1000000 in
theorem sameProof_eq (da an db bn : Value) (p : Pf) (w : World) (h1 : RowOf ListR 1 w da p.dares) (h2 : RowOf ListsR 1 w an p.answers) (h3 : RowOf ListR 1 w db p.dares) (h4 : RowOf ListsR 1 w bn p.answers) :
    Calls Tryz.prog 129 #[.agg #[da, an], .agg #[db, bn]] w fun e w' => e = .returned (.bool true) ∧ Kept [] w w' := by
  obtain ⟨a1, c1, rfl, _, _⟩ := h1.form
  obtain ⟨a2, c2, rfl, _, _⟩ := h2.form
  obtain ⟨a3, c3, rfl, _, _⟩ := h3.form
  obtain ⟨a4, c4, rfl, _, _⟩ := h4.form
  have hb1 := (Blk.new w 65 #[.slice a1 p.dares.length c1, .slice a2 p.answers.length c2]).alloc (.cells #[.slice a3 p.dares.length c3, .slice a4 p.answers.length c4] 65)
  have hb2 := Blk.new (w.alloc (.cells #[.slice a1 p.dares.length c1, .slice a2 p.answers.length c2] 65)) 65 #[.slice a3 p.dares.length c3, .slice a4 p.answers.length c4]
  rw [World.size_alloc] at hb2
  obtain ⟨W, hW⟩ : ∃ W, (w.alloc (.cells #[.slice a1 p.dares.length c1, .slice a2 p.answers.length c2] 65)).alloc (.cells #[.slice a3 p.dares.length c3, .slice a4 p.answers.length c4] 65) = W := ⟨_, rfl⟩
  have hkW : Kept [] w W := hW ▸ ((Kept.refl _ _).alloc _).alloc _
  rw [hW] at hb1 hb2
  have HL : Hid (∀ w', Kept [] W w' → Calls Tryz.prog 128 #[.slice a1 p.dares.length c1, .slice a3 p.dares.length c3] w' fun e w2 => e = .returned (.bool true) ∧ Kept [] w' w2) := fun w' k =>
    sameLists_eq _ _ _ _ (RowOf.kept h1 (fun _ _ y => ListR.kept y (hkW.trans k)) (hkW.trans k)) (RowOf.kept h3 (fun _ _ y => ListR.kept y (hkW.trans k)) (hkW.trans k))
  have HN : Hid (∀ w', Kept [] W w' → Calls Tryz.prog 185 #[.slice a2 p.answers.length c2, .slice a4 p.answers.length c4] w' fun e w2 => e = .returned (.bool true) ∧ Kept [] w' w2) := fun w' k =>
    sameNums3_eq _ _ _ _ (RowOf.kept h2 (fun _ _ y => ListsR.kept y (hkW.trans k)) (hkW.trans k)) (RowOf.kept h4 (fun _ _ y => ListsR.kept y (hkW.trans k)) (hkW.trans k))
  have HW := Lib.hid hW
  have B1 := Lib.hid hb1
  have B2 := Lib.hid hb2
  have e0 := hb1.cell 0
  have e2 := hb2.cell 0
  clear hW h1 h2 h3 h4 hb1 hb2
  go_enter Tryz.func129, Tryz.ntmps129
  go_upto_region 1 with (fail)
  rw [HW.out]
  go_wp2_with (go_at_call 128; refine (HL.out W (Kept.refl _ _)).mono ?_)
  rintro e w1 ⟨rfl, hk1⟩
  clear e0 e2
  have e1 := (B1.out.kept hk1 (by simp)).cell 1
  have e3 := (B2.out.kept hk1 (by simp)).cell 1
  go_wp2_with (go_at_call 185; refine (HN.out w1 hk1).mono ?_)
  rintro e w2 ⟨rfl, hk2⟩
  go_wp2_with fail
  go_ret
  exact ⟨rfl, hkW.trans (hk1.trans hk2)⟩

/-- a list of ints is handed back, in new memory -/
def RowRet (l : List Int) (w : World) (e : Ending) (w' : World) : Prop := ∃ v, e = .returned v ∧ Row w' 1 v l.length (ints l) ∧ Kept [] w w'

set_option maxRecDepth 100000 in
set_option maxHeartbeats 1000000 in
theorem ticket06_any (t : Tick) (w : World) : Calls Tryz.prog 112 #[.agg (tickC t).toArray] w (RowRet (tickE t) w) := by
  obtain ⟨t1, t2, t3, t4, t5, t6⟩ := t
  show Calls _ _ #[.agg #[.int .i64 t1, .int .i64 t2, .int .i64 t3, .int .i64 t4, .int .i64 t5, .int .i64 t6]] _ _
  go_enter Tryz.func112, Tryz.ntmps112
  go_wp2_with fail
  go_ret
  exact ⟨_, rfl, Row.six (by simp only [World.size_alloc]) t1 t2 t3 t4 t5 t6, ((Kept.refl _ _).alloc _).alloc _⟩

set_option maxRecDepth 100000 in
set_option maxHeartbeats 1000000 in
theorem spend06_any (x : Spnd) (u : Value) (w : World) (hu : Row w 1 u x.2.length (ints x.2)) (hs : x.2.length ≤ 100000000) : Calls Tryz.prog 113 #[.agg #[.int .i64 x.1, u]] w (RowRet (spndE x) w) := by
  obtain ⟨dare, ans⟩ := x
  obtain ⟨au, cu, rfl, _, _⟩ := hu.form
  replace hs : ans.length ≤ 100000000 := hs
  obtain ⟨Z, hZ⟩ : ∃ Z, w.alloc (.cells #[.int .i64 dare, .slice au ans.length cu] 110) = Z := ⟨_, rfl⟩
  have hkZ : Kept [] w Z := hZ ▸ (Kept.refl _ _).alloc _
  have bZ : Blk Z w.heap.size 110 #[.int .i64 dare, .slice au ans.length cu] := hZ ▸ Blk.new _ _ _
  have ho := World.ownsRow_lit (base := Z.heap.size) (e := 3) (size := 1) Z #[.int .i64 dare, .int .i64 (ans.length : Int)] 2 (Nat.le_refl _) (by decide) rfl
  have HO : Hid ((Z.alloc (.cells #[.int .i64 dare, .int .i64 (ans.length : Int)] 3)).ownsRow Z.heap.size 3 1 (.slice (some ⟨Z.heap.size, 0, none⟩) 2 2) 2 (ints [dare, (ans.length : Int)])) := ho
  have HU := Lib.hid (hu.kept (hkZ.alloc (.cells #[.int .i64 dare, .int .i64 (ans.length : Int)] 3)))
  have HZ := Lib.hid hZ
  have x0 := bZ.cell 0
  have x1 := bZ.cell 1
  have y1 := (bZ.alloc (.cells #[.int .i64 dare, .int .i64 (ans.length : Int)] 3)).cell 1
  clear hZ ho hu bZ
  go_enter Tryz.func113, Tryz.ntmps113
  go_upto_region 1 with (fail)
  rw [HZ.out]
  go_wp2_with (at_builtin; refine wpList_append_ints rfl _ _ rfl Z.heap.size (.slice (some ⟨Z.heap.size, 0, none⟩) 2 2) 2 [dare, (ans.length : Int)] rfl HO.out (.slice au ans.length cu) ans.length ans rfl HU.out (by omega) (by simp only [World.size_alloc]; omega) ?_)
  intro a1 c1 w1 own1 k1 _
  have hr := Row.of_own own1 (by omega)
  have hk1 : Kept [] w w1 := (hkZ.alloc _).fresh k1 (fun z hz => by
    have := (own_ge HO.out z hz).1
    have := hkZ.size
    omega)
  have hlen : (spndE (dare, ans)).length = 2 + ans.length := by simp [spndE, listE]; omega
  have HR : Hid (Row w1 1 (.slice a1 (2 + ans.length) c1) (spndE (dare, ans)).length (ints (spndE (dare, ans)))) := by
    rw [hlen]
    exact hr
  clear own1 k1 hr x0 x1 y1 hlen
  go_wp2_with fail
  go_ret
  exact ⟨_, rfl, HR.out, hk1⟩
end Go.Proofs.YtpcdfepndmconaaGreatDoor
