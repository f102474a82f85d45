/- The documents' bounds: fewLists, fewNums, fewLinks. -/
import Derived.Test.YtabiklpemoijcaaGreatDoorEncM
namespace Go.Proofs.YtabiklpemoijcaaGreatDoor
open Go.RowKit Tape

/-- a test's answer, and what it tells if it is true -/
def FewRet (P : Prop) (w : World) (e : Ending) (w' : World) : Prop := ∃ b, e = .returned (.bool b) ∧ (b = true → P) ∧ Kept [] w w'
theorem all_succ {α : Type} {P : α → Prop} {l : List α} {k : Nat} (hk : k < l.length) (h : ∀ j (h : j < l.length), j < k → P l[j]) (hp : P l[k]) : ∀ j (h : j < l.length), j < k + 1 → P l[j] := fun j hj hjk => by
  rcases (by omega : j < k ∨ j = k) with h1 | rfl
  · exact h j hj h1
  · exact hp
theorem all_mem {α : Type} {P : α → Prop} {l : List α} (h : ∀ j (h : j < l.length), j < l.length → P l[j]) : ∀ x ∈ l, P x := fun x hx => by
  obtain ⟨j, hj, rfl⟩ := List.getElem_of_mem hx
  exact h j hj hj

def FewLs (l : List (List Int)) (n m : Nat) : Prop := l.length ≤ n ∧ ∀ x ∈ l, x.length ≤ m
def FewNs (l : List (List (List Int))) : Prop := l.length ≤ 160 ∧ ∀ x ∈ l, x.length ≤ 10 ∧ ∀ y ∈ x, y.length ≤ 70
def FewLk (l : List (Lnk × List UInt8)) : Prop := l.length ≤ 6 ∧ ∀ x ∈ l, x.2.length ≤ 100 ∧ x.1.2.2.length ≤ 9

set_option maxRecDepth 100000 in
set_option maxHeartbeats 2000000 in
theorem fewLists_any (v : Value) (l : List (List Int)) (n m : Nat) (w : World) (h : RowOf ListR 1 w v l) (hn : n ≤ 1000) (_hm : m ≤ 1000) :
    Calls Tryz.prog 103 #[v, .int .i64 (n : Int), .int .i64 (m : Int)] w (FewRet (FewLs l n m) w) := by
  obtain ⟨a, c, rfl, hl, _⟩ := h.form
  have H := Lib.hid h
  clear h
  go_enter Tryz.func103, Tryz.ntmps103
  go_wp2_with fail
  go_loop [7] (fun i => ∃ k : Nat, k ≤ l.length ∧ k ≤ n + 1 ∧ i = .int .i64 k ∧ ∀ j (h : j < l.length), j < k → l[j].length ≤ m) (fun i => l.length - (intOf i).toNat)
  case atStart => exact ⟨0, Nat.zero_le _, by omega, rfl, fun j _ h => by omega⟩
  case round =>
    obtain ⟨k, hk, hkn, rfl, hall⟩ := hrel
    have HA := Lib.hid hall
    clear hall
    by_cases hlt : k < l.length
    · by_cases h18 : k ≤ n
      · obtain ⟨b, off, u, rfl, x, v1, e1, hv⟩ := H.out.one k hlt
        injection e1 with e1
        subst e1
        obtain ⟨a1, c1, rfl, hl1, _⟩ := hv.form
        by_cases hx : l[k].length ≤ m
        · have HT := Lib.hid (all_succ (P := fun x : List Int => x.length ≤ m) hlt HA.out hx)
          clear hv
          obtain ⟨L, hL⟩ : ∃ L, l[k].length = L := ⟨_, rfl⟩
          rw [hL] at x hl1 hx
          clear hL
          go_wp2_with fail
          go_round
          case rel => exact ⟨k + 1, by omega, by omega, by go_num, HT.out⟩
          case measure => simp [intOf]; omega
        · clear hv
          obtain ⟨L, hL⟩ : ∃ L, l[k].length = L := ⟨_, rfl⟩
          rw [hL] at x hl1 hx
          clear hL
          go_wp2_with fail
          go_ret
          exact ⟨false, rfl, by simp, Kept.refl _ _⟩
      · go_wp2_with fail
        go_ret
        exact ⟨_, rfl, fun h => by simp at h; omega, Kept.refl _ _⟩
    · obtain rfl : k = l.length := by omega
      go_wp2_with fail
      go_ret
      exact ⟨_, rfl, fun h => ⟨by simp at h; omega, all_mem (P := fun x : List Int => x.length ≤ m) HA.out⟩, Kept.refl _ _⟩

set_option maxRecDepth 100000 in
set_option maxHeartbeats 2000000 in
theorem fewNums_any (v : Value) (l : List (List (List Int))) (w : World) (h : RowOf ListsR 1 w v l) :
    Calls Tryz.prog 104 #[v] w (FewRet (FewNs l) w) := by
  obtain ⟨a, c, rfl, hl, _⟩ := h.form
  have H := Lib.hid h
  clear h
  go_enter Tryz.func104, Tryz.ntmps104
  go_wp2_with fail
  go_loopw [3] (fun i wr => ∃ k : Nat, k ≤ l.length ∧ k ≤ 161 ∧ i = .int .i64 k ∧ (∀ j (h : j < l.length), j < k → l[j].length ≤ 10 ∧ ∀ y ∈ l[j], y.length ≤ 70) ∧ Kept [] w wr) (fun i _ => l.length - (intOf i).toNat)
  case atStart => exact ⟨0, Nat.zero_le _, by omega, rfl, fun j _ h => by omega, Kept.refl _ _⟩
  case round =>
    obtain ⟨k, hk, hkn, rfl, hall, hkr⟩ := hrel
    have HA := Lib.hid hall
    clear hall
    by_cases hlt : k < l.length
    · by_cases h18 : k ≤ 160
      · obtain ⟨b, off, u, rfl, x, v1, e1, hv⟩ := H.out.one k hlt
        injection e1 with e1
        subst e1
        have x1 := Kept.cellOf x wr hkr
        have HL : Hid (Calls Tryz.prog 103 #[u, .int .i64 10, .int .i64 70] wr (FewRet (FewLs l[k] 10 70) wr)) := fewLists_any u l[k] 10 70 wr (RowOf.kept hv (fun _ _ y => ListR.kept y hkr) hkr) (by omega) (by omega)
        have HS : Hid (FewLs l[k] 10 70 → ∀ j (h : j < l.length), j < k + 1 → l[j].length ≤ 10 ∧ ∀ y ∈ l[j], y.length ≤ 70) := fun hp => all_succ (P := fun x : List (List Int) => x.length ≤ 10 ∧ ∀ y ∈ x, y.length ≤ 70) hlt HA.out hp
        clear hv x
        go_wp2_with (go_at_call 103; refine HL.out.mono ?_)
        rintro e w1 ⟨bb, rfl, hbb, hk1⟩
        cases bb
        · go_wp2_with fail
          go_ret
          exact ⟨false, rfl, by simp, hkr.trans hk1⟩
        · have HT := Lib.hid (HS.out (hbb rfl))
          clear hbb
          go_wp2_with fail
          go_roundw
          case rel => exact ⟨k + 1, by omega, by omega, by go_num, HT.out, hkr.trans hk1⟩
          case measure => simp [intOf]; omega
      · go_wp2_with fail
        go_ret
        exact ⟨_, rfl, fun h => by simp at h; omega, hkr⟩
    · obtain rfl : k = l.length := by omega
      go_wp2_with fail
      go_ret
      exact ⟨_, rfl, fun h => ⟨by simp at h; omega, all_mem (P := fun x : List (List Int) => x.length ≤ 10 ∧ ∀ y ∈ x, y.length ≤ 70) HA.out⟩, hkr⟩

set_option maxRecDepth 100000 in
set_option maxHeartbeats 2000000 in
theorem fewLinks_any (v : Value) (l : List (Lnk × List UInt8)) (w : World) (h : RowOf LnkR 9 w v l) (hs : ∀ x ∈ l, x.2.length ≤ 9223372036854775807) :
    Calls Tryz.prog 102 #[v] w (FewRet (FewLk l) w) := by
  obtain ⟨a, c, rfl, hl, _⟩ := h.form
  have H := Lib.hid h
  have HS := Lib.hid hs
  clear h hs
  go_enter Tryz.func102, Tryz.ntmps102
  go_wp2_with fail
  go_loop [3] (fun i => ∃ k : Nat, k ≤ l.length ∧ k ≤ 7 ∧ i = .int .i64 k ∧ ∀ j (h : j < l.length), j < k → l[j].2.length ≤ 100 ∧ l[j].1.2.2.length ≤ 9) (fun i => l.length - (intOf i).toNat)
  case atStart => exact ⟨0, Nat.zero_le _, by omega, rfl, fun j _ h => by omega⟩
  case round =>
    obtain ⟨k, hk, hkn, rfl, hall⟩ := hrel
    have HA := Lib.hid hall
    clear hall
    by_cases hlt : k < l.length
    · by_cases h18 : k < 7
      · obtain ⟨b, off, rfl, hcell⟩ := H.out.at_ (by omega)
        obtain ⟨cs, hcl, ⟨u, rfl, hu⟩, hce⟩ := hcell k _ (List.getElem?_eq_getElem hlt)
        obtain ⟨a1, c1, rfl, hl1, _⟩ := hu.form
        have hlen := HS.out l[k] (List.getElem_mem hlt)
        have HT : Hid (l[k].2.length ≤ 100 ∧ l[k].1.2.2.length ≤ 9 → ∀ j (h : j < l.length), j < k + 1 → l[j].2.length ≤ 100 ∧ l[j].1.2.2.length ≤ 9) := fun hp => all_succ (P := fun x : Lnk × List UInt8 => x.2.length ≤ 100 ∧ x.1.2.2.length ≤ 9) hlt HA.out hp
        obtain ⟨x, hx⟩ : ∃ x, l[k] = x := ⟨_, rfl⟩
        rw [hx] at hce hlen HT hl1
        obtain ⟨⟨tt, dare, ans⟩, term⟩ := x
        have x7 : w.cell? ⟨b, off + k * 9 + 7, none⟩ = some (.slice a1 ans.length c1) := by have := hce 7 _ (by omega) rfl; rw [Nat.add_assoc]; exact this
        have x8 : w.cell? ⟨b, off + k * 9 + 8, none⟩ = some (.string ⟨term.toArray⟩) := by have := hce 8 _ (by omega) rfl; rw [Nat.add_assoc]; exact this
        replace hlen : term.length ≤ 9223372036854775807 := hlen
        replace hl1 : ans.length ≤ 9223372036854775807 := hl1
        replace HT : Hid (term.length ≤ 100 ∧ ans.length ≤ 9 → ∀ j (h : j < l.length), j < k + 1 → l[j].2.length ≤ 100 ∧ l[j].1.2.2.length ≤ 9) := HT
        clear hcell hce hcl hu hx
        by_cases h1 : term.length ≤ 100
        · by_cases h2 : ans.length ≤ 9
          · have HT2 := Lib.hid (HT.out ⟨h1, h2⟩)
            go_wp2_with fail
            go_round
            case rel => exact ⟨k + 1, by omega, by omega, by go_num, HT2.out⟩
            case measure => simp [intOf]; omega
          · go_wp2_with fail
            go_ret
            exact ⟨false, rfl, by simp, Kept.refl _ _⟩
        · go_wp2_with fail
          go_ret
          exact ⟨false, rfl, by simp, Kept.refl _ _⟩
      · go_wp2_with fail
        go_ret
        exact ⟨_, rfl, fun h => by simp at h; omega, Kept.refl _ _⟩
    · obtain rfl : k = l.length := by omega
      go_wp2_with fail
      go_ret
      exact ⟨_, rfl, fun h => ⟨by simp at h; omega, all_mem (P := fun x : Lnk × List UInt8 => x.2.length ≤ 100 ∧ x.1.2.2.length ≤ 9) HA.out⟩, Kept.refl _ _⟩
end Go.Proofs.YtabiklpemoijcaaGreatDoor
