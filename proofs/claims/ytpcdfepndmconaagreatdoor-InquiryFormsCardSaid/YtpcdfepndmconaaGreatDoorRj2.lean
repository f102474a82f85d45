/- The reference's statutes: ValidStatute. -/
import Derived.Test.YtpcdfepndmconaaGreatDoorStat
import Derived.Deep.QuietTactic
/- JOINED: Rj1 Rj2 -/
/- The reference's names, limits and sums. -/
namespace Go.Proofs.YtpcdfepndmconaaGreatDoor
open Go.RowKit

/-- a contract that leaves the world alone, met in a region that draws its order -/
theorem quiet_eq {P : Program} {f : FuncId} {args : Array Value} {w : World} {n : Nat} {v : Value}
    (h : Calls P f args (w.drewN n) fun e w' => e = .returned v ∧ w.drewN n = w') : Calls P f args (w.drewN n) fun e w'' => e = .returned v ∧ ∃ m, w'' = w.drewN m :=
  h.mono fun _ _ ⟨he, hm⟩ => ⟨he, n, hm.symm⟩

theorem ix_str (bs : List UInt8) (k : Nat) (hk : k < bs.length) (w : World) : (Instr.index 9 (.string ⟨bs.toArray⟩) (.int .i64 k)).run Tryz.prog w = .ok (.int .u8 ((bs.getD k 0).toNat : Int)) w := by
  rw [run_index_string _ _ _ _ _ Tryz.underlying9, dif_pos ⟨by omega, by show (k : Int) < (bs.length : Int); omega⟩]
  have : (⟨bs.toArray⟩ : ByteArray)[(k : Int).toNat]'(by show _ < bs.length; omega) = bs.getD k 0 := by
    show bs.toArray[(k : Int).toNat]'_ = _
    simp [List.getD, hk]
  rw [this]

set_option maxHeartbeats 400000 in
theorem rletter_any (c : UInt8) (w : World) : Calls Tryz.prog 133 #[.int .u8 (c.toNat : Int)] w fun e w' => e = .returned (.bool (letterB c)) ∧ w = w' := by
  obtain ⟨n, hn⟩ : ∃ n : Nat, c.toNat = n := ⟨_, rfl⟩
  have hb : n < 256 := by rw [← hn]; exact c.toNat_lt
  unfold letterB
  rw [hn]
  clear hn
  rcases (by omega : n < 65 ∨ (65 ≤ n ∧ n ≤ 90) ∨ (90 < n ∧ n < 97) ∨ (97 ≤ n ∧ n ≤ 122) ∨ 122 < n) with h | h | h | h | h
  all_goals
    go_enter Tryz.func133, Tryz.ntmps133
    go_wp2
    go_ret
    refine ⟨retB ?_, rfl⟩
    simp <;> omega

set_option maxHeartbeats 400000 in
theorem rdigit_any (c : UInt8) (w : World) : Calls Tryz.prog 134 #[.int .u8 (c.toNat : Int)] w fun e w' => e = .returned (.bool (digitB c)) ∧ w = w' := by
  obtain ⟨n, hn⟩ : ∃ n : Nat, c.toNat = n := ⟨_, rfl⟩
  have hb : n < 256 := by rw [← hn]; exact c.toNat_lt
  unfold digitB
  rw [hn]
  clear hn
  rcases (by omega : n < 48 ∨ (48 ≤ n ∧ n ≤ 57) ∨ 57 < n) with h | h | h
  all_goals
    go_enter Tryz.func134, Tryz.ntmps134
    go_wp2
    go_ret
    refine ⟨retB ?_, rfl⟩
    simp <;> omega

theorem take_inner {s : List UInt8} {k : Nat} (h : (s.take k).all innerB = true) (hk : k < s.length) (hc : innerB (s.getD k 0) = true) : (s.take (k + 1)).all innerB = true := by
  rw [List.take_succ_eq_append_getElem hk, List.all_append, h]
  simp [List.getD, hk] at hc
  simp [hc]
theorem no_inner {s : List UInt8} {k : Nat} (hk : k < s.length) (hc : innerB (s.getD k 0) = false) : s.all innerB = false := by
  rw [List.all_eq_false]
  exact ⟨s[k], List.getElem_mem hk, by simp [List.getD, hk] at hc; simp [hc]⟩

set_option maxHeartbeats 1600000 in
theorem rname_any (s : List UInt8) (w : World) (hs : s.length ≤ 100000000) :
    Calls Tryz.prog 53 #[.string ⟨s.toArray⟩] w fun e w' => e = .returned (.bool (nameB s)) ∧ w = w' := by
  rcases s with _ | ⟨a, t⟩
  · go_enter Tryz.func53, Tryz.ntmps53
    go_wp2_with fail
    go_ret
    exact ⟨rfl, rfl⟩
  · have HN : Hid (nameB (a :: t) = (letterB a && decide ((a :: t).length ≤ 20) && (a :: t).all innerB)) := by simp [nameB, Hid]
    have HA : Hid ((a :: t).getD 0 0 = a) := rfl
    obtain ⟨s, hsd⟩ : ∃ s, a :: t = s := ⟨_, rfl⟩
    have h1 : 1 ≤ s.length := by rw [← hsd]; simp
    have hs' : s.length ≤ 100000000 := by rw [← hsd]; exact hs
    rw [hsd] at HN HA ⊢
    clear hsd hs
    have IK : Hid (∀ k, k < s.length → ∀ w, (Instr.index 9 (.string ⟨s.toArray⟩) (.int .i64 k)).run Tryz.prog w = .ok (.int .u8 ((s.getD k 0).toNat : Int)) w) := fun k hk w => ix_str s k hk w
    obtain ⟨n, hn⟩ : ∃ n, s.length = n := ⟨_, rfl⟩
    have hsz : (⟨s.toArray⟩ : ByteArray).size = n := hn
    have HL := Lib.hid hn
    rw [hn] at HN IK h1 hs'
    clear hn
    by_cases h20 : n ≤ 20
    · have i0 : ∀ w, (Instr.index 9 (.string ⟨s.toArray⟩) (.int .i64 0)).run Tryz.prog w = .ok (.int .u8 (a.toNat : Int)) w := fun w => by
        have := IK.out 0 (by omega) w
        rw [HA.out] at this
        exact this
      cases hla : letterB a
      · have HF : Hid (nameB s = false) := by show nameB s = false; rw [HN.out, hla]; rfl
        go_enter Tryz.func53, Tryz.ntmps53
        go_wp2_with (go_at_call 133; refine (rletter_any a _).mono ?_; rw [hla]; rintro e w' ⟨rfl, rfl⟩)
        go_ret
        exact ⟨by rw [HF.out]; rfl, rfl⟩
      · have HF : Hid (nameB s = s.all innerB) := by show nameB s = _; rw [HN.out, hla, decide_eq_true h20]; rfl
        have HI : Hid ((s.take 1).all innerB = true) := take_inner (k := 0) (by simp) (by rw [HL.out]; omega) (by rw [HA.out]; simp [innerB, hla])
        go_enter Tryz.func53, Tryz.ntmps53
        go_wp2_with (go_at_call 133; refine (rletter_any a _).mono ?_; rw [hla]; rintro e w' ⟨rfl, rfl⟩)
        clear i0
        go_loop [3] (fun i => ∃ k : Nat, 1 ≤ k ∧ k ≤ n ∧ i = .int .i64 k ∧ (s.take k).all innerB = true) (fun i => n - (intOf i).toNat)
        case atStart => exact ⟨1, by omega, h1, rfl, HI.out⟩
        case round =>
          obtain ⟨k, hk1, hk, rfl, hall⟩ := hrel
          have HM := Lib.hid hall
          clear hall
          by_cases hlt : k < n
          · have xk := IK.out k hlt
            have HIN : Hid (innerB (s.getD k 0) = (letterB (s.getD k 0) || digitB (s.getD k 0) || (s.getD k 0).toNat == 95)) := rfl
            have HNX : Hid (innerB (s.getD k 0) = true → (s.take (k + 1)).all innerB = true) := fun h => take_inner HM.out (by rw [HL.out]; exact hlt) h
            have HNO : Hid (innerB (s.getD k 0) = false → nameB s = false) := fun h => by rw [HF.out]; exact no_inner (by rw [HL.out]; exact hlt) h
            obtain ⟨c, hc⟩ : ∃ c, s.getD k 0 = c := ⟨_, rfl⟩
            rw [hc] at xk HIN HNX HNO
            clear hc
            cases hl : letterB c
            · cases hd : digitB c
              · by_cases h95 : c.toNat = 95
                · have q : ((c.toNat : Int) != 95) = false := by simp; omega
                  have HX := Lib.hid (HNX.out (by rw [HIN.out, hl, hd, h95]; rfl))
                  clear h95
                  go_wp2_with (first
                    | (go_at_call 133; refine (rletter_any c _).mono ?_; rw [hl]; rintro e w' ⟨rfl, rfl⟩)
                    | (go_at_call 134; refine (rdigit_any c _).mono ?_; rw [hd]; rintro e w' ⟨rfl, rfl⟩))
                  go_round
                  case rel => exact ⟨k + 1, by omega, by omega, by go_num, HX.out⟩
                  case measure => simp [intOf]; omega
                · have q : ((c.toNat : Int) != 95) = true := by simp; omega
                  have HX := Lib.hid (HNO.out (by rw [HIN.out, hl, hd]; simpa using h95))
                  clear h95
                  go_wp2_with (first
                    | (go_at_call 133; refine (rletter_any c _).mono ?_; rw [hl]; rintro e w' ⟨rfl, rfl⟩)
                    | (go_at_call 134; refine (rdigit_any c _).mono ?_; rw [hd]; rintro e w' ⟨rfl, rfl⟩))
                  go_ret
                  exact ⟨by rw [HX.out]; rfl, rfl⟩
              · have HX := Lib.hid (HNX.out (by rw [HIN.out, hl, hd]; rfl))
                go_wp2_with (first
                  | (go_at_call 133; refine (rletter_any c _).mono ?_; rw [hl]; rintro e w' ⟨rfl, rfl⟩)
                  | (go_at_call 134; refine (rdigit_any c _).mono ?_; rw [hd]; rintro e w' ⟨rfl, rfl⟩))
                go_round
                case rel => exact ⟨k + 1, by omega, by omega, by go_num, HX.out⟩
                case measure => simp [intOf]; omega
            · have HX := Lib.hid (HNX.out (by rw [HIN.out, hl]; rfl))
              go_wp2_with (go_at_call 133; refine (rletter_any c _).mono ?_; rw [hl]; rintro e w' ⟨rfl, rfl⟩)
              go_round
              case rel => exact ⟨k + 1, by omega, by omega, by go_num, HX.out⟩
              case measure => simp [intOf]; omega
          · obtain rfl : k = n := by omega
            have HX : Hid (nameB s = true) := by
              show nameB s = true
              rw [HF.out]
              have := HM.out
              rwa [← HL.out, List.take_length] at this
            go_wp2_with fail
            go_ret
            exact ⟨by rw [HX.out]; rfl, rfl⟩
    · have HF : Hid (nameB s = false) := by show nameB s = false; rw [HN.out, decide_eq_false h20]; simp
      go_enter Tryz.func53, Tryz.ntmps53
      go_wp2_with fail
      go_ret
      exact ⟨by rw [HF.out]; rfl, rfl⟩

theorem rin_any (n lo hi : Int) (w : World) : Calls Tryz.prog 54 #[.int .i64 n, .int .i64 lo, .int .i64 hi] w fun e w' => e = .returned (.bool (decide (lo ≤ n) && decide (n ≤ hi))) ∧ w = w' := by
  by_cases h1 : lo ≤ n
  · have d1 : decide (lo ≤ n) = true := by simpa using h1
    go_enter Tryz.func54, Tryz.ntmps54
    go_wp2_with fail
    go_ret
    exact ⟨by simp [h1], rfl⟩
  · have d1 : decide (lo ≤ n) = false := by simpa using h1
    go_enter Tryz.func54, Tryz.ntmps54
    go_wp2_with fail
    go_ret
    exact ⟨by simp, rfl⟩

set_option maxHeartbeats 800000 in
theorem rpoints_any (v : Value) (l : List Int) (w : World) (hv : Row w 1 v l.length (ints l)) (hb : ∀ x ∈ l, 0 ≤ x ∧ x ≤ 12) (hl : l.length ≤ 1000) :
    Calls Tryz.prog 55 #[v] w fun e w' => e = .returned (.int .i64 (sumW l)) ∧ w = w' := by
  obtain ⟨aa, ca, rfl, hla, _⟩ := hv.form
  have hsb := sumW_bound l hb
  go_enter Tryz.func55, Tryz.ntmps55
  go_wp2_with fail
  go_loop [3, 4] (fun s i => ∃ (k : Nat) (t : Int), k ≤ l.length ∧ i = .int .i64 k ∧ s = .int .i64 t ∧ sumW l = t + sumW (l.drop k) ∧ 0 ≤ t) (fun _ i => l.length - (intOf i).toNat)
  case atStart => exact ⟨0, 0, Nat.zero_le _, rfl, rfl, by simp, by omega⟩
  case round =>
    obtain ⟨k, t, hk, rfl, rfl, hr, ht⟩ := hrel
    by_cases hlt : k < l.length
    · obtain ⟨ba, oa, rfl, hca⟩ := hv.at_ (by omega)
      have xa := hca k _ (ints_get hlt)
      have hx := hb l[k] (List.getElem_mem hlt)
      have hd : l.drop k = l[k] :: l.drop (k + 1) := List.drop_eq_getElem_cons hlt
      have hsd := sumW_bound (l.drop (k + 1)) (fun x hx => hb x (List.mem_of_mem_drop hx))
      have hn : sumW l = (t + l[k]) + sumW (l.drop (k + 1)) := by rw [hr, hd, sumW_cons]; omega
      have hle : t + l[k] ≤ 12000 := by omega
      have HN := Lib.hid hn
      clear hr hn hd hca hsd
      go_wp2_with fail
      go_round
      case rel => exact ⟨k + 1, t + l[k], by omega, by go_num, rfl, HN.out, by omega⟩
      case measure => simp [intOf]; omega
    · obtain rfl : k = l.length := by omega
      have hn : sumW l = t := by rw [hr]; simp [sumW]
      have HN := Lib.hid hn
      clear hr hn
      go_wp2_with fail
      go_ret
      exact ⟨by rw [HN.out]; rfl, rfl⟩
end Go.Proofs.YtpcdfepndmconaaGreatDoor
namespace Go.Proofs.YtpcdfepndmconaaGreatDoor
open Go.RowKit

set_option maxHeartbeats 1000000 in
/-- the sizes are out of their ranges -/
theorem rvalid_sizes (rs ws : Value) (x : Statute) (w : World) (hr : Row w 1 rs x.reasons.length (strs x.reasons)) (hw : Row w 1 ws x.weights.length (ints x.weights))
    (hno : ¬ (1 ≤ x.reasons.length ∧ x.reasons.length ≤ 16 ∧ 1 ≤ x.weights.length ∧ x.weights.length ≤ 12)) :
    Calls Tryz.prog 10 #[.agg #[rs, .int .i64 x.quorum, ws]] w fun e w' => e = .returned (.bool false) ∧ Kept [] w w' := by
  obtain ⟨ra, rc, rfl, hlr, _⟩ := hr.form
  obtain ⟨wa, wc, rfl, hlw, _⟩ := hw.form
  obtain ⟨n, hn⟩ : ∃ n, x.reasons.length = n := ⟨_, rfl⟩
  obtain ⟨m, hm⟩ : ∃ m, x.weights.length = m := ⟨_, rfl⟩
  rw [hn, hm] at hno
  rw [hn] at hlr ⊢
  rw [hm] at hlw ⊢
  clear hn hm hr hw
  rcases (by omega : n = 0 ∨ 16 < n ∨ (1 ≤ n ∧ n ≤ 16 ∧ m = 0) ∨ (1 ≤ n ∧ n ≤ 16 ∧ 12 < m)) with h | h | h | h
  · subst h
    go_enter Tryz.func10, Tryz.ntmps10
    go_wp2_with fail
    go_ret
    exact ⟨rfl, (Kept.refl _ _).alloc _⟩
  · have q1 : decide ((n : Int) < 1) = false := by simp; omega
    go_enter Tryz.func10, Tryz.ntmps10
    go_wp2_with fail
    go_ret
    exact ⟨rfl, (Kept.refl _ _).alloc _⟩
  · obtain ⟨h1, h2, rfl⟩ := h
    have q1 : decide ((n : Int) < 1) = false := by simp; omega
    go_enter Tryz.func10, Tryz.ntmps10
    go_wp2_with fail
    go_ret
    exact ⟨rfl, (Kept.refl _ _).alloc _⟩
  · obtain ⟨h1, h2, h3⟩ := h
    have q1 : decide ((n : Int) < 1) = false := by simp; omega
    have q2 : decide ((m : Int) < 1) = false := by simp; omega
    go_enter Tryz.func10, Tryz.ntmps10
    go_wp2_with fail
    go_ret
    exact ⟨rfl, (Kept.refl _ _).alloc _⟩

def wOk (n : Int) : Bool := decide (0 ≤ n) && decide (n ≤ 12)
theorem wOk_eq (l : List Int) : l.all (fun n => decide (0 ≤ n ∧ n ≤ 12)) = l.all wOk := by
  congr 1
  funext n
  simp [wOk]

set_option maxRecDepth 100000 in
set_option maxHeartbeats 2000000 in
theorem rvalid_walk (rs ws : Value) (x : Statute) (w : World) (hr : Row w 1 rs x.reasons.length (strs x.reasons)) (hw : Row w 1 ws x.weights.length (ints x.weights))
    (hs : ∀ r ∈ x.reasons, r.length ≤ 100000000)
    (h1 : 1 ≤ x.reasons.length) (h2 : x.reasons.length ≤ 16) (h3 : 1 ≤ x.weights.length) (h4 : x.weights.length ≤ 12) :
    Calls Tryz.prog 10 #[.agg #[rs, .int .i64 x.quorum, ws]] w fun e w' => e = .returned (.bool (validRest x)) ∧ Kept [] w w' := by
  obtain ⟨ra, rc, rfl, hlr, _⟩ := hr.form
  obtain ⟨wa, wc, rfl, hlw, _⟩ := hw.form
  obtain ⟨W, hW⟩ : ∃ W, w.alloc (.cells #[.slice ra x.reasons.length rc, .int .i64 x.quorum, .slice wa x.weights.length wc] 46) = W := ⟨_, rfl⟩
  have hb : Blk W w.heap.size 46 #[.slice ra x.reasons.length rc, .int .i64 x.quorum, .slice wa x.weights.length wc] := hW ▸ Blk.new _ _ _
  have hkW : Kept [] w W := hW ▸ (Kept.refl _ _).alloc _
  obtain ⟨rb, ro, rfl, hrc⟩ := (hr.kept hkW).at_ (by omega)
  obtain ⟨wb, wo, rfl, hwc⟩ := (hw.kept hkW).at_ (by omega)
  have K0 : Hid (∀ w', Kept [] W w' → w'.cell? ⟨w.heap.size, 0, none⟩ = some (.slice (some ⟨rb, ro, none⟩) x.reasons.length rc)) := Kept.cellOf (hb.cell 0)
  have K1 : Hid (∀ w', Kept [] W w' → w'.cell? ⟨w.heap.size, 1, none⟩ = some (.int .i64 x.quorum)) := Kept.cellOf (hb.cell 1)
  have K2 : Hid (∀ w', Kept [] W w' → w'.cell? ⟨w.heap.size, 2, none⟩ = some (.slice (some ⟨wb, wo, none⟩) x.weights.length wc)) := Kept.cellOf (hb.cell 2)
  have e0 := K0.out W (Kept.refl _ _)
  have e2 := K2.out W (Kept.refl _ _)
  have hwW := Lib.hid (hw.kept hkW)
  have HRC : Hid (∀ w', Kept [] W w' → ∀ i u, (strs x.reasons)[i]? = some u → w'.cell? ⟨rb, ro + i, none⟩ = some u) := fun w' k i u hu => Kept.cellOf (hrc i u hu) w' k
  have HWC : Hid (∀ w', Kept [] W w' → ∀ i u, (ints x.weights)[i]? = some u → w'.cell? ⟨wb, wo + i, none⟩ = some u) := fun w' k i u hu => Kept.cellOf (hwc i u hu) w' k
  have HS := Lib.hid hs
  clear hrc hwc hs hr hw
  have q1 : decide ((x.reasons.length : Int) < 1) = false := by simp; omega
  have q2 : decide ((x.weights.length : Int) < 1) = false := by simp; omega
  have HW := Lib.hid hW
  have HV : Hid (validRest x = ((List.range x.reasons.length).all (goodAt x.reasons) && x.weights.all wOk && sumOk x.quorum (sumW x.weights))) := by show validRest x = _; rw [← wOk_eq]; rfl
  clear hW hb
  go_enter Tryz.func10, Tryz.ntmps10
  go_wp2_with fail
  have hW' : w.alloc (.cells #[.slice (some ⟨rb, ro, none⟩) x.reasons.length rc, .int .i64 x.quorum, .slice (some ⟨wb, wo, none⟩) x.weights.length wc] 46) = W := HW.out
  rw [hW']
  clear hW' q1 q2 e0 e2
  go_wp2_with fail
  go_loopw [3] (fun i wr => ∃ k : Nat, k ≤ x.reasons.length ∧ i = .int .i64 k ∧ (List.range k).all (goodAt x.reasons) = true ∧ Kept [] W wr) (fun i _ => x.reasons.length - (intOf i).toNat)
  case atStart => exact ⟨0, Nat.zero_le _, rfl, by simp, Kept.refl _ _⟩
  case round =>
    obtain ⟨k, hk, rfl, hall, hkr⟩ := hrel
    have HA := Lib.hid hall
    clear hall
    have e0 := K0.out wr hkr
    by_cases hlt : k < x.reasons.length
    · have xk := HRC.out wr hkr k _ (strs_get hlt)
      have hsk := HS.out _ (List.getElem_mem hlt)
      have hG : goodAt x.reasons k = (nameB x.reasons[k] && (k == 0 || Op.bytesLess (x.reasons.getD (k - 1) []) x.reasons[k])) := by
        unfold goodAt
        rw [show x.reasons.getD k [] = x.reasons[k] by simp [hlt]]
      have HG := Lib.hid hG
      clear hG
      have HC : Hid (∀ w, Calls Tryz.prog 53 #[.string ⟨(x.reasons[k]).toArray⟩] w fun e w' => e = .returned (.bool (nameB x.reasons[k])) ∧ w = w') := fun w => rname_any _ w hsk
      cases hn : nameB x.reasons[k]
      · have hfin : validRest x = false := by
          rw [HV.out, all_false hlt (by rw [HG.out, hn]; rfl)]; rfl
        have HF := Lib.hid hfin
        rw [hn] at HC
        clear hfin
        go_wp2_with fail
        go_quiet ((go_at_call 53; exact quiet_eq (HC.out _)))
        go_wp2_with fail
        go_ret
        exact ⟨by rw [HF.out]; rfl, hkW.trans (hkr.drewN _)⟩
      · rw [hn] at HC
        rcases k with _ | j
        · have hg : (List.range 1).all (goodAt x.reasons) = true := take_all_succ (k := 0) HA.out (by rw [HG.out, hn]; rfl)
          have HGG := Lib.hid hg
          have xk0 : wr.cell? ⟨rb, ro, none⟩ = some (.string ⟨(x.reasons[0]).toArray⟩) := xk
          clear hg xk
          go_wp2_with fail
          go_quiet ((go_at_call 53; exact quiet_eq (HC.out _)))
          go_wp2_with fail
          go_roundw
          case rel => exact ⟨1, by omega, by go_num, HGG.out, hkr.drewN _⟩
          case measure => simp [intOf]; omega
        · have xj := HRC.out wr hkr j _ (strs_get (by omega : j < x.reasons.length))
          have hgd : x.reasons.getD (j + 1 - 1) [] = x.reasons[j]'(by omega) := by
            rw [Nat.add_sub_cancel]; simp [show j < x.reasons.length by omega]
          have d1 : decide ((0 : Int) < ((j + 1 : Nat) : Int)) = true := by simp
          have hmx : max (((j + 1 : Nat) : Int) - 1) 0 = (j : Int) := by omega
          have hmx2 : IntKind.i64.wrap (((j + 1 : Nat) : Int) - 1) = (j : Int) := by rw [IntKind.wrap_i64]; omega
          cases hbl : Op.bytesLess (x.reasons[j]'(by omega)) x.reasons[j + 1]
          · have hfin : validRest x = false := by
              rw [HV.out, all_false hlt (by rw [HG.out, hn, hgd, hbl]; rfl)]; rfl
            have HF := Lib.hid hfin
            clear hfin hgd
            go_wp2_with fail
            go_quiet ((go_at_call 53; exact quiet_eq (HC.out _)))
            go_wp2_with fail
            go_ret
            exact ⟨by rw [HF.out]; rfl, hkW.trans (hkr.drewN _)⟩
          · have hg : (List.range (j + 1 + 1)).all (goodAt x.reasons) = true := take_all_succ HA.out (by rw [HG.out, hn, hgd, hbl]; simp)
            have HGG := Lib.hid hg
            clear hg hgd
            go_wp2_with fail
            go_quiet ((go_at_call 53; exact quiet_eq (HC.out _)))
            go_wp2_with fail
            go_roundw
            case rel => exact ⟨j + 1 + 1, by omega, by go_num, HGG.out, hkr.drewN _⟩
            case measure => simp [intOf]; omega
    · obtain rfl : k = x.reasons.length := by omega
      have e2 := K2.out wr hkr
      go_wp2_with fail
      clear e0
      go_loop [4] (fun i => ∃ k : Nat, k ≤ x.weights.length ∧ i = .int .i64 k ∧ (x.weights.take k).all wOk = true) (fun i => x.weights.length - (intOf i).toNat)
      case atStart => exact ⟨0, Nat.zero_le _, rfl, by simp⟩
      case round =>
        obtain ⟨k, hkw, rfl, hm⟩ := hrel
        have HM := Lib.hid hm
        clear hm
        by_cases hlw2 : k < x.weights.length
        · have xk := HWC.out wr hkr k _ (ints_get hlw2)
          have hG : x.weights[k]? = some x.weights[k] := List.getElem?_eq_getElem hlw2
          cases hw1 : wOk x.weights[k]
          · have hfin : validRest x = false := by
              have : x.weights.all wOk = false := by
                rw [List.all_eq_false]
                exact ⟨_, List.getElem_mem hlw2, by simp [hw1]⟩
              rw [HV.out, this]; simp
            have HF := Lib.hid hfin
            have HC : Hid (∀ w, Calls Tryz.prog 54 #[.int .i64 x.weights[k], .int .i64 0, .int .i64 12] w fun e w' => e = .returned (.bool false) ∧ w = w') := fun w => by
              have := rin_any x.weights[k] 0 12 w
              unfold wOk at hw1
              rwa [hw1] at this
            clear hfin hw1 hG
            go_wp2_with (go_at_call 54; refine (HC.out _).mono ?_; rintro e w' ⟨rfl, rfl⟩)
            go_ret
            exact ⟨by rw [HF.out]; rfl, hkW.trans hkr⟩
          · have HX : Hid ((x.weights.take (k + 1)).all wOk = true) := by
              show (x.weights.take (k + 1)).all wOk = true
              rw [List.take_succ_eq_append_getElem hlw2, List.all_append, HM.out]
              simp [hw1]
            have HC : Hid (∀ w, Calls Tryz.prog 54 #[.int .i64 x.weights[k], .int .i64 0, .int .i64 12] w fun e w' => e = .returned (.bool true) ∧ w = w') := fun w => by
              have := rin_any x.weights[k] 0 12 w
              unfold wOk at hw1
              rwa [hw1] at this
            clear hw1 hG
            go_wp2_with (go_at_call 54; refine (HC.out _).mono ?_; rintro e w' ⟨rfl, rfl⟩)
            go_round
            case rel => exact ⟨k + 1, by omega, by go_num, HX.out⟩
            case measure => simp [intOf]; omega
        · obtain rfl : k = x.weights.length := by omega
          rw [List.take_length] at HM
          have hall : ∀ n ∈ x.weights, 0 ≤ n ∧ n ≤ 12 := by
            intro n hn
            have := HM.out
            rw [List.all_eq_true] at this
            have := this n hn
            simpa [wOk] using this
          have hfin : validRest x = sumOk x.quorum (sumW x.weights) := by rw [HV.out, HM.out, HA.out]; simp
          have HF := Lib.hid hfin
          have hsb := sumW_bound x.weights hall
          have HT := Lib.hid (rpoints_any _ x.weights wr (hwW.out.kept hkr) hall (by omega))
          have e1 := K1.out wr hkr
          obtain ⟨S, hS⟩ : ∃ S, sumW x.weights = S := ⟨_, rfl⟩
          rw [hS] at HF HT hsb
          have HO : Hid (sumOk x.quorum S = (decide (S ≤ 12) && (decide (1 ≤ x.quorum) && decide (x.quorum ≤ S)))) := rfl
          have H1 : Hid (∀ w, Calls Tryz.prog 54 #[.int .i64 S, .int .i64 1, .int .i64 12] w fun e w' => e = .returned (.bool (decide (1 ≤ S) && decide (S ≤ 12))) ∧ w = w') := fun w => rin_any S 1 12 w
          have H2 : Hid (∀ w, Calls Tryz.prog 54 #[.int .i64 x.quorum, .int .i64 1, .int .i64 S] w fun e w' => e = .returned (.bool (decide (1 ≤ x.quorum) && decide (x.quorum ≤ S))) ∧ w = w') := fun w => rin_any x.quorum 1 S w
          clear hfin hall hS
          obtain ⟨a, ha⟩ : ∃ a, (decide (1 ≤ S) && decide (S ≤ 12)) = a := ⟨_, rfl⟩
          obtain ⟨b, hb⟩ : ∃ b, (decide (1 ≤ x.quorum) && decide (x.quorum ≤ S)) = b := ⟨_, rfl⟩
          have hab : sumOk x.quorum S = (a && b) := by
            rw [HO.out, ← ha, ← hb, Bool.eq_iff_iff]
            simp
            omega
          rw [ha] at H1
          rw [hb] at H2
          have HAB := Lib.hid hab
          clear ha hb hab
          cases a
          all_goals
            go_wp2_with (first
              | (go_at_call 55; refine HT.out.mono ?_; rintro e w' ⟨rfl, rfl⟩)
              | (go_at_call 54; ((with_reducible refine (H1.out _).mono ?_); rintro e w' ⟨rfl, rfl⟩))
              | (go_at_call 54; ((with_reducible refine (H2.out _).mono ?_); rintro e w' ⟨rfl, rfl⟩)))
            go_ret
            refine ⟨?_, hkW.trans hkr⟩
            rw [HF.out, HAB.out]
            simp

theorem rvalid_st (v : Value) (x : Statute) (w : World) (h : StatV w v x) (hs : ∀ r ∈ x.reasons, r.length ≤ 100000000) :
    Calls Tryz.prog 10 #[v] w fun e w' => e = .returned (.bool (validS x)) ∧ Kept [] w w' := by
  obtain ⟨rs, ws, rfl, hr, hw⟩ := h.form
  by_cases hz : 1 ≤ x.reasons.length ∧ x.reasons.length ≤ 16 ∧ 1 ≤ x.weights.length ∧ x.weights.length ≤ 12
  · have e1 : validS x = validRest x := by unfold validS validRest; rw [decide_eq_true hz]; simp
    rw [e1]
    exact rvalid_walk rs ws x w hr hw hs hz.1 hz.2.1 hz.2.2.1 hz.2.2.2
  · have e1 : validS x = false := by unfold validS; rw [decide_eq_false hz]; simp
    rw [e1]
    exact rvalid_sizes rs ws x w hr hw hz
end Go.Proofs.YtpcdfepndmconaaGreatDoor
