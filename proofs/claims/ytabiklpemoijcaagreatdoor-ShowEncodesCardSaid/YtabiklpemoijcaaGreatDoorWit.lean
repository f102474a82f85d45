/- Witness, Update, Width, and an inverse. -/
import Derived.Test.YtabiklpemoijcaaGreatDoorSet1
import Derived.Test.YtabiklpemoijcaaGreatDoorAt2
namespace Go.Proofs.YtabiklpemoijcaaGreatDoor
open Go.RowKit

def witN (N : Nat) (n : Int) (l : List Int) : Nat := l.foldl (fun o x => mulN N (o : Int) ((subN N n x : Nat) : Int)) (mulN N 1 1)

set_option maxRecDepth 100000 in
set_option maxHeartbeats 1000000 in
theorem witness_any (N : Nat) (n : Int) (v : Value) (l : List Int) (w : World) (h1 : 1 ≤ N) (h2 : N < 2147483648) (hn : Wire.I64 n) (hv : Row w 1 v l.length (ints l)) (hl : ∀ x ∈ l, Wire.I64 x) :
    Calls Tryz.prog 44 #[.int .i64 N, .int .i64 n, v] w fun e w' => e = .returned (.int .i64 ((witN N n l : Nat) : Int)) ∧ Kept [] w w' := by
  obtain ⟨aa, ca, rfl, hla, _⟩ := hv.form
  have HV := Lib.hid hv
  have HL := Lib.hid hl
  have HM1 : Hid (∀ w, Calls Tryz.prog 33 #[.int .i64 N, .int .i64 1, .int .i64 1] w fun e w' => e = .returned (.int .i64 ((mulN N 1 1 : Nat) : Int)) ∧ Kept [] w w') :=
    fun w => fmul_any N 1 1 w h1 h2 ⟨by omega, by omega⟩ ⟨by omega, by omega⟩
  have hm1 := mulN_lt N 1 1 h1
  obtain ⟨T, hT⟩ : ∃ T, witN N n l = T := ⟨_, rfl⟩
  have H0 : Hid ((l.drop 0).foldl (fun o x => mulN N ((o : Nat) : Int) ((subN N n x : Nat) : Int)) (mulN N 1 1) = T) := hT
  rw [hT]
  obtain ⟨M1, hM1⟩ : ∃ M, mulN N 1 1 = M := ⟨_, rfl⟩
  rw [hM1] at HM1 H0 hm1
  clear hv hl hT hM1
  go_enter Tryz.func44, Tryz.ntmps44
  go_wp2_with (go_at_call 33; refine (HM1.out _).mono ?_)
  rintro e w1 ⟨rfl, hk1⟩
  go_wp2_with fail
  go_loopw [7, 9, 14] (fun vo _ vi wr => ∃ k o : Nat, k ≤ l.length ∧ vi = .int .i64 k ∧ vo = .int .i64 o ∧ o < N ∧ (l.drop k).foldl (fun o x => mulN N ((o : Nat) : Int) ((subN N n x : Nat) : Int)) o = T ∧ Kept [] w wr) (fun _ _ vi _ => l.length - (intOf vi).toNat)
  case atStart => exact ⟨0, M1, by omega, rfl, rfl, hm1, H0.out, hk1⟩
  case round =>
    obtain ⟨k, o, hk, rfl, rfl, ho, hr, hkr⟩ := hrel
    have HR := Lib.hid hr
    clear hr
    by_cases hlt : k < l.length
    · obtain ⟨ba, oa, rfl, hca⟩ := (HV.out.kept hkr).at_ (by omega)
      have xa := hca k _ (ints_get hlt)
      have hx := HL.out l[k] (List.getElem_mem hlt)
      have hn' := HR.out
      rw [List.drop_eq_getElem_cons hlt, List.foldl_cons] at hn'
      have HS : Hid (∀ w, Calls Tryz.prog 34 #[.int .i64 N, .int .i64 n, .int .i64 l[k]] w fun e w' => e = .returned (.int .i64 ((subN N n l[k] : Nat) : Int)) ∧ Kept [] w w') :=
        fun w => fsub_any N n l[k] w h1 h2 hn hx
      have hs := subN_lt N n l[k] h1
      obtain ⟨s, hS⟩ : ∃ s, subN N n l[k] = s := ⟨_, rfl⟩
      rw [hS] at HS hn' hs
      have HM : Hid (∀ w, Calls Tryz.prog 33 #[.int .i64 N, .int .i64 o, .int .i64 s] w fun e w' => e = .returned (.int .i64 ((mulN N (o : Int) (s : Int) : Nat) : Int)) ∧ Kept [] w w') :=
        fun w => fmul_any N o s w h1 h2 ⟨by omega, by omega⟩ ⟨by omega, by omega⟩
      have hm := mulN_lt N (o : Int) (s : Int) h1
      obtain ⟨m, hM⟩ : ∃ m, mulN N (o : Int) (s : Int) = m := ⟨_, rfl⟩
      rw [hM] at HM hn' hm
      have HN := Lib.hid hn'
      clear hn' hca hS hM hx
      go_wp2_with (go_at_call 34; refine (HS.out _).mono ?_)
      rintro e w2 ⟨rfl, hk2⟩
      go_wp2_with (go_at_call 33; refine (HM.out _).mono ?_)
      rintro e w3 ⟨rfl, hk3⟩
      go_wp2_with fail
      go_roundw
      case rel => exact ⟨k + 1, m, by omega, by go_num, rfl, hm, HN.out, hkr.trans (hk2.trans hk3)⟩
      case measure => simp [intOf]; omega
    · obtain rfl : k = l.length := by omega
      have hn' := HR.out
      rw [List.drop_length, List.foldl_nil] at hn'
      subst hn'
      go_wp2_with fail
      go_ret
      exact ⟨rfl, hkr⟩

set_option maxHeartbeats 1000000 in
theorem update_any (N : Nat) (z n : Int) (v : Value) (l : List Int) (w : World) (h1 : 1 ≤ N) (h2 : N < 2147483648) (hz : Wire.I64 z) (hn : Wire.I64 n) (hv : Row w 1 v l.length (ints l)) (hl : ∀ x ∈ l, Wire.I64 x) :
    Calls Tryz.prog 46 #[.int .i64 N, .int .i64 z, .int .i64 n, v] w fun e w' => e = .returned (.int .i64 ((mulN N z ((witN N n l : Nat) : Int) : Nat) : Int)) ∧ Kept [] w w' := by
  have HW := Lib.hid (witness_any N n v l w h1 h2 hn hv hl)
  obtain ⟨aa, ca, rfl, hla, _⟩ := hv.form
  have hlt : witN N n l < N := by
    unfold witN
    rcases List.eq_nil_or_concat l with rfl | ⟨m, p, rfl⟩
    · exact mulN_lt _ _ _ h1
    · rw [List.concat_eq_append, List.foldl_append]; exact mulN_lt _ _ _ h1
  obtain ⟨s, hS⟩ : ∃ s, witN N n l = s := ⟨_, rfl⟩
  rw [hS] at HW hlt ⊢
  have HM : Hid (∀ w, Calls Tryz.prog 33 #[.int .i64 N, .int .i64 z, .int .i64 s] w fun e w' => e = .returned (.int .i64 ((mulN N z (s : Int) : Nat) : Int)) ∧ Kept [] w w') :=
    fun w => fmul_any N z s w h1 h2 hz ⟨by omega, by omega⟩
  obtain ⟨m, hM⟩ : ∃ m, mulN N z (s : Int) = m := ⟨_, rfl⟩
  rw [hM] at HM ⊢
  clear hS hM hv hl
  go_enter Tryz.func46, Tryz.ntmps46
  go_wp2_with (go_at_call 44; refine HW.out.mono ?_)
  rintro e w2 ⟨rfl, hk2⟩
  go_wp2_with (go_at_call 33; refine (HM.out _).mono ?_)
  rintro e w3 ⟨rfl, hk3⟩
  go_wp2_with fail
  go_ret
  exact ⟨rfl, hk2.trans hk3⟩

set_option maxRecDepth 100000 in
set_option maxHeartbeats 2000000 in
theorem width_1 (w : World) : Calls Tryz.prog 42 #[.int .i64 1] w fun e w' => e = .returned (.int .i64 2) ∧ w = w' := by
  go_enter Tryz.func42, Tryz.ntmps42
  go_wp2_with fail
  go_loop [3] (fun i => ∃ k : Nat, 2 ≤ k ∧ k ≤ 2 ∧ i = .int .i64 k) (fun i => 2 - (intOf i).toNat)
  case atStart => exact ⟨2, by omega, by omega, rfl⟩
  case round =>
    obtain ⟨k, hk2, hk, rfl⟩ := hrel
    rcases (by omega : k = 2) with rfl
    · go_wp2_with fail
      go_ret
      exact ⟨rfl, rfl⟩

set_option maxRecDepth 100000 in
set_option maxHeartbeats 2000000 in
theorem width_2 (w : World) : Calls Tryz.prog 42 #[.int .i64 2] w fun e w' => e = .returned (.int .i64 3) ∧ w = w' := by
  go_enter Tryz.func42, Tryz.ntmps42
  go_wp2_with fail
  go_loop [3] (fun i => ∃ k : Nat, 2 ≤ k ∧ k ≤ 3 ∧ i = .int .i64 k) (fun i => 3 - (intOf i).toNat)
  case atStart => exact ⟨2, by omega, by omega, rfl⟩
  case round =>
    obtain ⟨k, hk2, hk, rfl⟩ := hrel
    rcases (by omega : k = 2 ∨ k = 3) with rfl | rfl
    · go_wp2_with fail
      go_round
      case rel => exact ⟨3, by omega, by omega, rfl⟩
      case measure => simp [intOf]
    · go_wp2_with fail
      go_ret
      exact ⟨rfl, rfl⟩

set_option maxRecDepth 100000 in
set_option maxHeartbeats 2000000 in
theorem width_65535 (w : World) : Calls Tryz.prog 42 #[.int .i64 65535] w fun e w' => e = .returned (.int .i64 17) ∧ w = w' := by
  go_enter Tryz.func42, Tryz.ntmps42
  go_wp2_with fail
  go_loop [3] (fun i => ∃ k : Nat, 2 ≤ k ∧ k ≤ 17 ∧ i = .int .i64 k) (fun i => 17 - (intOf i).toNat)
  case atStart => exact ⟨2, by omega, by omega, rfl⟩
  case round =>
    obtain ⟨k, hk2, hk, rfl⟩ := hrel
    rcases (by omega : k = 2 ∨ k = 3 ∨ k = 4 ∨ k = 5 ∨ k = 6 ∨ k = 7 ∨ k = 8 ∨ k = 9 ∨ k = 10 ∨ k = 11 ∨ k = 12 ∨ k = 13 ∨ k = 14 ∨ k = 15 ∨ k = 16 ∨ k = 17) with rfl | rfl | rfl | rfl | rfl | rfl | rfl | rfl | rfl | rfl | rfl | rfl | rfl | rfl | rfl | rfl
    · go_wp2_with fail
      go_round
      case rel => exact ⟨3, by omega, by omega, rfl⟩
      case measure => simp [intOf]
    · go_wp2_with fail
      go_round
      case rel => exact ⟨4, by omega, by omega, rfl⟩
      case measure => simp [intOf]
    · go_wp2_with fail
      go_round
      case rel => exact ⟨5, by omega, by omega, rfl⟩
      case measure => simp [intOf]
    · go_wp2_with fail
      go_round
      case rel => exact ⟨6, by omega, by omega, rfl⟩
      case measure => simp [intOf]
    · go_wp2_with fail
      go_round
      case rel => exact ⟨7, by omega, by omega, rfl⟩
      case measure => simp [intOf]
    · go_wp2_with fail
      go_round
      case rel => exact ⟨8, by omega, by omega, rfl⟩
      case measure => simp [intOf]
    · go_wp2_with fail
      go_round
      case rel => exact ⟨9, by omega, by omega, rfl⟩
      case measure => simp [intOf]
    · go_wp2_with fail
      go_round
      case rel => exact ⟨10, by omega, by omega, rfl⟩
      case measure => simp [intOf]
    · go_wp2_with fail
      go_round
      case rel => exact ⟨11, by omega, by omega, rfl⟩
      case measure => simp [intOf]
    · go_wp2_with fail
      go_round
      case rel => exact ⟨12, by omega, by omega, rfl⟩
      case measure => simp [intOf]
    · go_wp2_with fail
      go_round
      case rel => exact ⟨13, by omega, by omega, rfl⟩
      case measure => simp [intOf]
    · go_wp2_with fail
      go_round
      case rel => exact ⟨14, by omega, by omega, rfl⟩
      case measure => simp [intOf]
    · go_wp2_with fail
      go_round
      case rel => exact ⟨15, by omega, by omega, rfl⟩
      case measure => simp [intOf]
    · go_wp2_with fail
      go_round
      case rel => exact ⟨16, by omega, by omega, rfl⟩
      case measure => simp [intOf]
    · go_wp2_with fail
      go_round
      case rel => exact ⟨17, by omega, by omega, rfl⟩
      case measure => simp [intOf]
    · go_wp2_with fail
      go_ret
      exact ⟨rfl, rfl⟩

set_option maxRecDepth 100000 in
set_option maxHeartbeats 1000000 in
theorem inv_one (w : World) : Calls Tryz.prog 31 #[.int .i64 11, .int .i64 1] w fun e w' => e = .returned (.tuple #[.int .i64 1, .bool true]) ∧ Kept [] w w' := by
  have V : Hid (∀ w, Calls Tryz.prog 97 #[.int .i64 11] w fun e w' => e = .returned (.bool true) ∧ w = w') := fun w => fvalid_any 11 w (by omega) (by omega)
  have R : Hid (∀ w, Calls Tryz.prog 98 #[.int .i64 11, .int .i64 1] w fun e w' => e = .returned (.int .u64 1) ∧ w = w') := fun w => residue_any 11 1 w (by omega) (by omega) ⟨by omega, by omega⟩
  have M : Hid (∀ w, Calls Tryz.prog 33 #[.int .i64 11, .int .i64 11, .int .i64 1] w fun e w' => e = .returned (.int .i64 0) ∧ Kept [] w w') := fun w => fmul_any 11 11 1 w (by omega) (by omega) ⟨by omega, by omega⟩ ⟨by omega, by omega⟩
  have S : Hid (∀ w, Calls Tryz.prog 34 #[.int .i64 11, .int .i64 0, .int .i64 0] w fun e w' => e = .returned (.int .i64 0) ∧ Kept [] w w') := fun w => fsub_any 11 0 0 w (by omega) (by omega) ⟨by omega, by omega⟩ ⟨by omega, by omega⟩
  go_enter Tryz.func31, Tryz.ntmps31
  go_wp2_with (first
    | (go_at_call 97; with_reducible refine (V.out _).mono ?_; rintro e w' ⟨rfl, rfl⟩)
    | (go_at_call 98; with_reducible refine (R.out _).mono ?_; rintro e w' ⟨rfl, rfl⟩))
  go_loopw [6, 7, 8, 9, 10] (fun vr vs vx vy _ wr => (vr = .int .i64 11 ∧ vs = .int .i64 1 ∧ vx = .int .i64 0 ∧ vy = .int .i64 1 ∧ Kept [] w wr) ∨ (vr = .int .i64 1 ∧ vs = .int .i64 0 ∧ vx = .int .i64 1 ∧ vy = .int .i64 0 ∧ Kept [] w wr)) (fun _ vs _ _ _ _ => (intOf vs).toNat)
  case atStart => exact Or.inl ⟨rfl, rfl, rfl, rfl, Kept.refl _ _⟩
  case round =>
    rcases hrel with ⟨rfl, rfl, rfl, rfl, hkr⟩ | ⟨rfl, rfl, rfl, rfl, hkr⟩
    · go_wp2_with (go_at_call 33; with_reducible refine (M.out _).mono ?_)
      rintro e w2 ⟨rfl, hk2⟩
      go_wp2_with (go_at_call 34; with_reducible refine (S.out _).mono ?_)
      rintro e w3 ⟨rfl, hk3⟩
      go_wp2_with fail
      go_roundw
      case rel => exact Or.inr ⟨rfl, rfl, rfl, rfl, hkr.trans (hk2.trans hk3)⟩
      case measure => simp [intOf]
    · go_wp2_with fail
      go_ret2
      exact ⟨rfl, hkr⟩
end Go.Proofs.YtabiklpemoijcaaGreatDoor
