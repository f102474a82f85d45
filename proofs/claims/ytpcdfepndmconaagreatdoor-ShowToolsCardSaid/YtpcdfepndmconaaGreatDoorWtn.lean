/- Width, Witness, Update: the program's and the reference's. -/
import Derived.Test.YtpcdfepndmconaaGreatDoorEnv
import Derived.LoopTactic
import Derived.Test.YtpcdfepndmconaaGreatDoorZop
/- JOINED: Wid Wtn -/
/- Width: the program's and the reference's. -/
namespace Go.Proofs.YtpcdfepndmconaaGreatDoor
open Go.RowKit
def widthZ (m:Int):Int:=if m < 1∨65535 < m then 0 else ((Nat.log2 (2*m).toNat+1:Nat):Int)
theorem width_at {m:Int} (h1:1≤m) (h2:m≤65535) {k:Nat} (hl:2*m < 2 ^ (k+1)) (hg:2 ^ k≤2*m):widthZ m=((k+1:Nat):Int):=by
 unfold widthZ
 rw [if_neg (by omega)]
 congr 2
 obtain ⟨x,hx⟩:∃ x:Nat,2*m=x:=⟨(2*m).toNat,by omega⟩;rw [hx] at hl hg ⊢;rw [Int.toNat_natCast]
 have hl':x < 2 ^ (k+1):=by exact_mod_cast hl
 have hg':2 ^ k≤x:=by exact_mod_cast hg
 have h0:x≠0:=by omega
 have e1:=(Nat.log2_lt h0).2 hl'
 have e2:¬ Nat.log2 x < k:=fun h=>by have:=(Nat.log2_lt h0).1 h;omega
 omega
set_option maxRecDepth 100000 in
set_option maxHeartbeats 4000000 in
theorem width_show (m:Int) (w:World):Calls Tryz.prog 29 #[.int .i64 m] w fun e w'=>e=.returned (.int .i64 (widthZ m))∧w=w':=by
 by_cases h1:m < 1
 ·have HF:Hid (widthZ m=0):=by show _=_;unfold widthZ;rw [if_pos (Or.inl h1)]
  have d1:decide (m < 1)=true:=by simpa using h1
  go_enter Tryz.func29,Tryz.ntmps29
  go_wp2_with fail;go_ret;exact ⟨by rw [HF.out];rfl,rfl⟩
 by_cases h2:65535 < m
 ·have HF:Hid (widthZ m=0):=by show _=_;unfold widthZ;rw [if_pos (Or.inr h2)]
  have d1:decide (m < 1)=false:=by simpa using h1
  have d2:decide (65535 < m)=true:=by simpa using h2
  go_enter Tryz.func29,Tryz.ntmps29
  go_wp2_with fail;go_ret;exact ⟨by rw [HF.out];rfl,rfl⟩
 have d1:decide (m < 1)=false:=by simpa using h1
 have d2:decide (65535 < m)=false:=by simpa using h2
 have a1:1≤m:=by omega
 have a2:m≤65535:=by omega
 have HF:Hid (∀ k:Nat,2*m < 2 ^ (k+1)→2 ^ k≤2*m→widthZ m=((k+1:Nat):Int)):=fun k x y=>width_at a1 a2 x y;clear h1 h2
 go_enter Tryz.func29,Tryz.ntmps29
 go_wp2_with fail;clear d1 d2
 go_loop [3] (fun v=>∃ k:Nat,2≤k∧k≤17∧v=.int .i64 k∧(k=2∨(2:Int) ^ (k - 1)≤2*m)) (fun v=>18 - (intOf v).toNat)
 case atStart=>exact ⟨2,by omega,by omega,rfl,Or.inl rfl⟩
 case round =>
  obtain ⟨k,hk1,hk2,rfl,hk⟩:=hrel
  rcases (by omega:k=2∨k=3∨k=4∨k=5∨k=6∨k=7∨k=8∨k=9∨k=10∨k=11∨k=12∨k=13∨k=14∨k=15∨k=16∨k=17) with rfl|rfl|rfl|rfl|rfl|rfl|rfl|rfl|rfl|rfl|rfl|rfl|rfl|rfl|rfl|rfl
  ·by_cases hc:4≤2*m
   ·have hcd:decide ((4:Int)≤2*m)=true:=by simpa using hc
    clear hk;go_wp2_with fail
    go_round
    case rel=>exact ⟨3,by omega,by omega,by go_num,Or.inr (by simpa using hc)⟩
    case measure=>simp [intOf]
   ·have hx:widthZ m=2:=by
     have h:=HF.out 1 (by simp;omega) (by simp;omega)
     simpa using h
    have HX:=Lib.hid hx
    have hcd:decide ((4:Int)≤2*m)=false:=by simpa using hc
    clear hk hx;go_wp2_with fail;go_ret;exact ⟨by rw [HX.out];rfl,rfl⟩
  ·by_cases hc:8≤2*m
   ·have hcd:decide ((8:Int)≤2*m)=true:=by simpa using hc
    clear hk;go_wp2_with fail
    go_round
    case rel=>exact ⟨4,by omega,by omega,by go_num,Or.inr (by simpa using hc)⟩
    case measure=>simp [intOf]
   ·have hx:widthZ m=3:=by
     have h:=HF.out 2 (by simp;omega) (by rcases hk with hk|hk <;> simp at hk ⊢ <;> omega)
     simpa using h
    have HX:=Lib.hid hx
    have hcd:decide ((8:Int)≤2*m)=false:=by simpa using hc
    clear hk hx;go_wp2_with fail;go_ret;exact ⟨by rw [HX.out];rfl,rfl⟩
  ·by_cases hc:16≤2*m
   ·have hcd:decide ((16:Int)≤2*m)=true:=by simpa using hc
    clear hk;go_wp2_with fail
    go_round
    case rel=>exact ⟨5,by omega,by omega,by go_num,Or.inr (by simpa using hc)⟩
    case measure=>simp [intOf]
   ·have hx:widthZ m=4:=by
     have h:=HF.out 3 (by simp;omega) (by rcases hk with hk|hk <;> simp at hk ⊢ <;> omega)
     simpa using h
    have HX:=Lib.hid hx
    have hcd:decide ((16:Int)≤2*m)=false:=by simpa using hc
    clear hk hx;go_wp2_with fail;go_ret;exact ⟨by rw [HX.out];rfl,rfl⟩
  ·by_cases hc:32≤2*m
   ·have hcd:decide ((32:Int)≤2*m)=true:=by simpa using hc
    clear hk;go_wp2_with fail
    go_round
    case rel=>exact ⟨6,by omega,by omega,by go_num,Or.inr (by simpa using hc)⟩
    case measure=>simp [intOf]
   ·have hx:widthZ m=5:=by
     have h:=HF.out 4 (by simp;omega) (by rcases hk with hk|hk <;> simp at hk ⊢ <;> omega)
     simpa using h
    have HX:=Lib.hid hx
    have hcd:decide ((32:Int)≤2*m)=false:=by simpa using hc
    clear hk hx;go_wp2_with fail;go_ret;exact ⟨by rw [HX.out];rfl,rfl⟩
  ·by_cases hc:64≤2*m
   ·have hcd:decide ((64:Int)≤2*m)=true:=by simpa using hc
    clear hk;go_wp2_with fail
    go_round
    case rel=>exact ⟨7,by omega,by omega,by go_num,Or.inr (by simpa using hc)⟩
    case measure=>simp [intOf]
   ·have hx:widthZ m=6:=by
     have h:=HF.out 5 (by simp;omega) (by rcases hk with hk|hk <;> simp at hk ⊢ <;> omega)
     simpa using h
    have HX:=Lib.hid hx
    have hcd:decide ((64:Int)≤2*m)=false:=by simpa using hc
    clear hk hx;go_wp2_with fail;go_ret;exact ⟨by rw [HX.out];rfl,rfl⟩
  ·by_cases hc:128≤2*m
   ·have hcd:decide ((128:Int)≤2*m)=true:=by simpa using hc
    clear hk;go_wp2_with fail
    go_round
    case rel=>exact ⟨8,by omega,by omega,by go_num,Or.inr (by simpa using hc)⟩
    case measure=>simp [intOf]
   ·have hx:widthZ m=7:=by
     have h:=HF.out 6 (by simp;omega) (by rcases hk with hk|hk <;> simp at hk ⊢ <;> omega)
     simpa using h
    have HX:=Lib.hid hx
    have hcd:decide ((128:Int)≤2*m)=false:=by simpa using hc
    clear hk hx;go_wp2_with fail;go_ret;exact ⟨by rw [HX.out];rfl,rfl⟩
  ·by_cases hc:256≤2*m
   ·have hcd:decide ((256:Int)≤2*m)=true:=by simpa using hc
    clear hk;go_wp2_with fail
    go_round
    case rel=>exact ⟨9,by omega,by omega,by go_num,Or.inr (by simpa using hc)⟩
    case measure=>simp [intOf]
   ·have hx:widthZ m=8:=by
     have h:=HF.out 7 (by simp;omega) (by rcases hk with hk|hk <;> simp at hk ⊢ <;> omega)
     simpa using h
    have HX:=Lib.hid hx
    have hcd:decide ((256:Int)≤2*m)=false:=by simpa using hc
    clear hk hx;go_wp2_with fail;go_ret;exact ⟨by rw [HX.out];rfl,rfl⟩
  ·by_cases hc:512≤2*m
   ·have hcd:decide ((512:Int)≤2*m)=true:=by simpa using hc
    clear hk;go_wp2_with fail
    go_round
    case rel=>exact ⟨10,by omega,by omega,by go_num,Or.inr (by simpa using hc)⟩
    case measure=>simp [intOf]
   ·have hx:widthZ m=9:=by
     have h:=HF.out 8 (by simp;omega) (by rcases hk with hk|hk <;> simp at hk ⊢ <;> omega)
     simpa using h
    have HX:=Lib.hid hx
    have hcd:decide ((512:Int)≤2*m)=false:=by simpa using hc
    clear hk hx;go_wp2_with fail;go_ret;exact ⟨by rw [HX.out];rfl,rfl⟩
  ·by_cases hc:1024≤2*m
   ·have hcd:decide ((1024:Int)≤2*m)=true:=by simpa using hc
    clear hk;go_wp2_with fail
    go_round
    case rel=>exact ⟨11,by omega,by omega,by go_num,Or.inr (by simpa using hc)⟩
    case measure=>simp [intOf]
   ·have hx:widthZ m=10:=by
     have h:=HF.out 9 (by simp;omega) (by rcases hk with hk|hk <;> simp at hk ⊢ <;> omega)
     simpa using h
    have HX:=Lib.hid hx
    have hcd:decide ((1024:Int)≤2*m)=false:=by simpa using hc
    clear hk hx;go_wp2_with fail;go_ret;exact ⟨by rw [HX.out];rfl,rfl⟩
  ·by_cases hc:2048≤2*m
   ·have hcd:decide ((2048:Int)≤2*m)=true:=by simpa using hc
    clear hk;go_wp2_with fail
    go_round
    case rel=>exact ⟨12,by omega,by omega,by go_num,Or.inr (by simpa using hc)⟩
    case measure=>simp [intOf]
   ·have hx:widthZ m=11:=by
     have h:=HF.out 10 (by simp;omega) (by rcases hk with hk|hk <;> simp at hk ⊢ <;> omega)
     simpa using h
    have HX:=Lib.hid hx
    have hcd:decide ((2048:Int)≤2*m)=false:=by simpa using hc
    clear hk hx;go_wp2_with fail;go_ret;exact ⟨by rw [HX.out];rfl,rfl⟩
  ·by_cases hc:4096≤2*m
   ·have hcd:decide ((4096:Int)≤2*m)=true:=by simpa using hc
    clear hk;go_wp2_with fail
    go_round
    case rel=>exact ⟨13,by omega,by omega,by go_num,Or.inr (by simpa using hc)⟩
    case measure=>simp [intOf]
   ·have hx:widthZ m=12:=by
     have h:=HF.out 11 (by simp;omega) (by rcases hk with hk|hk <;> simp at hk ⊢ <;> omega)
     simpa using h
    have HX:=Lib.hid hx
    have hcd:decide ((4096:Int)≤2*m)=false:=by simpa using hc
    clear hk hx;go_wp2_with fail;go_ret;exact ⟨by rw [HX.out];rfl,rfl⟩
  ·by_cases hc:8192≤2*m
   ·have hcd:decide ((8192:Int)≤2*m)=true:=by simpa using hc
    clear hk;go_wp2_with fail
    go_round
    case rel=>exact ⟨14,by omega,by omega,by go_num,Or.inr (by simpa using hc)⟩
    case measure=>simp [intOf]
   ·have hx:widthZ m=13:=by
     have h:=HF.out 12 (by simp;omega) (by rcases hk with hk|hk <;> simp at hk ⊢ <;> omega)
     simpa using h
    have HX:=Lib.hid hx
    have hcd:decide ((8192:Int)≤2*m)=false:=by simpa using hc
    clear hk hx;go_wp2_with fail;go_ret;exact ⟨by rw [HX.out];rfl,rfl⟩
  ·by_cases hc:16384≤2*m
   ·have hcd:decide ((16384:Int)≤2*m)=true:=by simpa using hc
    clear hk;go_wp2_with fail
    go_round
    case rel=>exact ⟨15,by omega,by omega,by go_num,Or.inr (by simpa using hc)⟩
    case measure=>simp [intOf]
   ·have hx:widthZ m=14:=by
     have h:=HF.out 13 (by simp;omega) (by rcases hk with hk|hk <;> simp at hk ⊢ <;> omega)
     simpa using h
    have HX:=Lib.hid hx
    have hcd:decide ((16384:Int)≤2*m)=false:=by simpa using hc
    clear hk hx;go_wp2_with fail;go_ret;exact ⟨by rw [HX.out];rfl,rfl⟩
  ·by_cases hc:32768≤2*m
   ·have hcd:decide ((32768:Int)≤2*m)=true:=by simpa using hc
    clear hk;go_wp2_with fail
    go_round
    case rel=>exact ⟨16,by omega,by omega,by go_num,Or.inr (by simpa using hc)⟩
    case measure=>simp [intOf]
   ·have hx:widthZ m=15:=by
     have h:=HF.out 14 (by simp;omega) (by rcases hk with hk|hk <;> simp at hk ⊢ <;> omega)
     simpa using h
    have HX:=Lib.hid hx
    have hcd:decide ((32768:Int)≤2*m)=false:=by simpa using hc
    clear hk hx;go_wp2_with fail;go_ret;exact ⟨by rw [HX.out];rfl,rfl⟩
  ·by_cases hc:65536≤2*m
   ·have hcd:decide ((65536:Int)≤2*m)=true:=by simpa using hc
    clear hk;go_wp2_with fail
    go_round
    case rel=>exact ⟨17,by omega,by omega,by go_num,Or.inr (by simpa using hc)⟩
    case measure=>simp [intOf]
   ·have hx:widthZ m=16:=by
     have h:=HF.out 15 (by simp;omega) (by rcases hk with hk|hk <;> simp at hk ⊢ <;> omega)
     simpa using h
    have HX:=Lib.hid hx
    have hcd:decide ((65536:Int)≤2*m)=false:=by simpa using hc
    clear hk hx;go_wp2_with fail;go_ret;exact ⟨by rw [HX.out];rfl,rfl⟩
  ·by_cases hc:131072≤2*m
   ·exfalso;omega
   ·have hx:widthZ m=17:=by
     have h:=HF.out 16 (by simp;omega) (by rcases hk with hk|hk <;> simp at hk ⊢ <;> omega)
     simpa using h
    have HX:=Lib.hid hx
    have hcd:decide ((131072:Int)≤2*m)=false:=by simpa using hc
    clear hk hx;go_wp2_with fail;go_ret;exact ⟨by rw [HX.out];rfl,rfl⟩
set_option maxRecDepth 100000 in
set_option maxHeartbeats 4000000 in
theorem width_ref (m:Int) (w:World):Calls Tryz.prog 30 #[.int .i64 m] w fun e w'=>e=.returned (.int .i64 (widthZ m))∧w=w':=by
 by_cases h1:m < 1
 ·have HF:Hid (widthZ m=0):=by show _=_;unfold widthZ;rw [if_pos (Or.inl h1)]
  have d1:decide (m < 1)=true:=by simpa using h1
  go_enter Tryz.func30,Tryz.ntmps30
  go_wp2_with fail;go_ret;exact ⟨by rw [HF.out];rfl,rfl⟩
 by_cases h2:65535 < m
 ·have HF:Hid (widthZ m=0):=by show _=_;unfold widthZ;rw [if_pos (Or.inr h2)]
  have d1:decide (m < 1)=false:=by simpa using h1
  have d2:decide (65535 < m)=true:=by simpa using h2
  go_enter Tryz.func30,Tryz.ntmps30
  go_wp2_with fail;go_ret;exact ⟨by rw [HF.out];rfl,rfl⟩
 have d1:decide (m < 1)=false:=by simpa using h1
 have d2:decide (65535 < m)=false:=by simpa using h2
 have a1:1≤m:=by omega
 have a2:m≤65535:=by omega
 have HF:Hid (∀ k:Nat,2*m < 2 ^ (k+1)→2 ^ k≤2*m→widthZ m=((k+1:Nat):Int)):=fun k x y=>width_at a1 a2 x y;clear h1 h2
 go_enter Tryz.func30,Tryz.ntmps30
 go_wp2_with fail;clear d1 d2
 go_loop [3] (fun v=>∃ k:Nat,0≤k∧k≤17∧v=.int .i64 k∧(k=0∨(2:Int) ^ (k - 1)≤2*m)) (fun v=>18 - (intOf v).toNat)
 case atStart=>exact ⟨0,by omega,by omega,rfl,Or.inl rfl⟩
 case round =>
  obtain ⟨k,hk1,hk2,rfl,hk⟩:=hrel
  rcases (by omega:k=0∨k=1∨k=2∨k=3∨k=4∨k=5∨k=6∨k=7∨k=8∨k=9∨k=10∨k=11∨k=12∨k=13∨k=14∨k=15∨k=16∨k=17) with rfl|rfl|rfl|rfl|rfl|rfl|rfl|rfl|rfl|rfl|rfl|rfl|rfl|rfl|rfl|rfl|rfl|rfl
  ·by_cases hc:1≤2*m
   ·have hcd:decide ((1:Int)≤2*m)=true:=by simpa using hc
    clear hk;go_wp2_with fail
    go_round
    case rel=>exact ⟨1,by omega,by omega,by go_num,Or.inr (by simpa using hc)⟩
    case measure=>simp [intOf]
   ·exfalso;omega
  ·by_cases hc:2≤2*m
   ·have hcd:decide ((2:Int)≤2*m)=true:=by simpa using hc
    clear hk;go_wp2_with fail
    go_round
    case rel=>exact ⟨2,by omega,by omega,by go_num,Or.inr (by simpa using hc)⟩
    case measure=>simp [intOf]
   ·have hx:widthZ m=1:=by
     have h:=HF.out 0 (by simp;omega) (by rcases hk with hk|hk <;> simp at hk ⊢ <;> omega)
     simpa using h
    have HX:=Lib.hid hx
    have hcd:decide ((2:Int)≤2*m)=false:=by simpa using hc
    clear hk hx;go_wp2_with fail;go_ret;exact ⟨by rw [HX.out];rfl,rfl⟩
  ·by_cases hc:4≤2*m
   ·have hcd:decide ((4:Int)≤2*m)=true:=by simpa using hc
    clear hk;go_wp2_with fail
    go_round
    case rel=>exact ⟨3,by omega,by omega,by go_num,Or.inr (by simpa using hc)⟩
    case measure=>simp [intOf]
   ·have hx:widthZ m=2:=by
     have h:=HF.out 1 (by simp;omega) (by rcases hk with hk|hk <;> simp at hk ⊢ <;> omega)
     simpa using h
    have HX:=Lib.hid hx
    have hcd:decide ((4:Int)≤2*m)=false:=by simpa using hc
    clear hk hx;go_wp2_with fail;go_ret;exact ⟨by rw [HX.out];rfl,rfl⟩
  ·by_cases hc:8≤2*m
   ·have hcd:decide ((8:Int)≤2*m)=true:=by simpa using hc
    clear hk;go_wp2_with fail
    go_round
    case rel=>exact ⟨4,by omega,by omega,by go_num,Or.inr (by simpa using hc)⟩
    case measure=>simp [intOf]
   ·have hx:widthZ m=3:=by
     have h:=HF.out 2 (by simp;omega) (by rcases hk with hk|hk <;> simp at hk ⊢ <;> omega)
     simpa using h
    have HX:=Lib.hid hx
    have hcd:decide ((8:Int)≤2*m)=false:=by simpa using hc
    clear hk hx;go_wp2_with fail;go_ret;exact ⟨by rw [HX.out];rfl,rfl⟩
  ·by_cases hc:16≤2*m
   ·have hcd:decide ((16:Int)≤2*m)=true:=by simpa using hc
    clear hk;go_wp2_with fail
    go_round
    case rel=>exact ⟨5,by omega,by omega,by go_num,Or.inr (by simpa using hc)⟩
    case measure=>simp [intOf]
   ·have hx:widthZ m=4:=by
     have h:=HF.out 3 (by simp;omega) (by rcases hk with hk|hk <;> simp at hk ⊢ <;> omega)
     simpa using h
    have HX:=Lib.hid hx
    have hcd:decide ((16:Int)≤2*m)=false:=by simpa using hc
    clear hk hx;go_wp2_with fail;go_ret;exact ⟨by rw [HX.out];rfl,rfl⟩
  ·by_cases hc:32≤2*m
   ·have hcd:decide ((32:Int)≤2*m)=true:=by simpa using hc
    clear hk;go_wp2_with fail
    go_round
    case rel=>exact ⟨6,by omega,by omega,by go_num,Or.inr (by simpa using hc)⟩
    case measure=>simp [intOf]
   ·have hx:widthZ m=5:=by
     have h:=HF.out 4 (by simp;omega) (by rcases hk with hk|hk <;> simp at hk ⊢ <;> omega)
     simpa using h
    have HX:=Lib.hid hx
    have hcd:decide ((32:Int)≤2*m)=false:=by simpa using hc
    clear hk hx;go_wp2_with fail;go_ret;exact ⟨by rw [HX.out];rfl,rfl⟩
  ·by_cases hc:64≤2*m
   ·have hcd:decide ((64:Int)≤2*m)=true:=by simpa using hc
    clear hk;go_wp2_with fail
    go_round
    case rel=>exact ⟨7,by omega,by omega,by go_num,Or.inr (by simpa using hc)⟩
    case measure=>simp [intOf]
   ·have hx:widthZ m=6:=by
     have h:=HF.out 5 (by simp;omega) (by rcases hk with hk|hk <;> simp at hk ⊢ <;> omega)
     simpa using h
    have HX:=Lib.hid hx
    have hcd:decide ((64:Int)≤2*m)=false:=by simpa using hc
    clear hk hx;go_wp2_with fail;go_ret;exact ⟨by rw [HX.out];rfl,rfl⟩
  ·by_cases hc:128≤2*m
   ·have hcd:decide ((128:Int)≤2*m)=true:=by simpa using hc
    clear hk;go_wp2_with fail
    go_round
    case rel=>exact ⟨8,by omega,by omega,by go_num,Or.inr (by simpa using hc)⟩
    case measure=>simp [intOf]
   ·have hx:widthZ m=7:=by
     have h:=HF.out 6 (by simp;omega) (by rcases hk with hk|hk <;> simp at hk ⊢ <;> omega)
     simpa using h
    have HX:=Lib.hid hx
    have hcd:decide ((128:Int)≤2*m)=false:=by simpa using hc
    clear hk hx;go_wp2_with fail;go_ret;exact ⟨by rw [HX.out];rfl,rfl⟩
  ·by_cases hc:256≤2*m
   ·have hcd:decide ((256:Int)≤2*m)=true:=by simpa using hc
    clear hk;go_wp2_with fail
    go_round
    case rel=>exact ⟨9,by omega,by omega,by go_num,Or.inr (by simpa using hc)⟩
    case measure=>simp [intOf]
   ·have hx:widthZ m=8:=by
     have h:=HF.out 7 (by simp;omega) (by rcases hk with hk|hk <;> simp at hk ⊢ <;> omega)
     simpa using h
    have HX:=Lib.hid hx
    have hcd:decide ((256:Int)≤2*m)=false:=by simpa using hc
    clear hk hx;go_wp2_with fail;go_ret;exact ⟨by rw [HX.out];rfl,rfl⟩
  ·by_cases hc:512≤2*m
   ·have hcd:decide ((512:Int)≤2*m)=true:=by simpa using hc
    clear hk;go_wp2_with fail
    go_round
    case rel=>exact ⟨10,by omega,by omega,by go_num,Or.inr (by simpa using hc)⟩
    case measure=>simp [intOf]
   ·have hx:widthZ m=9:=by
     have h:=HF.out 8 (by simp;omega) (by rcases hk with hk|hk <;> simp at hk ⊢ <;> omega)
     simpa using h
    have HX:=Lib.hid hx
    have hcd:decide ((512:Int)≤2*m)=false:=by simpa using hc
    clear hk hx;go_wp2_with fail;go_ret;exact ⟨by rw [HX.out];rfl,rfl⟩
  ·by_cases hc:1024≤2*m
   ·have hcd:decide ((1024:Int)≤2*m)=true:=by simpa using hc
    clear hk;go_wp2_with fail
    go_round
    case rel=>exact ⟨11,by omega,by omega,by go_num,Or.inr (by simpa using hc)⟩
    case measure=>simp [intOf]
   ·have hx:widthZ m=10:=by
     have h:=HF.out 9 (by simp;omega) (by rcases hk with hk|hk <;> simp at hk ⊢ <;> omega)
     simpa using h
    have HX:=Lib.hid hx
    have hcd:decide ((1024:Int)≤2*m)=false:=by simpa using hc
    clear hk hx;go_wp2_with fail;go_ret;exact ⟨by rw [HX.out];rfl,rfl⟩
  ·by_cases hc:2048≤2*m
   ·have hcd:decide ((2048:Int)≤2*m)=true:=by simpa using hc
    clear hk;go_wp2_with fail
    go_round
    case rel=>exact ⟨12,by omega,by omega,by go_num,Or.inr (by simpa using hc)⟩
    case measure=>simp [intOf]
   ·have hx:widthZ m=11:=by
     have h:=HF.out 10 (by simp;omega) (by rcases hk with hk|hk <;> simp at hk ⊢ <;> omega)
     simpa using h
    have HX:=Lib.hid hx
    have hcd:decide ((2048:Int)≤2*m)=false:=by simpa using hc
    clear hk hx;go_wp2_with fail;go_ret;exact ⟨by rw [HX.out];rfl,rfl⟩
  ·by_cases hc:4096≤2*m
   ·have hcd:decide ((4096:Int)≤2*m)=true:=by simpa using hc
    clear hk;go_wp2_with fail
    go_round
    case rel=>exact ⟨13,by omega,by omega,by go_num,Or.inr (by simpa using hc)⟩
    case measure=>simp [intOf]
   ·have hx:widthZ m=12:=by
     have h:=HF.out 11 (by simp;omega) (by rcases hk with hk|hk <;> simp at hk ⊢ <;> omega)
     simpa using h
    have HX:=Lib.hid hx
    have hcd:decide ((4096:Int)≤2*m)=false:=by simpa using hc
    clear hk hx;go_wp2_with fail;go_ret;exact ⟨by rw [HX.out];rfl,rfl⟩
  ·by_cases hc:8192≤2*m
   ·have hcd:decide ((8192:Int)≤2*m)=true:=by simpa using hc
    clear hk;go_wp2_with fail
    go_round
    case rel=>exact ⟨14,by omega,by omega,by go_num,Or.inr (by simpa using hc)⟩
    case measure=>simp [intOf]
   ·have hx:widthZ m=13:=by
     have h:=HF.out 12 (by simp;omega) (by rcases hk with hk|hk <;> simp at hk ⊢ <;> omega)
     simpa using h
    have HX:=Lib.hid hx
    have hcd:decide ((8192:Int)≤2*m)=false:=by simpa using hc
    clear hk hx;go_wp2_with fail;go_ret;exact ⟨by rw [HX.out];rfl,rfl⟩
  ·by_cases hc:16384≤2*m
   ·have hcd:decide ((16384:Int)≤2*m)=true:=by simpa using hc
    clear hk;go_wp2_with fail
    go_round
    case rel=>exact ⟨15,by omega,by omega,by go_num,Or.inr (by simpa using hc)⟩
    case measure=>simp [intOf]
   ·have hx:widthZ m=14:=by
     have h:=HF.out 13 (by simp;omega) (by rcases hk with hk|hk <;> simp at hk ⊢ <;> omega)
     simpa using h
    have HX:=Lib.hid hx
    have hcd:decide ((16384:Int)≤2*m)=false:=by simpa using hc
    clear hk hx;go_wp2_with fail;go_ret;exact ⟨by rw [HX.out];rfl,rfl⟩
  ·by_cases hc:32768≤2*m
   ·have hcd:decide ((32768:Int)≤2*m)=true:=by simpa using hc
    clear hk;go_wp2_with fail
    go_round
    case rel=>exact ⟨16,by omega,by omega,by go_num,Or.inr (by simpa using hc)⟩
    case measure=>simp [intOf]
   ·have hx:widthZ m=15:=by
     have h:=HF.out 14 (by simp;omega) (by rcases hk with hk|hk <;> simp at hk ⊢ <;> omega)
     simpa using h
    have HX:=Lib.hid hx
    have hcd:decide ((32768:Int)≤2*m)=false:=by simpa using hc
    clear hk hx;go_wp2_with fail;go_ret;exact ⟨by rw [HX.out];rfl,rfl⟩
  ·by_cases hc:65536≤2*m
   ·have hcd:decide ((65536:Int)≤2*m)=true:=by simpa using hc
    clear hk;go_wp2_with fail
    go_round
    case rel=>exact ⟨17,by omega,by omega,by go_num,Or.inr (by simpa using hc)⟩
    case measure=>simp [intOf]
   ·have hx:widthZ m=16:=by
     have h:=HF.out 15 (by simp;omega) (by rcases hk with hk|hk <;> simp at hk ⊢ <;> omega)
     simpa using h
    have HX:=Lib.hid hx
    have hcd:decide ((65536:Int)≤2*m)=false:=by simpa using hc
    clear hk hx;go_wp2_with fail;go_ret;exact ⟨by rw [HX.out];rfl,rfl⟩
  ·by_cases hc:131072≤2*m
   ·exfalso;omega
   ·have hx:widthZ m=17:=by
     have h:=HF.out 16 (by simp;omega) (by rcases hk with hk|hk <;> simp at hk ⊢ <;> omega)
     simpa using h
    have HX:=Lib.hid hx
    have hcd:decide ((131072:Int)≤2*m)=false:=by simpa using hc
    clear hk hx;go_wp2_with fail;go_ret;exact ⟨by rw [HX.out];rfl,rfl⟩
end Go.Proofs.YtpcdfepndmconaaGreatDoor
namespace Go.Proofs.YtpcdfepndmconaaGreatDoor
open Go.RowKit
def witF (q number:Int) (out x:Int):Int:=mulZ q out (subZ q number x)
def witZ (q number:Int) (l:List Int):Int:=l.foldl (witF q number) (mulZ q 1 1)
theorem wit_i64 (q number:Int):∀ (l:List Int) (v:Int),Wire.I64 v→Wire.I64 (l.foldl (witF q number) v)
 | [],_,h=>h
 | _::l,_,_=>wit_i64 q number l _ (mulZ_i64 _ _ _)
set_option maxRecDepth 100000 in
set_option maxHeartbeats 800000 in
theorem witness_show (q number:Int) (v:Value) (l:List Int) (w:World) (hv:Row w 1 v l.length (ints l)) (hi:∀ x∈l,Wire.I64 x) (hn:Wire.I64 number) :
  Calls Tryz.prog 31 #[.int .i64 q,.int .i64 number,v] w fun e w'=>e=.returned (.int .i64 (witZ q number l))∧Kept [] w w':=by
 obtain ⟨va,vc,rfl,hl,_⟩:=hv.form;have HV:=Lib.hid hv;have HI:=Lib.hid hi;have C1:=Lib.hid (fmulZ_any q 1 1 w ⟨by omega,by omega⟩ ⟨by omega,by omega⟩);have i1:=mulZ_i64 q 1 1;have HW:Hid (witZ q number l=l.foldl (witF q number) (mulZ q 1 1)):=rfl;obtain ⟨o,ho⟩:∃ o,mulZ q 1 1=o:=⟨_,rfl⟩;rw [ho] at C1 i1 HW;clear hv hi ho
 go_enter Tryz.func31,Tryz.ntmps31
 go_wp2_with (go_at_call 80;refine C1.out.mono ?_);rintro e w1 ⟨rfl,k1⟩;go_wp2_with fail
 go_loopw [7,9,14] (fun vo _ vi wr=>∃ (k:Nat) (u:Int),k≤l.length∧vi=.int .i64 k∧vo=.int .i64 u∧Wire.I64 u∧witZ q number l=(l.drop k).foldl (witF q number) u∧Kept [] w wr) (fun _ _ vi _=>l.length - (intOf vi).toNat)
 case atStart=>exact ⟨0,o,Nat.zero_le _,rfl,rfl,i1,HW.out,k1⟩
 case round =>
  obtain ⟨k,u,hk,rfl,rfl,iu,hf,hkr⟩:=hrel;have HF:=Lib.hid hf;clear hf
  by_cases hlt:k < l.length
  ·obtain ⟨ba,oa,rfl,hca⟩:=(HV.out.kept hkr).at_ (by omega);have xa:=hca k _ (ints_get hlt);have ix:=HI.out l[k] (List.getElem_mem hlt);have hd:l.drop k=l[k]::l.drop (k+1):=List.drop_eq_getElem_cons hlt
   have HN:Hid (witZ q number l=(l.drop (k+1)).foldl (witF q number) (mulZ q u (subZ q number l[k]))):=by
    show _=_
    rw [HF.out,hd];rfl
   obtain ⟨x,hx⟩:∃ x,l[k]=x:=⟨_,rfl⟩;rw [hx] at xa ix HN;have S:=Lib.hid (fsubZ_any q number x wr hn ix);have is_:=subZ_i64 q number x;obtain ⟨y,hy⟩:∃ y,subZ q number x=y:=⟨_,rfl⟩;rw [hy] at S is_ HN;have M:Hid (∀ w',Calls Tryz.prog 80 #[.int .i64 q,.int .i64 u,.int .i64 y] w' fun e w2=>e=.returned (.int .i64 (mulZ q u y))∧Kept [] w' w2):=fun w'=>fmulZ_any q u y w' iu is_;have im:=mulZ_i64 q u y;obtain ⟨z,hz⟩:∃ z,mulZ q u y=z:=⟨_,rfl⟩;rw [hz] at M im HN
   have hkl:(k:Int) < (l.length:Int):=by omega
   clear hca hd hx hy hz;go_wp2_with (go_at_call 81;refine S.out.mono ?_);rintro e w2 ⟨rfl,k2⟩;go_wp2_with (go_at_call 80;refine (M.out _).mono ?_);rintro e w3 ⟨rfl,k3⟩;go_wp2_with fail
   go_roundw
   case rel=>exact ⟨k+1,z,by omega,by go_num,rfl,im,HN.out,hkr.trans (k2.trans k3)⟩
   case measure=>simp [intOf];omega
  ·obtain rfl:k=l.length:=by omega
   have hfin:Hid (witZ q number l=u):=by
    show _=_
    rw [HF.out];simp
   go_wp2_with fail;go_ret;exact ⟨by rw [hfin.out];rfl,hkr⟩
set_option maxRecDepth 100000 in
set_option maxHeartbeats 800000 in
theorem witness_ref (q number:Int) (v:Value) (l:List Int) (w:World) (hv:Row w 1 v l.length (ints l)) (hi:∀ x∈l,Wire.I64 x) (hn:Wire.I64 number) :
  Calls Tryz.prog 32 #[.int .i64 q,.int .i64 number,v] w fun e w'=>e=.returned (.int .i64 (witZ q number l))∧Kept [] w w':=by
 obtain ⟨va,vc,rfl,hl,_⟩:=hv.form;have HV:=Lib.hid hv;have HI:=Lib.hid hi;have C1:=Lib.hid (rmulZ_any q 1 1 w ⟨by omega,by omega⟩ ⟨by omega,by omega⟩);have i1:=mulZ_i64 q 1 1;have HW:Hid (witZ q number l=l.foldl (witF q number) (mulZ q 1 1)):=rfl;obtain ⟨o,ho⟩:∃ o,mulZ q 1 1=o:=⟨_,rfl⟩;rw [ho] at C1 i1 HW;clear hv hi ho
 go_enter Tryz.func32,Tryz.ntmps32
 go_wp2_with (go_at_call 82;refine C1.out.mono ?_;rintro e w' ⟨rfl,rfl⟩)
 go_loop [7,8] (fun vo vi=>∃ (k:Nat) (u:Int),k≤l.length∧vi=.int .i64 k∧vo=.int .i64 u∧Wire.I64 u∧witZ q number l=(l.drop k).foldl (witF q number) u) (fun _ vi=>l.length - (intOf vi).toNat)
 case atStart=>exact ⟨0,o,Nat.zero_le _,rfl,rfl,i1,HW.out⟩
 case round =>
  obtain ⟨k,u,hk,rfl,rfl,iu,hf⟩:=hrel;have HF:=Lib.hid hf;clear hf
  by_cases hlt:k < l.length
  ·obtain ⟨ba,oa,rfl,hca⟩:=HV.out.at_ (by omega);have xa:=hca k _ (ints_get hlt);have ix:=HI.out l[k] (List.getElem_mem hlt);have hd:l.drop k=l[k]::l.drop (k+1):=List.drop_eq_getElem_cons hlt
   have HN:Hid (witZ q number l=(l.drop (k+1)).foldl (witF q number) (mulZ q u (subZ q number l[k]))):=by
    show _=_
    rw [HF.out,hd];rfl
   obtain ⟨x,hx⟩:∃ x,l[k]=x:=⟨_,rfl⟩;rw [hx] at xa ix HN;have S:=Lib.hid (rsubZ_any q number x w hn ix);have is_:=subZ_i64 q number x;obtain ⟨y,hy⟩:∃ y,subZ q number x=y:=⟨_,rfl⟩;rw [hy] at S is_ HN;have M:=Lib.hid (rmulZ_any q u y w iu is_);have im:=mulZ_i64 q u y;obtain ⟨z,hz⟩:∃ z,mulZ q u y=z:=⟨_,rfl⟩;rw [hz] at M im HN
   have hkl:(k:Int) < (l.length:Int):=by omega
   clear hca hd hx hy hz
   go_wp2_with (first
    | (go_at_call 83;refine S.out.mono ?_;rintro e w' ⟨rfl,rfl⟩)
    | (go_at_call 82;refine M.out.mono ?_;rintro e w' ⟨rfl,rfl⟩))
   go_round
   case rel=>exact ⟨k+1,z,by omega,by go_num,rfl,im,HN.out⟩
   case measure=>simp [intOf];omega
  ·obtain rfl:k=l.length:=by omega
   have hfin:Hid (witZ q number l=u):=by
    show _=_
    rw [HF.out];simp
   go_wp2_with fail;go_ret;exact ⟨by rw [hfin.out];rfl,Kept.refl _ _⟩
def updZ (q witness number:Int) (l:List Int):Int:=mulZ q witness (witZ q number l)
set_option maxHeartbeats 400000 in
theorem update_show (q x number:Int) (v:Value) (l:List Int) (w:World) (hv:Row w 1 v l.length (ints l)) (hi:∀ x∈l,Wire.I64 x) (hn:Wire.I64 number) (hx:Wire.I64 x) :
  Calls Tryz.prog 33 #[.int .i64 q,.int .i64 x,.int .i64 number,v] w fun e w'=>e=.returned (.int .i64 (updZ q x number l))∧Kept [] w w':=by
 have W:=Lib.hid (witness_show q number v l w hv hi hn);have iw:Wire.I64 (witZ q number l):=wit_i64 q number l _ (mulZ_i64 _ _ _)
 unfold updZ
 obtain ⟨y,hy⟩:∃ y,witZ q number l=y:=⟨_,rfl⟩;rw [hy] at W iw ⊢;have M:Hid (∀ w',Calls Tryz.prog 80 #[.int .i64 q,.int .i64 x,.int .i64 y] w' fun e w2=>e=.returned (.int .i64 (mulZ q x y))∧Kept [] w' w2):=fun w'=>fmulZ_any q x y w' hx iw;clear hv hi hy
 go_enter Tryz.func33,Tryz.ntmps33
 go_wp2_with (go_at_call 31;refine W.out.mono ?_);rintro e w2 ⟨rfl,k2⟩;go_wp2_with (go_at_call 80;refine (M.out _).mono ?_);rintro e w3 ⟨rfl,k3⟩;go_wp2_with fail;go_ret;exact ⟨rfl,k2.trans k3⟩
set_option maxHeartbeats 400000 in
theorem update_ref (q x number:Int) (v:Value) (l:List Int) (w:World) (hv:Row w 1 v l.length (ints l)) (hi:∀ x∈l,Wire.I64 x) (hn:Wire.I64 number) (hx:Wire.I64 x) :
  Calls Tryz.prog 34 #[.int .i64 q,.int .i64 x,.int .i64 number,v] w fun e w'=>e=.returned (.int .i64 (updZ q x number l))∧Kept [] w w':=by
 have W:=Lib.hid (witness_ref q number v l w hv hi hn);have iw:Wire.I64 (witZ q number l):=wit_i64 q number l _ (mulZ_i64 _ _ _)
 unfold updZ
 obtain ⟨y,hy⟩:∃ y,witZ q number l=y:=⟨_,rfl⟩;rw [hy] at W iw ⊢;have M:Hid (∀ w',Calls Tryz.prog 82 #[.int .i64 q,.int .i64 x,.int .i64 y] w' fun e w2=>e=.returned (.int .i64 (mulZ q x y))∧w'=w2):=fun w'=>rmulZ_any q x y w' hx iw;clear hv hi hy
 go_enter Tryz.func34,Tryz.ntmps34
 go_wp2_with (go_at_call 32;refine W.out.mono ?_);rintro e w2 ⟨rfl,k2⟩;go_wp2_with (go_at_call 82;refine (M.out _).mono ?_;rintro e w' ⟨rfl,rfl⟩);go_ret;exact ⟨rfl,k2⟩
end Go.Proofs.YtpcdfepndmconaaGreatDoor
