/- Sums, differences and products modulo any int: 0 where it is no modulus. -/
import Derived.Test.YtpcdfepndmconaaGreatDoorFld1
import Derived.LoopTactic
import Derived.Laws.Bits64b
/- JOINED: Fld2 Fld3 Rf1 Zop -/
/- Add, Sub, Mul, power, Pow modulo a small number. -/
namespace Go.Proofs.YtpcdfepndmconaaGreatDoor
open Go.RowKit
def addN (N:Nat) (a b:Int):Nat:=(res N a+res N b) % N
def subN (N:Nat) (a b:Int):Nat:=(res N a+N - res N b) % N
def mulN (N:Nat) (a b:Int):Nat:=res N a*res N b % N
set_option maxRecDepth 100000 in
set_option maxHeartbeats 800000 in
theorem fadd_any (N:Nat) (a b:Int) (w:World) (h1:1≤N) (h2:N < 2305843009213693952) (ha:Wire.I64 a) (hb:Wire.I64 b) :
  Calls Tryz.prog 138 #[.int .i64 N,.int .i64 a,.int .i64 b] w fun e w'=>e=.returned (.int .i64 ((addN N a b:Nat):Int))∧Kept [] w w':=by
 have V:=Lib.hid (fvalid_any N w h1 h2);have HA:=Lib.hid (residue_any N a w h1 h2 ha);have HB:=Lib.hid (residue_any N b w h1 h2 hb);have l1:=res_lt N a h1;have l2:=res_lt N b h1
 have hz':¬ (N:Int)=0:=by omega
 unfold addN
 obtain ⟨x,hx⟩:∃ x,res N a=x:=⟨_,rfl⟩;obtain ⟨y,hy⟩:∃ y,res N b=y:=⟨_,rfl⟩;rw [hx] at HA l1 ⊢;rw [hy] at HB l2 ⊢;have q4:((x:Int)+(y:Int)) % (N:Int) < N:=Int.emod_lt_of_pos _ (by omega);have q6:0≤((x:Int)+(y:Int)) % (N:Int):=Int.emod_nonneg _ (by omega);clear hx hy
 go_enter Tryz.func138,Tryz.ntmps138
 go_wp2_with (first
  | (go_at_call 154;refine V.out.mono ?_;rintro e w' ⟨rfl,rfl⟩)
  | (go_at_call 156;with_reducible refine HA.out.mono ?_;rintro e w' ⟨rfl,rfl⟩)
  | (go_at_call 156;with_reducible refine HB.out.mono ?_;rintro e w' ⟨rfl,rfl⟩))
 go_ret;exact ⟨rfl,Kept.refl _ _⟩
set_option maxRecDepth 100000 in
set_option maxHeartbeats 800000 in
theorem fsub_any (N:Nat) (a b:Int) (w:World) (h1:1≤N) (h2:N < 2305843009213693952) (ha:Wire.I64 a) (hb:Wire.I64 b) :
  Calls Tryz.prog 81 #[.int .i64 N,.int .i64 a,.int .i64 b] w fun e w'=>e=.returned (.int .i64 ((subN N a b:Nat):Int))∧Kept [] w w':=by
 have V:=Lib.hid (fvalid_any N w h1 h2);have HA:=Lib.hid (residue_any N a w h1 h2 ha);have HB:=Lib.hid (residue_any N b w h1 h2 hb);have l1:=res_lt N a h1;have l2:=res_lt N b h1
 have hz':¬ (N:Int)=0:=by omega
 unfold subN
 obtain ⟨x,hx⟩:∃ x,res N a=x:=⟨_,rfl⟩;obtain ⟨y,hy⟩:∃ y,res N b=y:=⟨_,rfl⟩;rw [hx] at HA l1 ⊢;rw [hy] at HB l2 ⊢;have q4:((x:Int)+(N:Int) - (y:Int)) % (N:Int) < N:=Int.emod_lt_of_pos _ (by omega);have q6:0≤((x:Int)+(N:Int) - (y:Int)) % (N:Int):=Int.emod_nonneg _ (by omega);clear hx hy
 go_enter Tryz.func81,Tryz.ntmps81
 go_wp2_with (first
  | (go_at_call 154;refine V.out.mono ?_;rintro e w' ⟨rfl,rfl⟩)
  | (go_at_call 156;with_reducible refine HA.out.mono ?_;rintro e w' ⟨rfl,rfl⟩)
  | (go_at_call 156;with_reducible refine HB.out.mono ?_;rintro e w' ⟨rfl,rfl⟩))
 go_ret;refine ⟨?_,Kept.refl _ _⟩
 have e1:(((x+N - y) % N:Nat):Int)=((x:Int)+(N:Int) - (y:Int)) % (N:Int):=by
  rw [Int.natCast_emod,show ((x+N - y:Nat):Int)=(x:Int)+(N:Int) - (y:Int) by omega]
 rw [e1]
 rfl
set_option maxRecDepth 100000 in
set_option maxHeartbeats 800000 in
theorem fmul_any (N:Nat) (a b:Int) (w:World) (h1:1≤N) (h2:N < 2305843009213693952) (ha:Wire.I64 a) (hb:Wire.I64 b) :
  Calls Tryz.prog 80 #[.int .i64 N,.int .i64 a,.int .i64 b] w fun e w'=>e=.returned (.int .i64 ((mulN N a b:Nat):Int))∧Kept [] w w':=by
 have V:=Lib.hid (fvalid_any N w h1 h2);have HA:=Lib.hid (residue_any N a w h1 h2 ha);have HB:=Lib.hid (residue_any N b w h1 h2 hb);have l1:=res_lt N a h1;have l2:=res_lt N b h1
 unfold mulN
 obtain ⟨x,hx⟩:∃ x,res N a=x:=⟨_,rfl⟩;obtain ⟨y,hy⟩:∃ y,res N b=y:=⟨_,rfl⟩;rw [hx] at HA l1 ⊢;rw [hy] at HB l2 ⊢;have HP:=Lib.hid (product_any N x y w h1 h2 l1 l2);have q4:x*y % N < N:=Nat.mod_lt _ (by omega);obtain ⟨p,hp⟩:∃ p,x*y % N=p:=⟨_,rfl⟩;rw [hp] at HP q4 ⊢;clear hx hy hp
 go_enter Tryz.func80,Tryz.ntmps80
 go_wp2_with (first
  | (go_at_call 154;refine V.out.mono ?_;rintro e w' ⟨rfl,rfl⟩)
  | (go_at_call 156;with_reducible refine HA.out.mono ?_;rintro e w' ⟨rfl,rfl⟩)
  | (go_at_call 156;with_reducible refine HB.out.mono ?_;rintro e w' ⟨rfl,rfl⟩)
  | (go_at_call 155;refine HP.out.mono ?_;rintro e w1 ⟨rfl,hk⟩))
 go_ret;exact ⟨rfl,hk⟩
end Go.Proofs.YtpcdfepndmconaaGreatDoor
/- Powers modulo a small number: power, Pow. -/
namespace Go.Proofs.YtpcdfepndmconaaGreatDoor
open Go.RowKit
theorem and_one (y:Nat) (hy:y < 18446744073709551616):bits .and .u64 (y:Int) 1=((y % 2:Nat):Int):=by
 have h:=bits_and_u64_nat y 1 hy (by omega);rw [Nat.and_one_is_mod] at h;exact h
theorem pow_step (N o x y:Nat):(y % 2=1→(o*x % N)*(x*x % N) ^ (y / 2) % N=o*x ^ y % N)∧(y % 2=0→o*(x*x % N) ^ (y / 2) % N=o*x ^ y % N):=by
 have hsq:∀ k,(x*x % N) ^ k % N=x ^ (2*k) % N:=by
  intro k;rw [Nat.pow_mod,Nat.mod_mod,←Nat.pow_mod,←Nat.pow_two,←Nat.pow_mul]
 constructor
 ·intro h;rw [Nat.mul_mod,Nat.mod_mod,hsq,←Nat.mul_mod,Nat.mul_assoc,←Nat.pow_succ',show (2*(y / 2)).succ=y by omega]
 ·intro h;rw [Nat.mul_mod,hsq,←Nat.mul_mod,show 2*(y / 2)=y by omega]
set_option maxRecDepth 100000 in
set_option maxHeartbeats 1000000 in
theorem power_any (N a b:Nat) (w:World) (h1:2≤N) (h2:N < 2305843009213693952) (ha:a < N) (hb:b < 18446744073709551616) :
  Calls Tryz.prog 168 #[.int .i64 N,.int .u64 a,.int .u64 b] w fun e w'=>e=.returned (.int .u64 ((a ^ b % N:Nat):Int))∧Kept [] w w':=by
 obtain ⟨T,hT⟩:∃ T,a ^ b % N=T:=⟨_,rfl⟩;rw [hT]
 have hz':¬ (N:Int)=0:=by omega
 have e1:(1:Int) % (N:Int)=1:=Int.emod_eq_of_lt (by omega) (by omega)
 have h0:1*a ^ b % N=T:=by rw [Nat.one_mul];exact hT
 have H0:=Lib.hid h0;clear h0 hT
 go_enter Tryz.func168,Tryz.ntmps168
 go_wp2_with fail;simp only [e1]
 go_loopw [1,2,7] (fun va vb vo wr=>∃ x y o:Nat,va=.int .u64 x∧vb=.int .u64 y∧vo=.int .u64 o∧x < N∧y < 18446744073709551616∧o < N∧o*x ^ y % N=T∧Kept [] w wr) (fun _ vb _ _=>(intOf vb).toNat)
 case atStart=>exact ⟨a,b,1,rfl,rfl,rfl,ha,hb,by omega,H0.out,Kept.refl _ _⟩
 case round =>
  obtain ⟨x,y,o,rfl,rfl,rfl,hx,hy,ho,hr,hk⟩:=hrel;obtain ⟨s1,s2⟩:=pow_step N o x y;have PS:=Lib.hid (fun wr=>product_any N x x wr (by omega) h2 hx hx);have PO:=Lib.hid (fun wr=>product_any N o x wr (by omega) h2 ho hx);have hand:=and_one y hy;have HR:=Lib.hid hr;have S1:=Lib.hid s1;have S2:=Lib.hid s2;have lo:o*x % N < N:=Nat.mod_lt _ (by omega);have lx:x*x % N < N:=Nat.mod_lt _ (by omega);obtain ⟨X,hX⟩:∃ X,x*x % N=X:=⟨_,rfl⟩;obtain ⟨O,hO⟩:∃ O,o*x % N=O:=⟨_,rfl⟩;rw [hX] at PS S1 S2 lx;rw [hO] at PO S1 lo;clear s1 s2 hr hX hO
  by_cases hy0:y=0
  ·subst hy0
   have hd:decide ((0:Int) < 0)=false:=by decide
   have hT:o=T:=by
    have:=HR.out;rw [Nat.pow_zero,Nat.mul_one,Nat.mod_eq_of_lt ho] at this;exact this
   clear hand;go_wp2_with fail;go_ret;exact ⟨rfl,hk⟩
  ·have hd:decide ((0:Int) < (y:Int))=true:=by simp;omega
   rcases Nat.mod_two_eq_zero_or_one y with h2'|h2'
   ·rw [h2'] at hand;have hn:=S2.out h2';rw [HR.out] at hn;have HN:=Lib.hid hn;clear hn;have hand':bits .and .u64 (y:Int) 1=0:=hand;clear hand;go_wp2_with (go_at_call 155;with_reducible refine (PS.out _).mono ?_);rintro e w1 ⟨rfl,hk1⟩;go_wp2_with fail
    go_roundw
    case rel=>exact ⟨X,y / 2,o,rfl,rfl,rfl,lx,by omega,ho,HN.out,hk.trans hk1⟩
    case measure=>simp [intOf];omega
   ·rw [h2'] at hand;have hn:=S1.out h2';rw [HR.out] at hn;have HN:=Lib.hid hn;clear hn;have hand':bits .and .u64 (y:Int) 1=1:=hand;clear hand;go_wp2_with (go_at_call 155;with_reducible refine (PO.out _).mono ?_);rintro e w1 ⟨rfl,hk1⟩;go_wp2_with (go_at_call 155;with_reducible refine (PS.out _).mono ?_);rintro e w2 ⟨rfl,hk2⟩;go_wp2_with fail
    go_roundw
    case rel=>exact ⟨X,y / 2,O,rfl,rfl,rfl,lx,by omega,lo,HN.out,(hk.trans hk1).trans hk2⟩
    case measure=>simp [intOf];omega
def powN (N:Nat) (a:Int) (b:Nat):Nat:=res N a ^ b % N
set_option maxRecDepth 100000 in
set_option maxHeartbeats 800000 in
theorem fpow_any (N:Nat) (a:Int) (b:Nat) (w:World) (h1:2≤N) (h2:N < 2305843009213693952) (ha:Wire.I64 a) (hb:b < 9223372036854775808) :
  Calls Tryz.prog 96 #[.int .i64 N,.int .i64 a,.int .i64 b] w fun e w'=>e=.returned (.int .i64 ((powN N a b:Nat):Int))∧Kept [] w w':=by
 have V:=Lib.hid (fvalid_any N w (by omega) h2);have HA:=Lib.hid (residue_any N a w (by omega) h2 ha);have l1:=res_lt N a (by omega)
 unfold powN
 obtain ⟨x,hx⟩:∃ x,res N a=x:=⟨_,rfl⟩;rw [hx] at HA l1 ⊢;have HP:=Lib.hid (power_any N x b w h1 h2 l1 (by omega));have q4:x ^ b % N < N:=Nat.mod_lt _ (by omega);obtain ⟨p,hp⟩:∃ p,x ^ b % N=p:=⟨_,rfl⟩;rw [hp] at HP q4 ⊢
 have hge:decide ((0:Int)≤(b:Int))=true:=by simp
 clear hx hp
 go_enter Tryz.func96,Tryz.ntmps96
 go_wp2_with (first
  | (go_at_call 154;refine V.out.mono ?_;rintro e w' ⟨rfl,rfl⟩)
  | (go_at_call 156;refine HA.out.mono ?_;rintro e w' ⟨rfl,rfl⟩)
  | (go_at_call 168;refine HP.out.mono ?_;rintro e w1 ⟨rfl,hk⟩))
 go_ret;exact ⟨rfl,hk⟩
/-! ### the example's group: 23, 11, 4 -/
end Go.Proofs.YtpcdfepndmconaaGreatDoor
/- The reference's arithmetic modulo a number below 2^61: Valid, Residue, Add, Mul, power. -/
namespace Go.Proofs.YtpcdfepndmconaaGreatDoor
open Go.RowKit
set_option maxHeartbeats 400000 in
theorem rvalid_any (N:Nat) (w:World) (h1:1≤N) (h2:N < 2305843009213693952) :
  Calls Tryz.prog 157 #[.int .i64 N] w fun e w'=>e=.returned (.bool true)∧w=w':=by
 go_enter Tryz.func157,Tryz.ntmps157
 go_wp2;go_ret;exact ⟨by simp;omega,rfl⟩
set_option maxHeartbeats 800000 in
theorem rresidue_any (N:Nat) (a:Int) (w:World) (h1:1≤N) (h2:N < 2305843009213693952) (ha:Wire.I64 a) :
  Calls Tryz.prog 158 #[.int .i64 N,.int .i64 a] w fun e w'=>e=.returned (.int .i64 ((res N a:Nat):Int))∧w=w':=by
 obtain ⟨a1,a2⟩:=ha;obtain ⟨t1,t2⟩:=tmod_emod a N (by omega);have e0:=res_eq N a h1;have e1:=res_lt N a h1
 have hn0:((N:Int)==0)=false:=by simp;omega
 obtain ⟨r,hr⟩:∃ r,res N a=r:=⟨_,rfl⟩;rw [hr] at e0 e1 ⊢;rw [←e0] at t1 t2;obtain ⟨t,ht⟩:∃ t,a.tmod N=t:=⟨_,rfl⟩;rw [ht] at t1 t2
 by_cases hneg:t < 0
 ·have e2:=t1 hneg
  have hd:decide (t < 0)=true:=by simpa using hneg
  go_enter Tryz.func158,Tryz.ntmps158
  go_wp2;go_ret;exact ⟨rfl,rfl⟩
 ·have e2:=t2 hneg
  have hd:decide (t < 0)=false:=by simpa using hneg
  go_enter Tryz.func158,Tryz.ntmps158
  go_wp2;go_ret;exact ⟨rfl,rfl⟩
set_option maxRecDepth 100000 in
set_option maxHeartbeats 800000 in
theorem radd_any (N:Nat) (a b:Int) (w:World) (h1:1≤N) (h2:N < 2305843009213693952) (ha:Wire.I64 a) (hb:Wire.I64 b) :
  Calls Tryz.prog 140 #[.int .i64 N,.int .i64 a,.int .i64 b] w fun e w'=>e=.returned (.int .i64 ((addN N a b:Nat):Int))∧w=w':=by
 have V:=Lib.hid (rvalid_any N w h1 h2);have HA:=Lib.hid (rresidue_any N a w h1 h2 ha);have HB:=Lib.hid (rresidue_any N b w h1 h2 hb);have l1:=res_lt N a h1;have l2:=res_lt N b h1
 have hz':¬ (N:Int)=0:=by omega
 unfold addN
 obtain ⟨x,hx⟩:∃ x,res N a=x:=⟨_,rfl⟩;obtain ⟨y,hy⟩:∃ y,res N b=y:=⟨_,rfl⟩;rw [hx] at HA l1 ⊢;rw [hy] at HB l2 ⊢;have q4:((x:Int)+(y:Int)) % (N:Int) < N:=Int.emod_lt_of_pos _ (by omega);have q6:0≤((x:Int)+(y:Int)) % (N:Int):=Int.emod_nonneg _ (by omega);clear hx hy
 go_enter Tryz.func140,Tryz.ntmps140
 go_wp2_with (first
  | (go_at_call 157;refine V.out.mono ?_;rintro e w' ⟨rfl,rfl⟩)
  | (go_at_call 158;with_reducible refine HA.out.mono ?_;rintro e w' ⟨rfl,rfl⟩)
  | (go_at_call 158;with_reducible refine HB.out.mono ?_;rintro e w' ⟨rfl,rfl⟩))
 go_ret;exact ⟨rfl,rfl⟩
theorem and_three (d:Nat) (hd:d < 9223372036854775808):bits .and .i64 (d:Int) 3=((d % 4:Nat):Int):=by
 have hx:d &&& 3=d % 4:=Nat.and_two_pow_sub_one_eq_mod d 2
 have h1:BitVec.ofInt 64 (3:Int)=BitVec.ofNat 64 3:=by decide
 have h2:(BitVec.ofInt 64 (d:Int)).toNat=d:=by
  rw [BitVec.ofInt_natCast,BitVec.toNat_ofNat];exact Nat.mod_eq_of_lt (by omega)
 show IntKind.i64.wrap ((BitVec.ofInt 64 (d:Int) &&& BitVec.ofInt 64 (3:Int)).toNat:Int)=_
 rw [BitVec.toNat_and,h1,h2,BitVec.toNat_ofNat,show 3 % 2 ^ 64=3 by decide,hx,IntKind.wrap_i64];omega
/-- two bits more of the second factor -/
theorem mul_digit (N x y i:Nat):(4*(x*(y / 2 ^ (2*i+2)) % N) % N+y / 2 ^ (2*i) % 4*x) % N=x*(y / 2 ^ (2*i)) % N:=by
 have e1:y / 2 ^ (2*i+2)=y / 2 ^ (2*i) / 4:=by rw [Nat.pow_add,←Nat.div_div_eq_div_mul]
 rw [e1]
 generalize y / 2 ^ (2*i)=d
 rw [Nat.add_mod,Nat.mod_mod,Nat.mul_mod_mod,←Nat.add_mod]
 congr 1
 have:=Nat.div_add_mod d 4
 conv=>rhs;rw [←this]
 rw [Nat.mul_add,Nat.mul_left_comm,Nat.mul_comm x (d % 4)]
set_option maxRecDepth 100000 in
set_option maxHeartbeats 1600000 in
theorem rmul_any (N:Nat) (a b:Int) (w:World) (h1:1≤N) (h2:N < 2305843009213693952) (ha:Wire.I64 a) (hb:Wire.I64 b) :
  Calls Tryz.prog 82 #[.int .i64 N,.int .i64 a,.int .i64 b] w fun e w'=>e=.returned (.int .i64 ((mulN N a b:Nat):Int))∧w=w':=by
 have V:=Lib.hid (rvalid_any N w h1 h2);have HA:=Lib.hid (rresidue_any N a w h1 h2 ha);have HB:=Lib.hid (rresidue_any N b w h1 h2 hb);have l1:=res_lt N a h1;have l2:=res_lt N b h1
 have hz':¬ (N:Int)=0:=by omega
 unfold mulN
 obtain ⟨x,hx⟩:∃ x,res N a=x:=⟨_,rfl⟩;obtain ⟨y,hy⟩:∃ y,res N b=y:=⟨_,rfl⟩;rw [hx] at HA l1 ⊢;rw [hy] at HB l2 ⊢;clear hx hy
 by_cases hs:N≤2147483648
 ·have hd:decide ((N:Int)≤2147483648)=true:=by simp;omega
  have q0:x*y≤2147483648*2147483648:=Nat.mul_le_mul (by omega) (by omega);obtain ⟨p,hp⟩:∃ p,x*y=p:=⟨_,rfl⟩
  have hp':(x:Int)*(y:Int)=(p:Int):=by rw [←hp];simp
  rw [hp] at q0 ⊢;have q4:(p:Int) % (N:Int) < N:=Int.emod_lt_of_pos _ (by omega);have q6:0≤(p:Int) % (N:Int):=Int.emod_nonneg _ (by omega);clear hp
  go_enter Tryz.func82,Tryz.ntmps82
  go_wp2_with (first
   | (go_at_call 157;refine V.out.mono ?_;rintro e w' ⟨rfl,rfl⟩)
   | (go_at_call 158;with_reducible refine HA.out.mono ?_;rintro e w' ⟨rfl,rfl⟩)
   | (go_at_call 158;with_reducible refine HB.out.mono ?_;rintro e w' ⟨rfl,rfl⟩))
  go_ret;exact ⟨rfl,rfl⟩
 ·have hd:decide ((N:Int)≤2147483648)=false:=by simp;omega
  go_enter Tryz.func82,Tryz.ntmps82
  go_wp2_with (first
   | (go_at_call 157;refine V.out.mono ?_;rintro e w' ⟨rfl,rfl⟩)
   | (go_at_call 158;with_reducible refine HA.out.mono ?_;rintro e w' ⟨rfl,rfl⟩)
   | (go_at_call 158;with_reducible refine HB.out.mono ?_;rintro e w' ⟨rfl,rfl⟩))
  have e60:y / 2 ^ 62=0:=Nat.div_eq_of_lt (by omega);have E60:=Lib.hid e60;clear e60
  go_loop [9,10] (fun vo vk=>∃ (o:Nat) (k:Int),vo=.int .i64 o∧vk=.int .i64 k∧o < N∧((k=-2∧o=x*y % N)∨∃ K:Nat,K≤60∧(∃ i,K=2*i)∧k=(K:Int)∧o=x*(y / 2 ^ (K+2)) % N)) (fun _ vk=>(intOf vk+2).toNat)
  case atStart=>exact ⟨0,60,rfl,rfl,by omega,Or.inr ⟨60,by omega,⟨30,rfl⟩,rfl,by rw [E60.out,Nat.mul_zero,Nat.zero_mod]⟩⟩
  case round =>
   obtain ⟨o,k,rfl,rfl,ho,hk⟩:=hrel
   rcases hk with ⟨rfl,hk⟩|⟨K,hK,hi,rfl,hk⟩
   ·go_wp2_with fail;go_ret;exact ⟨rfl,rfl⟩
   ·obtain ⟨D,hD⟩:∃ D,y / 2 ^ K=D:=⟨_,rfl⟩
    have hDl:D < 2305843009213693952:=by rw [←hD];exact Nat.lt_of_le_of_lt (Nat.div_le_self _ _) (by omega)
    have iS:(y:Int) / 2 ^ K=(D:Int):=by rw [←hD];simp
    have i3:=and_three D (by omega);have hd4:D % 4 < 4:=Nat.mod_lt _ (by omega);obtain ⟨d,hd'⟩:∃ d,D % 4=d:=⟨_,rfl⟩;obtain ⟨P,hP⟩:∃ P,4*o % N=P:=⟨_,rfl⟩
    have iP:4*(o:Int) % (N:Int)=(P:Int):=by rw [←hP];simp
    have lP:P < N:=by rw [←hP];exact Nat.mod_lt _ (by omega)
    have fin:(P+d*x) % N=x*D % N:=by
     obtain ⟨i,rfl⟩:=hi;have:=mul_digit N x y i;rw [←hk,hP,hD,hd'] at this;exact this
    have FIN:=Lib.hid fin;have HI:=Lib.hid hi;have HD:=Lib.hid hD;rw [hd'] at i3 hd4
    have hgo:decide ((0:Int)≤(K:Int))=true:=by simp
    have P0:Hid (P=(P+0*x) % N):=by show P=_;rw [Nat.zero_mul,Nat.add_zero,Nat.mod_eq_of_lt lP]
    clear hD hd' hP hi hk fin;go_wp2_with fail
    go_loop [9,12] (fun vo vi=>∃ i:Nat,∃ o':Nat,i≤d∧vi=.int .i64 i∧vo=.int .i64 o'∧o'=(P+i*x) % N) (fun _ vi=>d - (intOf vi).toNat)
    case atStart=>exact ⟨0,P,by omega,rfl,rfl,P0.out⟩
    case round =>
     obtain ⟨i,o',hi,rfl,rfl,ho'⟩:=hrel
     have lo':o' < N:=by rw [ho'];exact Nat.mod_lt _ (by omega)
     by_cases hlt:i < d
     ·have hn:(o'+x) % N=(P+(i+1)*x) % N:=by
       rw [ho',Nat.mod_add_mod,Nat.add_assoc,Nat.add_mul,Nat.one_mul]
      obtain ⟨z,hz⟩:∃ z,(o'+x) % N=z:=⟨_,rfl⟩
      have iz:((o':Int)+(x:Int)) % (N:Int)=(z:Int):=by rw [←hz];simp
      have lz:z < N:=by rw [←hz];exact Nat.mod_lt _ (by omega)
      rw [hz] at hn;have HN:=Lib.hid hn;clear hn hz ho';go_wp2_with fail
      go_round
      case rel=>exact ⟨i+1,z,by omega,by go_num,by rw [iz],HN.out⟩
      case measure=>simp [intOf];omega
     ·obtain rfl:i=d:=by omega
      have hn:=FIN.out;rw [←ho'] at hn;have HN:=Lib.hid hn;clear hn ho';go_wp2_with fail
      go_round
      case rel =>
       refine ⟨o',(K:Int) - 2,rfl,rfl,lo',?_⟩;obtain ⟨j,hj⟩:=HI.out
       by_cases hj0:j=0
       ·subst hj0;subst hj;refine Or.inl ⟨by omega,?_⟩;have:=HD.out;rw [HN.out,←this]
        simp
       ·refine Or.inr ⟨K - 2,by omega,⟨j - 1,by omega⟩,by omega,?_⟩;rw [HN.out,show K - 2+2=K by omega,HD.out]
      case measure=>simp [intOf];omega
set_option maxRecDepth 100000 in
set_option maxHeartbeats 1000000 in
theorem rpower_any (N:Nat) (a:Int) (b:Nat) (w:World) (h1:2≤N) (h2:N < 2305843009213693952) (ha:Wire.I64 a) (hb:b < 9223372036854775808) :
  Calls Tryz.prog 171 #[.int .i64 N,.int .i64 a,.int .i64 b] w fun e w'=>e=.returned (.int .i64 ((powN N a b:Nat):Int))∧w=w':=by
 have HA:=Lib.hid (rresidue_any N a w (by omega) h2 ha);have l1:=res_lt N a (by omega)
 unfold powN
 obtain ⟨x0,hx⟩:∃ x,res N a=x:=⟨_,rfl⟩;rw [hx] at HA l1 ⊢;obtain ⟨T,hT⟩:∃ T,x0 ^ b % N=T:=⟨_,rfl⟩;rw [hT]
 have hz':¬ (N:Int)=0:=by omega
 have e1:(1:Int) % (N:Int)=1:=Int.emod_eq_of_lt (by omega) (by omega)
 have h0:1*x0 ^ b % N=T:=by rw [Nat.one_mul];exact hT
 have H0:=Lib.hid h0;clear h0 hT hx
 go_enter Tryz.func171,Tryz.ntmps171
 go_wp2_with (go_at_call 158;with_reducible refine HA.out.mono ?_;rintro e w' ⟨rfl,rfl⟩)
 go_loop [2,7,8] (fun vb vo va=>∃ x y o:Nat,va=.int .i64 x∧vb=.int .i64 y∧vo=.int .i64 o∧x < N∧y < 9223372036854775808∧o < N∧o*x ^ y % N=T) (fun vb _ _=>(intOf vb).toNat)
 case atStart=>exact ⟨x0,b,1,rfl,rfl,rfl,l1,hb,by omega,H0.out⟩
 case round =>
  obtain ⟨x,y,o,rfl,rfl,rfl,hx,hy,ho,hr⟩:=hrel;obtain ⟨s1,s2⟩:=pow_step N o x y
  have resx:res N (x:Int)=x:=by unfold res;rw [Int.emod_eq_of_lt (by omega) (by omega)];omega
  have reso:res N (o:Int)=o:=by unfold res;rw [Int.emod_eq_of_lt (by omega) (by omega)];omega
  have ps:=rmul_any N x x w (by omega) h2 ⟨by omega,by omega⟩ ⟨by omega,by omega⟩;have po:=rmul_any N o x w (by omega) h2 ⟨by omega,by omega⟩ ⟨by omega,by omega⟩
  unfold mulN at ps po
  rw [resx] at ps;rw [resx,reso] at po;have PS:=Lib.hid ps;have PO:=Lib.hid po;have HR:=Lib.hid hr;have S1:=Lib.hid s1;have S2:=Lib.hid s2;have lo:o*x % N < N:=Nat.mod_lt _ (by omega);have lx:x*x % N < N:=Nat.mod_lt _ (by omega);obtain ⟨X,hX⟩:∃ X,x*x % N=X:=⟨_,rfl⟩;obtain ⟨O,hO⟩:∃ O,o*x % N=O:=⟨_,rfl⟩;rw [hX] at PS S1 S2 lx;rw [hO] at PO S1 lo;clear s1 s2 hr hX hO ps po resx reso
  by_cases hy0:y=0
  ·subst hy0
   have hd:decide ((0:Int) < 0)=false:=by decide
   have hT:o=T:=by
    have:=HR.out;rw [Nat.pow_zero,Nat.mul_one,Nat.mod_eq_of_lt ho] at this;exact this
   go_wp2_with fail;go_ret;exact ⟨rfl,rfl⟩
  ·have hd:decide ((0:Int) < (y:Int))=true:=by simp;omega
   rcases Nat.mod_two_eq_zero_or_one y with h2'|h2'
   ·have hand:(y:Int) % 2=0:=by omega
    have hn:=S2.out h2';rw [HR.out] at hn;have HN:=Lib.hid hn;clear hn;go_wp2_with (go_at_call 82;((with_reducible refine PS.out.mono ?_);rintro e w2 ⟨rfl,rfl⟩))
    go_round
    case rel=>exact ⟨X,y / 2,o,rfl,rfl,rfl,lx,by omega,ho,HN.out⟩
    case measure=>simp [intOf];omega
   ·have hand:(y:Int) % 2=1:=by omega
    have hn:=S1.out h2';rw [HR.out] at hn;have HN:=Lib.hid hn;clear hn
    go_wp2_with (first
     | (go_at_call 82;((with_reducible refine PO.out.mono ?_);rintro e w1 ⟨rfl,rfl⟩))
     | (go_at_call 82;((with_reducible refine PS.out.mono ?_);rintro e w2 ⟨rfl,rfl⟩)))
    go_round
    case rel=>exact ⟨X,y / 2,O,rfl,rfl,rfl,lx,by omega,lo,HN.out⟩
    case measure=>simp [intOf];omega
end Go.Proofs.YtpcdfepndmconaaGreatDoor
namespace Go.Proofs.YtpcdfepndmconaaGreatDoor
open Go.RowKit
def vldB (n:Int):Bool:=decide (1≤n)&&decide (n < 2305843009213693952)
theorem vldB_yes {n:Int} (h:vldB n=true):∃ N:Nat,n=N∧1≤N∧N < 2305843009213693952:=by
 unfold vldB at h
 simp at h;exact ⟨n.toNat,by omega,by omega,by omega⟩
def addZ (n a b:Int):Int:=if vldB n=true then ((addN n.toNat a b:Nat):Int) else 0
def subZ (n a b:Int):Int:=if vldB n=true then ((subN n.toNat a b:Nat):Int) else 0
def mulZ (n a b:Int):Int:=if vldB n=true then ((mulN n.toNat a b:Nat):Int) else 0
set_option maxHeartbeats 400000 in
theorem fvalidB_any (n:Int) (w:World):Calls Tryz.prog 154 #[.int .i64 n] w fun e w'=>e=.returned (.bool (vldB n))∧w=w':=by
 unfold vldB
 by_cases h1:1≤n
 ·have d1:decide (1≤n)=true:=by simpa using h1
  go_enter Tryz.func154,Tryz.ntmps154
  go_wp2_with fail;go_ret;exact ⟨by simp [h1],rfl⟩
 ·have d1:decide (1≤n)=false:=by simpa using h1
  go_enter Tryz.func154,Tryz.ntmps154
  go_wp2_with fail;go_ret;exact ⟨by simp,rfl⟩
set_option maxHeartbeats 400000 in
theorem rvalidB_any (n:Int) (w:World):Calls Tryz.prog 157 #[.int .i64 n] w fun e w'=>e=.returned (.bool (vldB n))∧w=w':=by
 unfold vldB
 by_cases h1:1≤n
 ·have d1:decide (1≤n)=true:=by simpa using h1
  go_enter Tryz.func157,Tryz.ntmps157
  go_wp2_with fail;go_ret;exact ⟨by simp [h1],rfl⟩
 ·have d1:decide (1≤n)=false:=by simpa using h1
  go_enter Tryz.func157,Tryz.ntmps157
  go_wp2_with fail;go_ret;exact ⟨by simp,rfl⟩
theorem ltSub (N:Nat) (a b:Int) (h:1≤N):subN N a b < N:=Nat.mod_lt _ (by omega)
theorem addZ_i64 (n a b:Int):Wire.I64 (addZ n a b):=by
 unfold addZ
 split
 ·next h =>
  obtain ⟨N,rfl,h1,h2⟩:=vldB_yes h;rw [Int.toNat_natCast];have:addN N a b < N:=Nat.mod_lt _ (by omega)
  constructor <;> omega
 ·exact ⟨by omega,by omega⟩
theorem subZ_i64 (n a b:Int):Wire.I64 (subZ n a b):=by
 unfold subZ
 split
 ·next h =>
  obtain ⟨N,rfl,h1,h2⟩:=vldB_yes h;rw [Int.toNat_natCast];have:subN N a b < N:=Nat.mod_lt _ (by omega)
  constructor <;> omega
 ·exact ⟨by omega,by omega⟩
theorem mulZ_i64 (n a b:Int):Wire.I64 (mulZ n a b):=by
 unfold mulZ
 split
 ·next h =>
  obtain ⟨N,rfl,h1,h2⟩:=vldB_yes h;rw [Int.toNat_natCast];have:mulN N a b < N:=Nat.mod_lt _ (by omega)
  constructor <;> omega
 ·exact ⟨by omega,by omega⟩
set_option maxRecDepth 100000 in
set_option maxHeartbeats 800000 in
theorem rsub_any (N:Nat) (a b:Int) (w:World) (h1:1≤N) (h2:N < 2305843009213693952) (ha:Wire.I64 a) (hb:Wire.I64 b) :
  Calls Tryz.prog 83 #[.int .i64 N,.int .i64 a,.int .i64 b] w fun e w'=>e=.returned (.int .i64 ((subN N a b:Nat):Int))∧w=w':=by
 have V:=Lib.hid (rvalid_any N w h1 h2);have HA:=Lib.hid (rresidue_any N a w h1 h2 ha);have HB:=Lib.hid (rresidue_any N b w h1 h2 hb);have l1:=res_lt N a h1;have l2:=res_lt N b h1
 have hz':¬ (N:Int)=0:=by omega
 unfold subN
 obtain ⟨x,hx⟩:∃ x,res N a=x:=⟨_,rfl⟩;obtain ⟨y,hy⟩:∃ y,res N b=y:=⟨_,rfl⟩;rw [hx] at HA l1 ⊢;rw [hy] at HB l2 ⊢;have q4:((x:Int)+(N:Int) - (y:Int)) % (N:Int) < N:=Int.emod_lt_of_pos _ (by omega);have q6:0≤((x:Int)+(N:Int) - (y:Int)) % (N:Int):=Int.emod_nonneg _ (by omega);clear hx hy
 go_enter Tryz.func83,Tryz.ntmps83
 go_wp2_with (first
  | (go_at_call 157;refine V.out.mono ?_;rintro e w' ⟨rfl,rfl⟩)
  | (go_at_call 158;with_reducible refine HA.out.mono ?_;rintro e w' ⟨rfl,rfl⟩)
  | (go_at_call 158;with_reducible refine HB.out.mono ?_;rintro e w' ⟨rfl,rfl⟩))
 go_ret;refine ⟨?_,rfl⟩
 have e1:(((x+N - y) % N:Nat):Int)=((x:Int)+(N:Int) - (y:Int)) % (N:Int):=by
  rw [Int.natCast_emod,show ((x+N - y:Nat):Int)=(x:Int)+(N:Int) - (y:Int) by omega]
 rw [e1]
 rfl
section
set_option maxHeartbeats 400000
theorem fsubZ_any (n a b:Int) (w:World) (ha:Wire.I64 a) (hb:Wire.I64 b):Calls Tryz.prog 81 #[.int .i64 n,.int .i64 a,.int .i64 b] w fun e w'=>e=.returned (.int .i64 (subZ n a b))∧Kept [] w w':=by
 unfold subZ
 cases h:vldB n
 ·have V:=Lib.hid (fvalidB_any n w);rw [h] at V;clear h
  go_enter Tryz.func81,Tryz.ntmps81
  go_wp2_with (go_at_call 154;refine V.out.mono ?_;rintro e w' ⟨rfl,rfl⟩);go_ret;exact ⟨rfl,Kept.refl _ _⟩
 ·obtain ⟨N,rfl,h1,h2⟩:=vldB_yes h;exact fsub_any N a b w h1 h2 ha hb
theorem fmulZ_any (n a b:Int) (w:World) (ha:Wire.I64 a) (hb:Wire.I64 b):Calls Tryz.prog 80 #[.int .i64 n,.int .i64 a,.int .i64 b] w fun e w'=>e=.returned (.int .i64 (mulZ n a b))∧Kept [] w w':=by
 unfold mulZ
 cases h:vldB n
 ·have V:=Lib.hid (fvalidB_any n w);rw [h] at V;clear h
  go_enter Tryz.func80,Tryz.ntmps80
  go_wp2_with (go_at_call 154;refine V.out.mono ?_;rintro e w' ⟨rfl,rfl⟩);go_ret;exact ⟨rfl,Kept.refl _ _⟩
 ·obtain ⟨N,rfl,h1,h2⟩:=vldB_yes h;exact fmul_any N a b w h1 h2 ha hb
theorem rsubZ_any (n a b:Int) (w:World) (ha:Wire.I64 a) (hb:Wire.I64 b):Calls Tryz.prog 83 #[.int .i64 n,.int .i64 a,.int .i64 b] w fun e w'=>e=.returned (.int .i64 (subZ n a b))∧w=w':=by
 unfold subZ
 cases h:vldB n
 ·have V:=Lib.hid (rvalidB_any n w);rw [h] at V;clear h
  go_enter Tryz.func83,Tryz.ntmps83
  go_wp2_with (go_at_call 157;refine V.out.mono ?_;rintro e w' ⟨rfl,rfl⟩);go_ret;exact ⟨rfl,rfl⟩
 ·obtain ⟨N,rfl,h1,h2⟩:=vldB_yes h;exact rsub_any N a b w h1 h2 ha hb
theorem rmulZ_any (n a b:Int) (w:World) (ha:Wire.I64 a) (hb:Wire.I64 b):Calls Tryz.prog 82 #[.int .i64 n,.int .i64 a,.int .i64 b] w fun e w'=>e=.returned (.int .i64 (mulZ n a b))∧w=w':=by
 unfold mulZ
 cases h:vldB n
 ·have V:=Lib.hid (rvalidB_any n w);rw [h] at V;clear h
  go_enter Tryz.func82,Tryz.ntmps82
  go_wp2_with (go_at_call 157;refine V.out.mono ?_;rintro e w' ⟨rfl,rfl⟩);go_ret;exact ⟨rfl,rfl⟩
 ·obtain ⟨N,rfl,h1,h2⟩:=vldB_yes h;exact rmul_any N a b w h1 h2 ha hb
end
end Go.Proofs.YtpcdfepndmconaaGreatDoor
