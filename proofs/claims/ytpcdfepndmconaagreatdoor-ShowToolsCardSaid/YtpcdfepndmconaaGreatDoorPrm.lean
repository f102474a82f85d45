/- The primality test of twelve bases as a function of numbers. -/
import Derived.Test.YtpcdfepndmconaaGreatDoorZop
import Derived.Deep.RegionHeld3
import Derived.Test.YtpcdfepndmconaaGreatDoorEnv
import Derived.Lib.TrailingZeros
import Derived.Shelf.Spec.TrailingZeros
/- JOINED: Itp Ivz Ats Env2 Prm -/
/- Interpolation modulo a number, in plain numbers. -/
namespace Itp
def Cg (q a b:Int):Prop:=∃ t,a - b=q*t
theorem Cg.refl (q a:Int):Cg q a a:=⟨0,by grind⟩
theorem Cg.of_eq {q a b:Int} (h:a=b):Cg q a b:=h▸Cg.refl q a
theorem Cg.symm {q a b:Int}:Cg q a b→Cg q b a:=fun ⟨t,h⟩=>⟨-t,by grind⟩
theorem Cg.trans {q a b c:Int}:Cg q a b→Cg q b c→Cg q a c:=fun ⟨t,h⟩ ⟨u,k⟩=>⟨t+u,by grind⟩
theorem Cg.add {q a b c d:Int}:Cg q a b→Cg q c d→Cg q (a+c) (b+d):=fun ⟨t,h⟩ ⟨u,k⟩=>⟨t+u,by grind⟩
theorem Cg.mul {q a b c d:Int}:Cg q a b→Cg q c d→Cg q (a*c) (b*d):=fun ⟨t,h⟩ ⟨u,k⟩=>⟨t*c+b*u,by grind⟩
theorem Cg.mod (q a:Int):Cg q (a % q) a:=⟨-(a / q),by have:=Int.emod_add_mul_ediv a q;grind⟩
theorem Cg.eq_of_lt {q a b:Int} (h:Cg q a b) (ha:0≤a) (ha':a < q) (hb:0≤b) (hb':b < q):a=b:=by
 obtain ⟨t,h⟩:=h
 have h1:a % q=b % q:=by
  rw [show a=b+q*t by omega,Int.add_mul_emod_self_left]
 rwa [Int.emod_eq_of_lt ha ha',Int.emod_eq_of_lt hb hb'] at h1
/-- the value of a polynomial, the lowest coefficient first -/
def ev:List Int→Int→Int
 | [],_=>0
 | c::l,z=>ev l z*z+c
theorem ev_cons (c:Int) (l:List Int) (z:Int):ev (c::l) z=ev l z*z+c:=rfl
theorem synth (x0:Int):∀ c:List Int,∃ c':List Int,c'.length=c.length - 1∧∀ z,ev c z=(z - x0)*ev c' z+ev c x0
 | []=>⟨[],rfl,fun z=>by simp [ev]⟩
 | [a]=>⟨[],rfl,fun z=>by simp [ev]⟩
 | a::b::l=>by
  obtain ⟨l',h1,h2⟩:=synth x0 (b::l);refine ⟨ev (b::l) x0::l',by simp at h1 ⊢;omega,fun z=>?_⟩;have:=h2 z;rw [ev_cons a,ev_cons a,ev_cons (ev (b::l) x0),this]
  grind
/-- invertible modulo q -/
def Unit (q a:Int):Prop:=∃ u,Cg q (u*a) 1
theorem zero_of (q:Int):∀ (xs c:List Int),c.length≤xs.length→xs.Pairwise (fun a b=>Unit q (b - a))→(∀ x∈xs,Cg q (ev c x) 0)→∀ z,Cg q (ev c z) 0
 | [],c,hl,_,_,z=>by
  obtain rfl:c=[]:=List.length_eq_zero_iff.1 (by simpa using hl);exact Cg.refl _ _
 | x0::xs,c,hl,hp,h0,z=>by
  obtain ⟨c',h1,h2⟩:=synth x0 c;rw [List.pairwise_cons] at hp
  have hz:=zero_of q xs c' (by simp at hl;omega) hp.2 (fun x hx=>by
   obtain ⟨u,t,hu⟩:=hp.1 x hx;obtain ⟨r,hr⟩:=h0 x (List.mem_cons_of_mem _ hx);obtain ⟨s,hs⟩:=h0 x0 List.mem_cons_self;have:=h2 x
   exact ⟨u*(r - s) - t*ev c' x,by grind⟩) z
  obtain ⟨r,hr⟩:=hz;obtain ⟨s,hs⟩:=h0 x0 List.mem_cons_self;have:=h2 z;exact ⟨(z - x0)*r+s,by grind⟩
theorem ev_sub:∀ (a b:List Int) (z:Int),a.length=b.length→ev (List.zipWith (· - ·) a b) z=ev a z - ev b z
 | [],[],z,_=>rfl
 | x::a,y::b,z,h=>by
  have:=ev_sub a b z (by simpa using h);simp only [List.zipWith_cons_cons,ev_cons,this]
  grind
/-- one polynomial alone leads through as many points as it has coefficients -/
theorem unique (q:Int) (xs a b:List Int) (ha:a.length=xs.length) (hb:b.length=xs.length) (hp:xs.Pairwise (fun a b=>Unit q (b - a)))
  (h:∀ x∈xs,Cg q (ev a x) (ev b x)) (z:Int):Cg q (ev a z) (ev b z):=by
 have:=zero_of q xs (List.zipWith (· - ·) a b) (by rw [List.length_zipWith];omega) hp (fun x hx=>by
  rw [ev_sub a b x (by omega)];obtain ⟨t,ht⟩:=h x hx
  exact ⟨t,by grind⟩) z
 rw [ev_sub a b z (by omega)] at this;obtain ⟨t,ht⟩:=this;exact ⟨t,by grind⟩
/-! Newton's polynomial by divided differences -/
section newton
variable (q:Int) (x:Nat→Int) (dd:Nat→Nat→Int)
def W (i:Nat):Nat→Int→Int
 | 0,_=>1
 | m+1,z=>W i m z*(z - x (i+m))
def E (i:Nat):Nat→Int→Int
 | 0,_=>dd 0 i
 | m+1,z=>E i m z+dd (m+1) (i+m+1)*W x i (m+1) z
theorem W_shift (i:Nat) (z:Int):∀ m,W x i (m+1) z=(z - x i)*W x (i+1) m z
 | 0=>by simp [W]
 | m+1=>by
  rw [W,W_shift i z m,W,show i+1+m=i+(m+1) by omega]
  grind
theorem W_zero (i j:Nat):∀ m,i≤j→j < i+m→W x i m (x j)=0
 | 0,h1,h2=>by omega
 | m+1,h1,h2=>by
  rw [W]
  by_cases h:j=i+m
  ·subst h;grind
  ·rw [W_zero i j m h1 (by omega)];grind
variable (hd:∀ k i,k+1≤i→Cg q (dd (k+1) i*(x i - x (i - (k+1)))) (dd k i - dd k (i - 1)))
include hd
omit hd
/-- Horner's rule: R is the value of what has been made of the coefficients from i on -/
theorem horner (n:Nat) (R:Nat→Int→Int) (z:Int) (h0:Cg q (R (n+1) z) 0) (h:∀ i,i≤n→Cg q (R i z) (R (i+1) z*(z - x i)+dd i i)):Cg q (R 0 z) (E x dd 0 n z):=by
 have key:∀ m,m≤n→Cg q (R 0 z) (E x dd 0 m z+W x 0 (m+1) z*R (m+1) z):=fun m=>by
  induction m with
  | zero =>
   intro _;obtain ⟨t,ht⟩:=h 0 (by omega);simp only [E,W,Nat.zero_add] at ht ⊢;exact ⟨t,by grind⟩
  | succ m ih =>
   intro hm;obtain ⟨t,ht⟩:=ih (by omega);obtain ⟨u,hu⟩:=h (m+1) hm;simp only [E,W,Nat.zero_add] at ht hu ⊢;exact ⟨t+W x 0 m z*(z - x m)*u,by grind⟩
 obtain ⟨t,ht⟩:=key n (Nat.le_refl _);obtain ⟨u,hu⟩:=h0;exact ⟨t+W x 0 (n+1) z*u,by grind⟩
end newton
/-! a coefficient is set -/
theorem ev_set:∀ (l:List Int) (j:Nat) (v z:Int) (h:j < l.length),ev (l.set j v) z=ev l z+(v - l[j])*z ^ j
 | c::l,0,v,z,_=>by
  rw [List.set_cons_zero,ev_cons,ev_cons,List.getElem_cons_zero,Int.pow_zero]
  grind
 | c::l,j+1,v,z,h=>by
  have:=ev_set l j v z (by simpa using h);rw [List.set_cons_succ,ev_cons,ev_cons,List.getElem_cons_succ,this,Int.pow_succ]
  grind
theorem ev_take:∀ (l:List Int) (n:Nat) (z:Int) (h:n < l.length),ev (l.take (n+1)) z=ev (l.take n) z+l[n]*z ^ n
 | c::l,0,z,_=>by simp [ev]
 | c::l,n+1,z,h=>by
  have:=ev_take l n z (by simpa using h);rw [List.take_succ_cons,List.take_succ_cons,ev_cons,ev_cons,List.getElem_cons_succ,this,Int.pow_succ]
  grind
theorem ev_zeros (z:Int):∀ n,ev (List.replicate n 0) z=0
 | 0=>rfl
 | n+1=>by rw [List.replicate_succ,ev_cons,ev_zeros z n];simp
end Itp
/- The inverse modulo a number: the program's and the reference's. -/
namespace Go.Proofs.YtpcdfepndmconaaGreatDoor
open Go.RowKit
theorem ltMul (N:Nat) (a b:Int) (h:1≤N):mulN N a b < N:=Nat.mod_lt _ (by omega)
theorem ltAdd (N:Nat) (a b:Int) (h:1≤N):addN N a b < N:=Nat.mod_lt _ (by omega)
theorem mod_cg (q:Nat) (a:Int) (h:1≤q):Itp.Cg q ((res q a:Nat):Int) a:=by rw [res_eq q a h];exact Itp.Cg.mod q a
theorem mul_cg (q:Nat) (a b:Int) (h:1≤q):Itp.Cg q ((mulN q a b:Nat):Int) (a*b):=by
 unfold mulN
 rw [Int.natCast_emod,Int.natCast_mul];exact (Itp.Cg.mod _ _).trans ((mod_cg q a h).mul (mod_cg q b h))
theorem add_cg (q:Nat) (a b:Int) (h:1≤q):Itp.Cg q ((addN q a b:Nat):Int) (a+b):=by
 unfold addN
 rw [Int.natCast_emod,Int.natCast_add];exact (Itp.Cg.mod _ _).trans ((mod_cg q a h).add (mod_cg q b h))
theorem sub_cg (q:Nat) (a b:Int) (h:1≤q):Itp.Cg q ((subN q a b:Nat):Int) (a - b):=by
 unfold subN
 have l:=res_lt q b h;rw [Int.natCast_emod,Int.natCast_sub (by omega),Int.natCast_add];obtain ⟨t,ht⟩:=mod_cg q a h;obtain ⟨u,hu⟩:=mod_cg q b h;exact (Itp.Cg.mod _ _).trans ⟨t - u+1,by grind⟩
/-- what stands between two rounds -/
structure InvS (q:Nat) (a:Int) (r s x y:Nat):Prop where
 hr:r≤q
 hs:s < q
 hx:x < q
 hy:y < q
 cx:Itp.Cg q (x*a) r
 cy:Itp.Cg q (y*a) s
 g:Nat.gcd r s=1
theorem InvS.start (q:Nat) (a:Int) (h2:2≤q) (hg:Nat.gcd q (res q a)=1):InvS q a q (res q a) 0 1 :=
 ⟨Nat.le_refl _,res_lt q a (by omega),by omega,by omega,⟨-1,by grind⟩,by have:=(mod_cg q a (by omega)).symm;simpa using this,hg⟩
theorem InvS.next {q:Nat} {a:Int} {r s x y:Nat} (h:InvS q a r s x y) (h2:2≤q) (h0:s≠0) :
  InvS q a s (r % s) y (subN q (x:Int) ((mulN q ((r / s:Nat):Int) (y:Int):Nat):Int)):=by
 have hl:r % s < s:=Nat.mod_lt _ (by omega);refine ⟨by have:=h.hs;omega,by have:=h.hs;omega,h.hy,ltSub _ _ _ (by omega),h.cy,?_,?_⟩
 ·obtain ⟨t,ht⟩:=sub_cg q (x:Int) ((mulN q ((r / s:Nat):Int) (y:Int):Nat):Int) (by omega);obtain ⟨u,hu⟩:=mul_cg q ((r / s:Nat):Int) (y:Int) (by omega);obtain ⟨v,hv⟩:=h.cx;obtain ⟨z,hz⟩:=h.cy
  have hd:(r:Int)=((r / s:Nat):Int)*s+((r % s:Nat):Int):=by
   have:=Nat.div_add_mod r s;rw [←Int.natCast_mul,←Int.natCast_add,Nat.mul_comm];exact congrArg Nat.cast this.symm
  generalize ((r / s:Nat):Int)=k at *
  generalize ((r % s:Nat):Int)=m at *
  generalize ((mulN q k (y:Int):Nat):Int)=p at *
  generalize ((subN q (x:Int) p:Nat):Int)=n at *
  exact ⟨t*a - u*a+v - k*z,by grind⟩
 ·rw [←h.g,Nat.gcd_comm r s,Nat.gcd_rec s r,Nat.gcd_comm]
theorem InvS.done {q:Nat} {a:Int} {r x y:Nat} (h:InvS q a r 0 x y):r=1∧Itp.Cg q (x*a) 1:=by
 have hr:r=1:=by have:=h.g;rwa [Nat.gcd_zero_right] at this
 exact ⟨hr,by have:=h.cx;rwa [hr] at this⟩
/-- the inverse of a, and that there is one -/
def InvP (q:Nat) (a:Int) (w:World) (e:Ending) (w':World):Prop:=(∃ u:Nat,e=.returned (.tuple #[.int .i64 (u:Int),.bool true])∧u < q∧Itp.Cg q (u*a) 1)∧Kept [] w w'
theorem tdiv_nat (r s:Nat):(r:Int).tdiv (s:Int)=((r / s:Nat):Int):=by
 rw [Int.tdiv_eq_ediv_of_nonneg (by omega)];rfl
theorem tmod_nat {x q:Nat} (h:x < q):(x:Int).tmod (q:Int)=(x:Int):=by
 rw [Int.tmod_eq_emod_of_nonneg (by omega),Int.emod_eq_of_lt (by omega) (by omega)]
set_option maxRecDepth 100000 in
set_option maxHeartbeats 800000 in
theorem finv_any (q:Nat) (a:Int) (w:World) (h2:2≤q) (h3:q < 2305843009213693952) (ha:Wire.I64 a) (hg:Nat.gcd q (res q a)=1) :
  Calls Tryz.prog 169 #[.int .i64 q,.int .i64 a] w (InvP q a w):=by
 have V:=Lib.hid (fvalid_any q w (by omega) h3);have R:=Lib.hid (residue_any q a w (by omega) h3 ha);have H0:=Lib.hid (InvS.start q a h2 hg);have l0:=res_lt q a (by omega);obtain ⟨A,hA⟩:∃ A,res q a=A:=⟨_,rfl⟩;rw [hA] at R H0 l0
 have hz':¬ (q:Int)=0:=by omega
 clear hA hg
 go_enter Tryz.func169,Tryz.ntmps169
 go_wp2_with (first
  | (go_at_call 154;refine V.out.mono ?_;rintro e w' ⟨rfl,rfl⟩)
  | (go_at_call 156;with_reducible refine R.out.mono ?_;rintro e w' ⟨rfl,rfl⟩))
 go_loopw [6,7,8,9] (fun vr vs vx vy wr=>∃ r s x y:Nat,vr=.int .i64 r∧vs=.int .i64 s∧vx=.int .i64 x∧vy=.int .i64 y∧InvS q a r s x y∧Kept [] w wr) (fun _ vs _ _ _=>(intOf vs).toNat)
 case atStart=>exact ⟨q,A,0,1,rfl,rfl,rfl,rfl,H0.out,Kept.refl _ _⟩
 case round =>
  obtain ⟨r,s,x,y,rfl,rfl,rfl,rfl,hI,hkr⟩:=hrel
  by_cases h0:s=0
  ·subst h0;obtain ⟨rfl,hc⟩:=hI.done;have hx:=hI.hx;have ht:=tmod_nat hx;have HC:=Lib.hid hc;clear hI hc;go_wp2_with fail
   go_ret2
   exact ⟨⟨x,rfl,hx,HC.out⟩,hkr⟩
  ·have hs:=hI.hs;have hr:=hI.hr;have hx:=hI.hx;have hy:=hI.hy;have HN:=Lib.hid (hI.next h2 h0)
   have hs0:¬ (s:Int)=0:=by omega
   have hd:=tdiv_nat r s;have hk:r / s≤r:=Nat.div_le_self _ _
   have hm:((r / s:Nat):Int)*(s:Int)=((r / s*s:Nat):Int):=by rw [Int.natCast_mul]
   have hdm:r / s*s+r % s=r:=Nat.div_add_mod' r s;obtain ⟨k,hk'⟩:∃ k,r / s=k:=⟨_,rfl⟩;obtain ⟨m,hm'⟩:∃ m,r % s=m:=⟨_,rfl⟩;rw [hk'] at HN hd hk hm hdm;rw [hm'] at HN hdm;obtain ⟨p,hp⟩:∃ p,k*s=p:=⟨_,rfl⟩;rw [hp] at hm hdm
   have hb:(r:Int) - (p:Int)=(m:Int):=by omega
   have HM:Hid (∀ w',Calls Tryz.prog 80 #[.int .i64 q,.int .i64 k,.int .i64 y] w' fun e w2=>e=.returned (.int .i64 ((mulN q (k:Int) (y:Int):Nat):Int))∧Kept [] w' w2):=fun w'=>fmul_any q k y w' (by omega) h3 ⟨by omega,by omega⟩ ⟨by omega,by omega⟩;have lm:=ltMul q (k:Int) (y:Int) (by omega);obtain ⟨M,hM⟩:∃ M,mulN q (k:Int) (y:Int)=M:=⟨_,rfl⟩;rw [hM] at HM HN lm;have HS:Hid (∀ w',Calls Tryz.prog 81 #[.int .i64 q,.int .i64 x,.int .i64 M] w' fun e w2=>e=.returned (.int .i64 ((subN q (x:Int) (M:Int):Nat):Int))∧Kept [] w' w2):=fun w'=>fsub_any q x M w' (by omega) h3 ⟨by omega,by omega⟩ ⟨by omega,by omega⟩;obtain ⟨S,hS⟩:∃ S,subN q (x:Int) (M:Int)=S:=⟨_,rfl⟩;rw [hS] at HS HN
   have hlt:m < s:=by rw [←hm'];exact Nat.mod_lt _ (by omega)
   clear hI hk' hm' hp hM hS hdm;go_wp2_with (go_at_call 80;refine (HM.out _).mono ?_);rintro e w2 ⟨rfl,k2⟩;go_wp2_with (go_at_call 81;refine (HS.out _).mono ?_);rintro e w3 ⟨rfl,k3⟩;go_wp2_with fail
   go_roundw
   case rel=>exact ⟨s,m,y,S,rfl,by go_num,rfl,rfl,HN.out,hkr.trans (k2.trans k3)⟩
   case measure=>simp [intOf];omega
set_option maxRecDepth 100000 in
set_option maxHeartbeats 800000 in
theorem rinv_any (q:Nat) (a:Int) (w:World) (h2:2≤q) (h3:q < 2305843009213693952) (ha:Wire.I64 a) (hg:Nat.gcd q (res q a)=1) :
  Calls Tryz.prog 204 #[.int .i64 q,.int .i64 a] w (InvP q a w):=by
 have V:=Lib.hid (rvalid_any q w (by omega) h3);have R:=Lib.hid (rresidue_any q a w (by omega) h3 ha);have H0:=Lib.hid (InvS.start q a h2 hg);have l0:=res_lt q a (by omega);obtain ⟨A,hA⟩:∃ A,res q a=A:=⟨_,rfl⟩;rw [hA] at R H0 l0
 have hz':¬ (q:Int)=0:=by omega
 have hm1:(1:Int).tmod (q:Int)=1:=tmod_nat (x:=1) (by omega);clear hA hg
 go_enter Tryz.func204,Tryz.ntmps204
 go_wp2_with (first
  | (go_at_call 157;refine V.out.mono ?_;rintro e w' ⟨rfl,rfl⟩)
  | (go_at_call 158;with_reducible refine R.out.mono ?_;rintro e w' ⟨rfl,rfl⟩))
 go_loopw [6,7,8,9,10,11,12] (fun vr vs vx vy _ _ _ wr=>∃ r s x y:Nat,vr=.int .i64 r∧vs=.int .i64 s∧vx=.int .i64 x∧vy=.int .i64 y∧InvS q a r s x y∧Kept [] w wr) (fun _ vs _ _ _ _ _ _=>(intOf vs).toNat)
 case atStart=>exact ⟨q,A,0,1,rfl,rfl,rfl,rfl,H0.out,Kept.refl _ _⟩
 case round =>
  obtain ⟨r,s,x,y,rfl,rfl,rfl,rfl,hI,hkr⟩:=hrel
  by_cases h0:s=0
  ·subst h0;obtain ⟨rfl,hc⟩:=hI.done;have hx:=hI.hx;have ht:=tmod_nat hx;have HC:=Lib.hid hc;clear hI hc;go_wp2_with fail
   go_ret2
   exact ⟨⟨x,rfl,hx,HC.out⟩,hkr⟩
  ·have hs:=hI.hs;have hr:=hI.hr;have hx:=hI.hx;have hy:=hI.hy;have HN:=Lib.hid (hI.next h2 h0)
   have hs0:¬ (s:Int)=0:=by omega
   have hd:=tdiv_nat r s;have hk:r / s≤r:=Nat.div_le_self _ _
   have hm:((r / s:Nat):Int)*(s:Int)=((r / s*s:Nat):Int):=by rw [Int.natCast_mul]
   have hdm:r / s*s+r % s=r:=Nat.div_add_mod' r s;obtain ⟨k,hk'⟩:∃ k,r / s=k:=⟨_,rfl⟩;obtain ⟨m,hm'⟩:∃ m,r % s=m:=⟨_,rfl⟩;rw [hk'] at HN hd hk hm hdm;rw [hm'] at HN hdm;obtain ⟨p,hp⟩:∃ p,k*s=p:=⟨_,rfl⟩;rw [hp] at hm hdm
   have hb:(r:Int) - (p:Int)=(m:Int):=by omega
   have HM:Hid (∀ w',Calls Tryz.prog 82 #[.int .i64 q,.int .i64 k,.int .i64 y] w' fun e w2=>e=.returned (.int .i64 ((mulN q (k:Int) (y:Int):Nat):Int))∧w'=w2):=fun w'=>rmul_any q k y w' (by omega) h3 ⟨by omega,by omega⟩ ⟨by omega,by omega⟩;have lm:=ltMul q (k:Int) (y:Int) (by omega);obtain ⟨M,hM⟩:∃ M,mulN q (k:Int) (y:Int)=M:=⟨_,rfl⟩;rw [hM] at HM HN lm;have HS:Hid (∀ w',Calls Tryz.prog 83 #[.int .i64 q,.int .i64 x,.int .i64 M] w' fun e w2=>e=.returned (.int .i64 ((subN q (x:Int) (M:Int):Nat):Int))∧w'=w2):=fun w'=>rsub_any q x M w' (by omega) h3 ⟨by omega,by omega⟩ ⟨by omega,by omega⟩;obtain ⟨S,hS⟩:∃ S,subN q (x:Int) (M:Int)=S:=⟨_,rfl⟩;rw [hS] at HS HN
   have hlt:m < s:=by rw [←hm'];exact Nat.mod_lt _ (by omega)
   clear hI hk' hm' hp hM hS hdm
   go_wp2_with (first
    | (go_at_call 82;refine (HM.out _).mono ?_;rintro e w2 ⟨rfl,rfl⟩)
    | (go_at_call 83;refine (HS.out _).mono ?_;rintro e w3 ⟨rfl,rfl⟩))
   go_roundw
   case rel=>exact ⟨s,m,y,S,rfl,by go_num,rfl,rfl,HN.out,hkr⟩
   case measure=>simp [intOf];omega
end Go.Proofs.YtpcdfepndmconaaGreatDoor
/- The value of a polynomial: the reference's; what it is modulo the number. -/
namespace Go.Proofs.YtpcdfepndmconaaGreatDoor
open Go.RowKit
def atZ (N:Nat) (x:Int) (l:List Int):Nat:=l.foldr (fun c o=>addN N ((mulN N (o:Int) x:Nat):Int) c) 0
theorem atZ_cons (N:Nat) (x c:Int) (l:List Int):atZ N x (c::l)=addN N ((mulN N ((atZ N x l:Nat):Int) x:Nat):Int) c:=rfl
theorem atZ_lt (N:Nat) (x:Int) (h:1≤N):∀ l,atZ N x l < N
 | []=>h
 | _::_=>ltAdd _ _ _ h
theorem atZ_cg (N:Nat) (x:Int) (h:1≤N):∀ l,Itp.Cg N ((atZ N x l:Nat):Int) (Itp.ev l x)
 | []=>Itp.Cg.refl _ _
 | c::l=>by
  rw [atZ_cons,Itp.ev_cons];exact (add_cg N _ c h).trans (((mul_cg N _ x h).trans ((atZ_cg N x h l).mul (Itp.Cg.refl _ x))).add (Itp.Cg.refl _ c))
theorem atZ_of (N:Nat) (x:Int) (h:1≤N) {l m:List Int} (hc:Itp.Cg N (Itp.ev l x) (Itp.ev m x)):atZ N x l=atZ N x m:=by
 have h1:=atZ_lt N x h l;have h2:=atZ_lt N x h m;have:=Itp.Cg.eq_of_lt ((atZ_cg N x h l).trans (hc.trans (atZ_cg N x h m).symm)) (by omega) (by omega) (by omega) (by omega);omega
set_option maxRecDepth 100000 in
set_option maxHeartbeats 1000000 in
theorem rat_any (N:Nat) (x:Int) (l:List Int) (v:Value) (w:World) (h1:1≤N) (h2:N < 2305843009213693952) (hx:Wire.I64 x) (hv:Row w 1 v l.length (ints l)) (hi:∀ x∈l,Wire.I64 x) :
  Calls Tryz.prog 93 #[.int .i64 N,v,.int .i64 x] w fun e w'=>e=.returned (.int .i64 ((atZ N x l:Nat):Int))∧Kept [] w w':=by
 obtain ⟨va,vc,rfl,hl,_⟩:=hv.form;have HV:=Lib.hid hv;have HI:=Lib.hid hi;obtain ⟨T,hT⟩:∃ T,atZ N x l=T:=⟨_,rfl⟩;have HT:Hid (atZ N x l=T):=hT;rw [hT];clear hv hi hT
 go_enter Tryz.func93,Tryz.ntmps93
 go_wp2_with fail
 go_loopw [7,8] (fun vo vi wr=>∃ (m u:Nat),m≤l.length∧vi=.int .i64 ((m:Int) - 1)∧vo=.int .i64 u∧u=atZ N x (l.drop m)∧Kept [] w wr) (fun _ vi _=>(intOf vi+1).toNat)
 case atStart=>exact ⟨l.length,0,Nat.le_refl _,rfl,rfl,by rw [List.drop_length];rfl,Kept.refl _ _⟩
 case round =>
  obtain ⟨m,u,hm,rfl,rfl,hu,hkr⟩:=hrel;have hul:u < N:=hu▸atZ_lt N x h1 _
  rcases m with _|k
  ·have hfin:u=T:=by rw [hu,List.drop_zero];exact HT.out
   subst hfin;clear hu;go_wp2_with fail;go_ret;exact ⟨rfl,hkr⟩
  ·have hlt:k < l.length:=by omega
   obtain ⟨ba,oa,rfl,hca⟩:=(HV.out.kept hkr).at_ (by omega);have xa:∀ w',Kept [] wr w'→w'.cell? ⟨ba,oa+k,none⟩=some (.int .i64 l[k]):=Kept.cellOf (hca k _ (ints_get hlt));have ix:=HI.out l[k] (List.getElem_mem hlt);have hd:l.drop k=l[k]::l.drop (k+1):=List.drop_eq_getElem_cons hlt
   have HN:Hid (addN N ((mulN N (u:Int) x:Nat):Int) l[k]=atZ N x (l.drop k)):=by
    show _=_
    rw [hd,atZ_cons,←hu]
   obtain ⟨c,hc⟩:∃ c,l[k]=c:=⟨_,rfl⟩;rw [hc] at xa ix HN;have HM:Hid (∀ w',Calls Tryz.prog 82 #[.int .i64 N,.int .i64 u,.int .i64 x] w' fun e w2=>e=.returned (.int .i64 ((mulN N (u:Int) x:Nat):Int))∧w'=w2):=fun w'=>rmul_any N u x w' h1 h2 ⟨by omega,by omega⟩ hx;have lm:=ltMul N (u:Int) x h1;obtain ⟨M,hM⟩:∃ M,mulN N (u:Int) x=M:=⟨_,rfl⟩;rw [hM] at HM HN lm;have HA:Hid (∀ w',Calls Tryz.prog 140 #[.int .i64 N,.int .i64 M,.int .i64 c] w' fun e w2=>e=.returned (.int .i64 ((addN N (M:Int) c:Nat):Int))∧w'=w2):=fun w'=>radd_any N M c w' h1 h2 ⟨by omega,by omega⟩ ix;obtain ⟨A,hA⟩:∃ A,addN N (M:Int) c=A:=⟨_,rfl⟩;rw [hA] at HA HN
   have hk1:((k+1:Nat):Int) - 1=(k:Int):=by omega
   rw [hk1];clear hca hd hc hM hA hu;go_upto_region 5 with (fail)
   go_region_held3 (fun w'=>Kept [] wr w') (first|assumption|exact (Kept.refl _ _).drew|exact Kept.alloc (by assumption) _)
    (first
     | (go_at_call 82;with_reducible refine (kept_from (W:=wr) (by assumption) ((HM.out _).mono fun _ _ h=>⟨h.1,h.2▸Kept.refl _ _⟩)).mono ?_;rintro e w2 ⟨rfl,hk2⟩)
     | (go_at_call 140;with_reducible refine (kept_from (W:=wr) (by assumption) ((HA.out _).mono fun _ _ h=>⟨h.1,h.2▸Kept.refl _ _⟩)).mono ?_;rintro e w3 ⟨rfl,hk3⟩)
     | fail)
   clear xa;go_wp2
   go_roundw
   case rel=>exact ⟨k,A,by omega,by go_num,rfl,HN.out,hkr.trans hk3⟩
   case measure=>simp [intOf]
end Go.Proofs.YtpcdfepndmconaaGreatDoor
/- The table of trailing zeros, as every contract that needs it takes it. -/
namespace Go.Proofs.YtpcdfepndmconaaGreatDoor
open Go.RowKit
def db64L:List Int:=Lib.deBruijn64tab.map Int.ofNat
theorem g_db64 : Tryz.prog.globalNamed "math/bits.deBruijn64tab" = some 6 := by kernel_rfl
structure Env2 (w:World):Prop extends Env w where
 tab : Lib.TabIs Tryz.prog w "math/bits.deBruijn64tab" .u8 db64L
theorem Env2.kept0 {w w':World} (hE:Env2 w) (h:Kept [] w w'):Env2 w':=⟨hE.toEnv.kept0 h,var_kept g_db64 h (by simp) hE.tab⟩
theorem Env2.alloc {w:World} (hE:Env2 w) (o:Obj):Env2 (w.alloc o):=hE.kept0 ((Kept.refl _ _).alloc o)
theorem tab_cell {w:World} (hE:Env2 w) (i:Nat) (hi:i < 64):w.cell? ⟨6,i,none⟩=some (.int .u8 ((Lib.deBruijn64tab.getD i 0:Nat):Int)):=by
 have hl:db64L.length=64:=by decide
 have h:=Lib.TabIs.cell hE.tab g_db64 i (by omega);rw [h]
 congr 2
 unfold db64L
 rw [List.getD_eq_getElem?_getD,List.getD_eq_getElem?_getD,List.getElem?_map]
 cases Lib.deBruijn64tab[i]? <;> rfl
set_option maxRecDepth 100000 in
set_option maxHeartbeats 1000000 in
theorem tz64_any (x:Nat) (w:World) (h0:x≠0) (hx:x < 18446744073709551616) (hE:Env2 w) :
  Calls Tryz.prog 233 #[.int .u64 x] w fun e w'=>e=.returned (.int .i64 ((Lib.ctz 64 x:Nat):Int))∧w=w':=by
 obtain ⟨hlow,hk⟩:=Lib.lowest_bit 64 x h0 hx;obtain ⟨hi,htab⟩:=Lib.deBruijn64_at _ hk;have hcell:=tab_cell hE _ hi;rw [htab] at hcell;have key:=tz64_key x _ hx h0 hlow
 have hx0:((x:Int)==0)=false:=by simp;omega
 obtain ⟨k,hk'⟩:∃ k,Lib.ctz 64 x=k:=⟨_,rfl⟩;rw [hk'] at hcell key hi hk ⊢;obtain ⟨idx,hidx⟩:∃ i,2 ^ k*285870213051353865 % 18446744073709551616 / 288230376151711744=i:=⟨_,rfl⟩;rw [hidx] at hcell key hi;clear hidx htab hlow hk'
 go_enter Tryz.func233,Tryz.ntmps233
 go_wp2_with (simp only [key]);go_ret;exact ⟨rfl,rfl⟩
end Go.Proofs.YtpcdfepndmconaaGreatDoor
namespace Go.Prm
open Go.Lib
theorem ctz_of:∀ (f k j:Nat),k < f→ctzFrom f (2 ^ k*(2*j+1))=k
 | 0,_,_,h=>by omega
 | f+1,0,j,_=>by unfold ctzFrom;rw [if_pos (by omega)]
 | f+1,k+1,j,h=>by
  unfold ctzFrom
  have e:2 ^ (k+1)*(2*j+1)=2*(2 ^ k*(2*j+1)):=by rw [Nat.pow_succ,Nat.mul_comm (2 ^ k) 2,Nat.mul_assoc]
  rw [e,if_neg (by omega),Nat.mul_div_cancel_left _ (by omega),ctz_of f k j (by omega)];omega
/-- what the reference's loop finds is what the library counts -/
theorem ctz_eq {m d k:Nat} (hm:0 < m) (h64:m < 2 ^ 64) (h:m=d*2 ^ k) (hd:d % 2=1):ctz 64 m=k∧m / 2 ^ ctz 64 m=d:=by
 have hk:k < 64:=by
  rcases Nat.lt_or_ge k 64 with h1|h1
  ·exact h1
  ·have h2:2 ^ 64≤2 ^ k:=Nat.pow_le_pow_right (by omega) h1;have h3:2 ^ k≤d*2 ^ k:=Nat.le_mul_of_pos_left _ (by omega);omega
 have e:ctz 64 m=k:=by
  unfold ctz
  rw [if_neg (by omega),h,show d=2*(d / 2)+1 by omega,Nat.mul_comm];exact ctz_of 64 k (d / 2) hk
 exact ⟨e,by rw [e,h,Nat.mul_div_cancel _ (Nat.two_pow_pos k)]⟩
def small:List Nat:=[2,3,5,7,11,13,17,19,23,29,31,37]
def goes (n x:Nat):Nat→Bool
 | 0=>false
 | k+1=>x==n - 1 || goes n (x*x % n) k
/-- a base accepts the number -/
def passes (n b:Nat):Bool :=
 b ^ ((n - 1) / 2 ^ ctz 64 (n - 1)) % n==1 || goes n (b ^ ((n - 1) / 2 ^ ctz 64 (n - 1)) % n) (ctz 64 (n - 1))
def at_ (j:Nat):Nat:=small.getD j 0
def hits (n j:Nat):Bool:=n % at_ j==0
def primeN (n:Nat):Bool :=
 match (List.range 12).find? (hits n) with
 | some j=>n==at_ j
 | none=>(List.range 12).all fun j=>passes n (at_ j)
theorem at_lt {j:Nat} (h:j < 12):2≤at_ j∧at_ j≤37:=by
 have:∀ j < 12,2≤at_ j∧at_ j≤37:=by decide
 exact this j h
theorem find_range {p:Nat→Bool}:∀ (n k:Nat),k < n→(∀ j,j < k→p j=false)→p k=true→(List.range n).find? p=some k:=by
 intro n k hk h1 h2;rw [List.find?_range_eq_some];exact ⟨h2,List.mem_range.2 hk,fun j hj=>by simp [h1 j hj]⟩
theorem primeN_hit {n k:Nat} (hk:k < 12) (h1:∀ j,j < k→hits n j=false) (h2:hits n k=true):primeN n=(n==at_ k):=by
 unfold primeN
 rw [find_range 12 k hk h1 h2]
theorem primeN_none {n:Nat} (h1:∀ j,j < 12→hits n j=false):primeN n=(List.range 12).all fun j=>passes n (at_ j):=by
 unfold primeN
 rw [show (List.range 12).find? (hits n)=none from List.find?_eq_none.2 fun j hj=>by simp [h1 j (List.mem_range.1 hj)]]
theorem primeN_bad {n k:Nat} (h1:∀ j,j < 12→hits n j=false) (hk:k < 12) (h:passes n (at_ k)=false):primeN n=false:=by
 rw [primeN_none h1,List.all_eq_false];exact ⟨k,List.mem_range.2 hk,by simp [h]⟩
theorem primeN_all {n:Nat} (h1:∀ j,j < 12→hits n j=false) (h:∀ j,j < 12→passes n (at_ j)=true):primeN n=true:=by
 rw [primeN_none h1,List.all_eq_true];exact fun j hj=>h j (List.mem_range.1 hj)
theorem no_hits {n:Nat} (h1:∀ j,j < 12→hits n j=false) (h2:2≤n):37 < n:=by
 have h:n≤37→False:=by
  intro hn
  have key:∀ n,n≤37→2≤n→∃ j,j < 12∧hits n j=true:=by decide
  obtain ⟨j,hj,hh⟩:=key n hn h2;rw [h1 j hj] at hh
  cases hh
 exact Nat.lt_of_not_le h
end Go.Prm
