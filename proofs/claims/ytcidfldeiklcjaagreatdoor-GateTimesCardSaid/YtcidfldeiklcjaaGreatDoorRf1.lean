import Derived.Test.YtcidfldeiklcjaaGreatDoorEnv2
set_option maxRecDepth 100000
set_option maxHeartbeats 32000000
namespace Go.Prm
open Go.Lib
theorem xt:∀(f k j:Nat),k < f->ctzFrom f (2 ^ k*(2*j+1))=k
 |0,_,_,h=>by omega
 |f+1,0,j,_=>by unfold ctzFrom;rw[if_pos (by omega)]
 |f+1,k+1,j,h=>by
  unfold ctzFrom
  have e:2 ^ (k+1)*(2*j+1)=2*(2 ^ k*(2*j+1)):=by rw[Nat.pow_succ,Nat.mul_comm (2 ^ k) 2,Nat.mul_assoc]
  rw[e,if_neg (by omega),Nat.mul_div_cancel_left _ (by omega),xt f k j (by omega)];omega
theorem ctz_eq{m d k:Nat}(hm:0 < m)(h64:m < 2 ^ 64)(h:m=d*2 ^ k)(hd:d % 2=1):ctz 64 m=k/\m / 2 ^ ctz 64 m=d:=by
 have hk:k < 64:=by
  rcases Nat.lt_or_ge k 64 with h1|h1
  ·exact h1
  ·have h2:2 ^ 64<=2 ^ k:=Nat.pow_le_pow_right (by omega) h1;have h3:2 ^ k<=d*2 ^ k:=Nat.le_mul_of_pos_left _ (by omega);omega
 have e:ctz 64 m=k:=by
  unfold ctz
  rw[if_neg (by omega),h,show d=2*(d / 2)+1 by omega,Nat.mul_comm];exact xt 64 k (d / 2) hk
 exact⟨e,by rw[e,h,Nat.mul_div_cancel _ (Nat.two_pow_pos k)]⟩
def small:List Nat:=[2,3,5,7,11,13,17,19,23,29,31,37]
def goes(n x:Nat):Nat->Bool
 |0=>false
 |k+1=>x==n - 1 ||goes n (x*x % n) k
def passes(n b:Nat):Bool :=
 b ^ ((n - 1) / 2 ^ ctz 64 (n - 1)) % n==1 ||goes n (b ^ ((n - 1) / 2 ^ ctz 64 (n - 1)) % n) (ctz 64 (n - 1))
def at_(j:Nat):Nat:=small.getD j 0
def hits(n j:Nat):Bool:=n % at_ j==0
def jn(n:Nat):Bool :=
 match (List.range 12).find? (hits n)with
 |some j=>n==at_ j
 |none=>(List.range 12).all fun j=>passes n (at_ j)
theorem at_lt{j:Nat}(h:j < 12):2<=at_ j/\at_ j<=37:=by
 have:∀j < 12,2<=at_ j/\at_ j<=37:=by decide
 exact this j h
theorem rO{p:Nat->Bool}:∀(n k:Nat),k < n->(∀j,j < k->p j=false)->p k=true->(List.range n).find? p=some k:=by
 intro n k hk h1 h2;rw[List.find?_range_eq_some];exact⟨h2,List.mem_range.2 hk,fun j hj=>by simp[h1 j hj]⟩
theorem zC{n k:Nat}(hk:k < 12)(h1:∀j,j < k->hits n j=false)(h2:hits n k=true):jn n=(n==at_ k):=by
 unfold jn
 rw[rO 12 k hk h1 h2]
theorem jH{n:Nat}(h1:∀j,j < 12->hits n j=false):jn n=(List.range 12).all fun j=>passes n (at_ j):=by
 unfold jn
 rw[show(List.range 12).find? (hits n)=none from List.find?_eq_none.2 fun j hj=>by simp[h1 j (List.mem_range.1 hj)]]
theorem zD{n k:Nat}(h1:∀j,j < 12->hits n j=false)(hk:k < 12)(h:passes n (at_ k)=false):jn n=false:=by
 rw[jH h1,List.all_eq_false];exact⟨k,List.mem_range.2 hk,by simp[h]⟩
theorem zE{n:Nat}(h1:∀j,j < 12->hits n j=false)(h:∀j,j < 12->passes n (at_ j)=true):jn n=true:=by
 rw[jH h1,List.all_eq_true];exact fun j hj=>h j (List.mem_range.1 hj)
theorem no_hits{n:Nat}(h1:∀j,j < 12->hits n j=false)(h2:2<=n):37 < n:=by
 have h:n<=37->False:=by
  intro hn
  have key:∀n,n<=37->2<=n->∃j,j < 12/\hits n j=true:=by decide
  obtain⟨j,hj,hh⟩:=key n hn h2;rw[h1 j hj]at hh
  cases hh
 exact Nat.lt_of_not_le h
end Go.Prm
namespace Go.Proofs.YtcidfldeiklcjaaGreatDoor
open Go.RowKit
open Go.Proofs.Tryz
open Lib(hid)
theorem qo{n x k:Nat}(h:x=n - 1):Prm.goes n x (k+1)=true:=by simp[Prm.goes,h]
theorem ny{n x k:Nat}(h:x≠n - 1):Prm.goes n x (k+1)=Prm.goes n (x*x % n) k:=by simp[Prm.goes,h]
theorem oZ(N b:Nat)(w:World)(h1:2<=N)(h2:N < 2305843009213693952)(hb:b < N)(hE:Env2 w) :
  Calls prog 186 #[N,.int .u64 b] w fun e w'=>e=.returned (.bool (!Prm.passes N b))/\Kept [] w w':=by
 obtain⟨m,rfl⟩:∃m,N=m+1:=⟨N - 1,by omega⟩;have o:=hid (uP m w (by omega) (by omega) hE)
 unfold Prm.passes
 rw[Nat.add_sub_cancel];have d:=(Lib.lowest_bit 64 m (by omega) (by omega)).2
 generalize hK:Lib.ctz 64 m=K at o d ⊢
 obtain⟨D,f⟩:=nm (m / 2 ^ K)
 have I:(m:Int) / 2 ^ K=(D:Int):=by rw[<-f];simp
 have v:D < 18446744073709551616:=by rw[<-f];exact Nat.lt_of_le_of_lt (Nat.div_le_self _ _) (by omega)
 rw[f];have g:=hid (fQ (m+1) b D w h1 h2 hb v);have r:b ^ D % (m+1) < m+1:=Nat.mod_lt _ (by omega)
 generalize h:b ^ D % (m+1)=x0 at g r ⊢
 obtain⟨G,n⟩:=nm (Prm.goes (m+1) x0 K);rw[n];have E:=hid n;rw[Int.natCast_add,Int.natCast_one]at g ⊢
 have t:m < 9223372036854775808:=by omega
 clear hK f h n
 by_cases h11:x0=1
 ·subst h11
  go_enter func186,ntmps186
  go_wp2_with (first
   |(go_at_call 216;refine o.mono ?_;rintro e w' ⟨rfl,rfl⟩)
   |(go_at_call 140;refine g.mono ?_;rintro e u ⟨rfl,l⟩))
  go_ret;exact⟨by simp,l⟩
 ·have B:((x0:Int)==1)=false:=by simp;omega
  go_enter func186,ntmps186
  go_wp2_with (first
   |(go_at_call 216;refine o.mono ?_;rintro e w' ⟨rfl,rfl⟩)
   |(go_at_call 140;refine g.mono ?_;rintro e u ⟨rfl,l⟩))
  go_loopw [6,22] (fun vx vi wr=>∃i x:Nat,i<=K/\vi=i/\vx=.int .u64 x/\x < m+1/\Prm.goes (m+1) x (K - i)=G/\Kept [] w wr) (fun _ vi _=>K - (intOf vi).toNat)
  case atStart=>exact⟨0,x0,by omega,rfl,rfl,r,E.out,l⟩
  case round =>
   obtain⟨i,x,J,rfl,rfl,s,a,c⟩:=hrel
   by_cases hlt:i < K
   ·obtain⟨j,A⟩:∃j,K - i=j+1:=⟨K - i - 1,by omega⟩;rw[A]at a
    by_cases he:x=m
    ·subst he;rw[qo (by omega)]at a;subst a;go_wp2_with fail;go_ret;exact⟨by simp,c⟩
    ·have hd:((x:Int)==(m:Int))=false:=by simp;omega
     rw[ny (by omega)]at a;have p:=hid (ee (m+1) x x wr (by omega) h2 s s);have q:x*x % (m+1) < m+1:=Nat.mod_lt _ (by omega)
     generalize y:x*x % (m+1)=z at p q a
     rw[Int.natCast_add,Int.natCast_one]at p;have C:=hid a;clear a y;go_wp2_with (go_at_call 142;refine p.mono ?_;rintro e F ⟨rfl,k⟩)
     go_roundw
     case rel=>exact⟨i+1,z,by omega,by go_num,rfl,q,by rw[show K - (i+1)=j by omega];exact C.out,c.trans k⟩
     case measure=>simp[intOf];omega
   ·obtain rfl:i=K:=by omega
    rw[Nat.sub_self]at a;have hr':false=G:=a;subst hr';go_wp2_with fail;go_ret;refine⟨?_,c⟩
    have:(x0==1)=false:=by simp;omega
    rw[this]
    rfl
theorem eP(a b:Nat):((a:Int)==(b:Int))=(a==b):=by
 rw[Bool.eq_iff_iff,beq_iff_eq,beq_iff_eq,Int.natCast_inj]
def kU:Array Value:=#[.int .i64 2,.int .i64 3,.int .i64 5,.int .i64 7,.int .i64 11,.int .i64 13,.int .i64 17,.int .i64 19,.int .i64 23,.int .i64 29,.int .i64 31,.int .i64 37]
theorem ixs(k:Nat)(hk:k < 12)(w:World):(Instr.index 223 (.agg #[.int .i64 2,.int .i64 3,.int .i64 5,.int .i64 7,.int .i64 11,.int .i64 13,.int .i64 17,.int .i64 19,.int .i64 23,.int .i64 29,.int .i64 31,.int .i64 37]) k).run prog w=.ok (.int .i64 (Prm.at_ k)) w:=by
 rcases(by omega:k=0\/k=1\/k=2\/k=3\/k=4\/k=5\/k=6\/k=7\/k=8\/k=9\/k=10\/k=11)with rfl|rfl|rfl|rfl|rfl|rfl|rfl|rfl|rfl|rfl|rfl|rfl <;> kernel_rfl
theorem mW(N:Nat)(w:World)(h1:2<=N)(h2:N < 2305843009213693952)(hE:Env2 w) :
  Calls prog 145 #[N] w fun e w'=>e=.returned (.bool (Prm.jn N))/\Kept [] w w':=by
 have s:Env2 (w.alloc (.cells kU 223)):=hE.alloc _;obtain⟨B,a⟩:=nm (Prm.jn N);rw[a];have u:=hid a;clear a
 go_enter func145,ntmps145
 go_wp2_with fail
 go_loop [5,16] (fun _ i=>∃k:Nat,k<=12/\i=k/\∀j,j < k->Prm.hits N j=false) (fun _ i=>12 - (intOf i).toNat)
 case atStart=>exact⟨0,by omega,rfl,fun j hj=>by omega⟩
 case round =>
  obtain⟨k,D,rfl,l⟩:=hrel;have m:=hid l;clear l
  by_cases hlt:k < 12
  ·have r:=ixs k hlt;obtain⟨q,o⟩:=Prm.at_lt hlt;have hits:Prm.hits N k=decide (N % Prm.at_ k=0):=rfl;obtain⟨p,f⟩:=nm (Prm.at_ k);have F:=hid f;rw[f]at r q o hits
   have C:¬(p:Int)=0:=by omega
   clear f
   by_cases hh:N % p=0
   ·have hd:((N:Int) % (p:Int)==0)=true:=by simp;omega
    have a:=u.out;rw[Prm.zC hlt m.out (by rw[hits];simpa using hh),F.out]at a;have b:=hid a;clear a hits;go_wp2_with fail;go_ret;exact⟨by rw[<-b.out,<-eP];rfl,kr.alloc _⟩
   ·have hd:((N:Int) % (p:Int)==0)=false:=by simp;omega
    have g:Prm.hits N k=false:=by rw[hits];simpa using hh
    have G:=hid g;clear g hits;go_wp2_with fail
    go_round
    case rel=>exact⟨k+1,by omega,by go_num,fun j hj=>by
     rcases Nat.lt_or_ge j k with h|h
     ·exact m j h
     ·obtain rfl:j=k:=by omega
      exact G⟩
    case measure=>simp[intOf];omega
  ·obtain rfl:k=12:=by omega
   have E:=Prm.no_hits m h1;go_wp2_with fail
   go_loopw [7,28] (fun _ i wr=>∃k:Nat,k<=12/\i=k/\(∀j,j < k->Prm.passes N (Prm.at_ j)=true)/\Kept [] (w.alloc (.cells kU 223)) wr) (fun _ i _=>12 - (intOf i).toNat)
   case atStart=>exact⟨0,by omega,rfl,fun j hj=>by omega,kr⟩
   case round =>
    obtain⟨k,D,rfl,l,c⟩:=hrel;have v:=hid l;clear l
    by_cases hlt:k < 12
    ·have r:=ixs k hlt;obtain⟨q,o⟩:=Prm.at_lt hlt;have W:=hid (oZ N (Prm.at_ k) wr h1 h2 (by omega) (s.kept0 c));have y:=hid (fun h=>Prm.zD (n:=N) (k:=k) m hlt h)
     have x:Hid (Prm.passes N (Prm.at_ k)=true->∀j,j < k+1->Prm.passes N (Prm.at_ j)=true):=fun h j hj=>by
      rcases Nat.lt_or_ge j k with h'|h'
      ·exact v j h'
      ·obtain rfl:j=k:=by omega
       exact h
     generalize A:Prm.passes N (Prm.at_ k)=t at W y x
     generalize f:Prm.at_ k=p at r q o W
     clear f A
     cases t
     ·have a:=u.out;rw[y.out rfl]at a;have b:=hid a;clear a;go_wp2_with (go_at_call 186;refine W.out.mono ?_;rintro e z ⟨rfl,d⟩);go_ret;exact⟨by rw[<-b.out];rfl,(kr.alloc _).trans (c.trans d)⟩
     ·go_wp2_with (go_at_call 186;refine W.out.mono ?_;rintro e z ⟨rfl,d⟩)
      go_roundw
      case rel=>exact⟨k+1,by omega,by go_num,x.out (by first|trivial|rfl),c.trans d⟩
      case measure=>simp[intOf];omega
    ·obtain rfl:k=12:=by omega
     have a:=u.out;rw[Prm.zE m.out v.out]at a;have b:=hid a;clear a;go_wp2_with fail;go_ret;exact⟨by rw[<-b.out];rfl,(kr.alloc _).trans c⟩
structure GrpOk (P Q G:Int) (q:Nat):Prop where
 hQ:Q=q
 h5:5<=q
 hq:q < 1152921504606846976
 hP:P=((2*q+1:Nat):Int)
 hG:2<=G
 hGP:G < P
def cH(q:Nat)(G:Int):Bool:=Prm.jn q&&(Prm.jn (2*q+1)&&powN (2*q+1) G q==1)
def aR(P Q G:Int):Bool:=decide (5<=Q)&&(decide (Q < 1152921504606846976)&&(decide (P=2*Q+1)&&(decide (2<=G)&&(decide (G < P)&&cH Q.toNat G))))
theorem GrpOk.eq{P Q G:Int}{q:Nat}(h:GrpOk P Q G q):aR P Q G=cH q G:=by
 obtain⟨h1,h2,h3,h4,h5,h6⟩:=h;subst h1
 unfold aR
 rw[decide_eq_true (show(5:Int)<=(q:Int)by omega),decide_eq_true (show(q:Int) < 1152921504606846976 by omega),decide_eq_true (show P=2*(q:Int)+1 by omega),decide_eq_true h5,decide_eq_true h6]
 simp
theorem fY{P Q G:Int}(h:aR P Q G=true):∃q,GrpOk P Q G q/\cH q G=true:=by
 unfold aR at h
 simp only[Bool.and_eq_true,decide_eq_true_eq]at h;obtain⟨h1,h2,h3,h4,h5,h6⟩:=h;exact⟨Q.toNat,⟨by omega,by omega,by omega,by omega,h4,h5⟩,h6⟩
abbrev grpV(P Q G:Int):Array Value:=#[P,Q,G]
theorem fl(P Q G:Int)(w:World)(hP:Wire.I64 P)(hQ:Wire.I64 Q)(hG:Wire.I64 G)(hE:Env2 w) :
  Calls prog 94 #[.agg (grpV P Q G)] w fun e w'=>e=.returned (.bool (aR P Q G))/\Kept [] w w':=by
 obtain⟨Y,X⟩:=hP;obtain⟨V,U⟩:=hQ;obtain⟨G1,Z⟩:=hG;obtain⟨W,o⟩:=nm (w.alloc (.cells (grpV P Q G) 23));have l:=bn o;have d:=ka (S:=[]) o;have m:Env2 W:=hE.kept0 d;obtain⟨z,y,x⟩:=bH3 l rfl;have t:=z W kr;have s:=y W kr;have p:=x W kr;have i:=hid o;clear o l
 by_cases c1:Q < 5
 ·have r:aR P Q G=false:=by unfold aR;rw[decide_eq_false (by omega)];rfl
  rw[r];have O:decide (Q < 5)=true:=decide_eq_true c1
  go_enter func94,ntmps94
  go_wp2_with fail;rw[i.out];go_wp2_with fail;go_ret;exact⟨rfl,d⟩
 have O:decide (Q < 5)=false:=decide_eq_false c1
 by_cases c2:1152921504606846976<=Q
 ·have r:aR P Q G=false:=by unfold aR;rw[decide_eq_false (show ¬Q < 1152921504606846976 by omega)];simp
  rw[r];have N:decide (1152921504606846976<=Q)=true:=decide_eq_true c2
  go_enter func94,ntmps94
  go_wp2_with fail;rw[i.out];go_wp2_with fail;go_ret;exact⟨rfl,d⟩
 have N:decide (1152921504606846976<=Q)=false:=decide_eq_false c2
 by_cases c3:P=2*Q+1
 case neg =>
  have r:aR P Q G=false:=by unfold aR;rw[decide_eq_false c3];simp
  rw[r]
  have M:(P != 2*Q+1)=true:=by simpa using c3
  go_enter func94,ntmps94
  go_wp2_with fail;rw[i.out];go_wp2_with fail;go_ret;exact⟨rfl,d⟩
 have M:(P != 2*Q+1)=false:=by simpa using c3
 by_cases c4:G < 2
 ·have r:aR P Q G=false:=by unfold aR;rw[decide_eq_false (show ¬2<=G by omega)];simp
  rw[r];have L:decide (G < 2)=true:=decide_eq_true c4;have F:=hid c3;clear c3
  go_enter func94,ntmps94
  go_wp2_with fail;rw[i.out];go_wp2_with fail;go_ret;exact⟨rfl,d⟩
 have L:decide (G < 2)=false:=decide_eq_false c4
 by_cases c5:P<=G
 ·have r:aR P Q G=false:=by unfold aR;rw[decide_eq_false (show ¬G < P by omega)];simp
  rw[r];have J:decide (P<=G)=true:=decide_eq_true c5;have F:=hid c3;clear c3
  go_enter func94,ntmps94
  go_wp2_with fail;rw[i.out];go_wp2_with fail;go_ret;exact⟨rfl,d⟩
 have J:decide (P<=G)=false:=decide_eq_false c5;obtain⟨q,A⟩:∃q:Nat,Q=q:=⟨Q.toNat,by omega⟩;have f:GrpOk P Q G q:=⟨A,by omega,by omega,by omega,by omega,by omega⟩;rw[f.eq]
 unfold cH
 have v:=hid fun(w':World) (k:Kept [] W w')=>mW q w' (by omega) (by omega) (m.kept0 k)
 have E:Hid (∀w',Kept [] W w'->Calls prog 145 #[P] w' fun e w''=>e=.returned (.bool (Prm.jn (2*q+1)))/\Kept [] w' w''):=fun w' k=>by
  rw[f.hP];exact mW (2*q+1) w' (by omega) (by omega) (m.kept0 k)
 have D:Hid (∀w',Calls prog 146 #[P,G,q] w' fun e w''=>e=.returned (.int .i64 ((powN (2*q+1) G q:Nat):Int))/\Kept [] w' w''):=fun w'=>by
  rw[f.hP];exact qp (2*q+1) G q w' (by omega) (by omega) ⟨by omega,by omega⟩ (by omega)
 obtain⟨a,C⟩:=nm (Prm.jn q);obtain⟨b,l⟩:=nm (Prm.jn (2*q+1));obtain⟨c,B⟩:=nm (powN (2*q+1) G q);rw[C]at v ⊢;rw[l]at E ⊢;rw[B]at D ⊢;have F:=hid c3;have R:=hid f;subst A;clear c3 f C l B;have u:((c:Int)==1)=(c==1):=eP c 1
 cases a
 ·go_enter func94,ntmps94
  go_wp2_with fail;rw[i.out];go_wp2_with (go_at_call 145;with_reducible refine(v.out W kr).mono ?_);rintro e j ⟨rfl,h⟩;go_wp2_with fail;go_ret;exact⟨rfl,d.trans h⟩
 ·go_enter func94,ntmps94
  go_wp2_with fail;rw[i.out];go_wp2_with (go_at_call 145;with_reducible refine(v.out W kr).mono ?_);rintro e j ⟨rfl,h⟩;clear t s p;have t:=z j h;have s:=y j h;have p:=x j h;go_wp2_with (go_at_call 145;with_reducible refine(E.out j h).mono ?_);rintro e n ⟨rfl,g⟩;replace g:=h.trans g;clear t s p;have t:=z n g;have s:=y n g;have p:=x n g
  cases b
  ·go_wp2_with fail;go_ret;exact⟨rfl,d.trans g⟩
  ·go_wp2_with (go_at_call 146;with_reducible refine(D.out n).mono ?_);rintro e T ⟨rfl,I⟩;go_wp2_with fail;go_ret;exact⟨by rw[<-u];simp,d.trans (g.trans I)⟩
def memB(q:Nat)(x:Int):Bool:=decide (1<=x)&&(decide (x < ((2*q+1:Nat):Int))&&powN (2*q+1) x q==1)
theorem fE(P Q G x:Int)(q:Nat)(w:World)(hok:GrpOk P Q G q)(hg:cH q G=true)(hx:Wire.I64 x)(hE:Env2 w) :
  Calls prog 96 #[.agg (grpV P Q G),x] w fun e w'=>e=.returned (.bool (memB q x))/\Kept [] w w':=by
 have A:Wire.I64 P:=by rw[hok.hP];have:=hok.hq;exact⟨by omega,by omega⟩
 have z:Wire.I64 Q:=by rw[hok.hQ];have:=hok.hq;exact⟨by omega,by omega⟩
 have B:Wire.I64 G:=by have:=hok.hG;have:=hok.hGP;have:=hok.hq;have:=hok.hP;exact⟨by omega,by omega⟩
 obtain⟨N,M⟩:=hx;have u:=hok.hq;have v:=hok.h5;have b:=hok.hP;obtain⟨W,d⟩:=nm (w.alloc (.cells (grpV P Q G) 23));have l:=bn d;have a:=ka (S:=[]) d;have j:Env2 W:=hE.kept0 a;obtain⟨s,p,I⟩:=bH3 l rfl;have n:=s W kr;have m:=p W kr;have C:=I W kr;have k:=hid d;have g:=fl P Q G W A z B j;rw[hok.eq,hg]at g;have F:=hid g
 have o:Hid (∀w',Calls prog 146 #[P,x,Q] w' fun e w''=>e=.returned (.int .i64 ((powN (2*q+1) x q:Nat):Int))/\Kept [] w' w''):=fun w'=>by
  rw[hok.hP,hok.hQ];exact qp (2*q+1) x q w' (by omega) (by omega) ⟨by omega,by omega⟩ (by omega)
 have J:=hid b;clear d l g
 by_cases c1:1<=x
 case neg =>
  have r:memB q x=false:=by unfold memB;rw[decide_eq_false c1];rfl
  rw[r];have E:decide (1<=x)=false:=decide_eq_false c1;clear b
  go_enter func96,ntmps96
  go_wp2_with fail;rw[k.out];go_wp2_with fail;go_ret;exact⟨rfl,a⟩
 have E:decide (1<=x)=true:=decide_eq_true c1
 by_cases c2:x < P
 case neg =>
  have r:memB q x=false:=by unfold memB;rw[decide_eq_false (show ¬x < ((2*q+1:Nat):Int)by omega)];simp
  rw[r];have D:decide (x < P)=false:=decide_eq_false c2;clear b
  go_enter func96,ntmps96
  go_wp2_with fail;rw[k.out];go_wp2_with fail;go_ret;exact⟨rfl,a⟩
 have D:decide (x < P)=true:=decide_eq_true c2
 have r:memB q x=(powN (2*q+1) x q==1):=by unfold memB;rw[decide_eq_true c1,decide_eq_true (show x < ((2*q+1:Nat):Int)by omega)];simp
 rw[r]
 generalize y:powN (2*q+1) x q=c at o ⊢
 have i:((c:Int)==1)=(c==1):=eP c 1;clear b y r
 go_enter func96,ntmps96
 go_wp2_with fail;rw[k.out];go_wp2_with (go_at_call 94;with_reducible refine F.out.mono ?_);rintro e f ⟨rfl,h⟩;clear n m C;have n:=s f h;have m:=p f h;go_wp2_with (go_at_call 146;with_reducible refine(o.out f).mono ?_);rintro e L ⟨rfl,t⟩;go_wp2_with fail;go_ret;exact⟨by rw[<-i];simp,a.trans (h.trans t)⟩
theorem sW(p:Nat)(h:p < 9223372036854775808):IntKind.i64.wrap (p:Int)=p:=by
 rw[IntKind.wrap_i64];omega
def pwrN(q:Nat)(x k:Int):Nat:=res (2*q+1) x ^ res q k % (2*q+1)
theorem eF(P Q G x k:Int)(q:Nat)(w:World)(hok:GrpOk P Q G q)(hx:Wire.I64 x)(hk:Wire.I64 k) :
  Calls prog 88 #[.agg (grpV P Q G),x,k] w fun e w'=>e=.returned (.int .i64 ((pwrN q x k:Nat):Int))/\Kept [] w w':=by
 have v:=hok.hq;have y:=hok.h5;have a:=hok.hP;have j:=hok.hQ;obtain⟨p,m⟩:=nm (2*q+1)
 unfold pwrN
 rw[m]at a ⊢
 have A:2<=p:=by omega
 have z:p < 2305843009213693952:=by omega
 subst a j;obtain⟨W,b⟩:=nm (w.alloc (.cells (grpV p q G) 23));have B:=bn b;have d:=ka (S:=[]) b;obtain⟨u,t⟩:=bk2 B rfl;have D:=u W kr;have C:=t W kr;have L:=hid b;have F:=hid (bI p W (by omega) (by omega));have E:=hid (bI q W (by omega) (by omega));have l:=bw p x (by omega);have s:=bw q k (by omega);obtain⟨X,i⟩:=nm (res p x);obtain⟨K,hK⟩:=nm (res q k)
 have J:Hid (∀w,Calls prog 141 #[p,x] w fun e w'=>e=.returned (.int .u64 ((X:Nat):Int))/\w=w'):=fun w=>by
  have:=br p x w (by omega) (by omega) hx
  rwa [i]at this
 have I:Hid (∀w,Calls prog 141 #[q,k] w fun e w'=>e=.returned (.int .u64 ((K:Nat):Int))/\w=w'):=fun w=>by
  have:=br q k w (by omega) (by omega) hk
  rwa [hK]at this
 rw[i]at l ⊢;rw[hK]at s ⊢;have o:X ^ K % p < p:=Nat.mod_lt _ (by omega);obtain⟨r,c⟩:=nm (X ^ K % p)
 have M:Hid (∀w,Calls prog 140 #[p,.int .u64 X,.int .u64 K] w fun e w'=>e=.returned (.int .u64 ((r:Nat):Int))/\Kept [] w w'):=fun w=>by
  have:=fQ p X K w (by omega) (by omega) l (by omega)
  rwa [c]at this
 rw[c]at o ⊢;clear b i hK c m hok
 go_enter func88,ntmps88
 go_wp2_with fail;rw[L.out]
 go_wp2_with (first
  |(go_at_call 91;((with_reducible refine F.out.mono ?_);rintro e w' ⟨rfl,rfl⟩))
  |(go_at_call 91;((with_reducible refine E.out.mono ?_);rintro e w' ⟨rfl,rfl⟩)))
 clear D C
 go_region_held3 (fun w'=>Kept [] W w') (first|assumption|exact kr.drew|exact Kept.alloc (by assumption) _)
  (first
   |(go_at_call 141;with_reducible refine(ai (W:=W) (by assumption) ((J.out _).mono fun _ _ h=>⟨h.1,h.2▸kr⟩)).mono ?_;rintro e n ⟨rfl,g⟩)
   |(go_at_call 141;with_reducible refine(ai (W:=W) (by assumption) ((I.out _).mono fun _ _ h=>⟨h.1,h.2▸kr⟩)).mono ?_;rintro e n ⟨rfl,g⟩)
   |(go_at_call 140;with_reducible refine(ai (W:=W) (by assumption) (M.out _)).mono ?_;rintro e N ⟨rfl,f⟩))
 go_wp2;go_ret;exact⟨by show Ending.returned (Value.int .i64 (IntKind.i64.wrap (r:Int)))=_;rw[sW r (by omega)],d.trans f⟩
structure Stp where
 P:Int
 Q:Int
 G:Int
 bases:List Int
 blind:Int
abbrev stpA(s:Stp)(v:Value):Array Value:=#[s.P,s.Q,s.G,v,s.blind]
structure StpV (w:World) (v:Value) (s:Stp):Prop where
 form:∃a c,v=.agg (stpA s (.slice a s.bases.length c))/\Row w 1 (.slice a s.bases.length c) s.bases.length (ints s.bases)
 ip:Wire.I64 s.P
 iq:Wire.I64 s.Q
 ig:Wire.I64 s.G
 ib:∀x∈s.bases,Wire.I64 x
 il:Wire.I64 s.blind
theorem StpV.kept{w w':World}{v:Value}{s:Stp}(h:StpV w v s)(k:Kept [] w w'):StpV w' v s:=by
 obtain⟨⟨a,c,h1,h2⟩,h3,h4,h5,h6,h7⟩:=h;exact⟨⟨a,c,h1,h2.kept k⟩,h3,h4,h5,h6,h7⟩
def othB(q:Nat)(x:Int):Bool:=!(x==1)&&memB q x
def aw(s:Stp):Bool:=aR s.P s.Q s.G&&(decide (2<=s.bases.length)&&(decide (s.bases.length<=7)&&(s.bases.all (othB s.Q.toNat)&&othB s.Q.toNat s.blind)))
theorem yL(x:Int)(b:Nat)(v:Value)(s:Stp)(q:Nat)(w:World)(hb:Blk w b 26 (stpA s v))(hok:GrpOk s.P s.Q s.G q)(hg:cH q s.G=true)(hx:Wire.I64 x)(hE:Env2 w) :
  Calls prog 95 #[x,.pointer (some ⟨b,0,none⟩)] w fun e w'=>e=.returned (.bool (othB q x))/\Kept [] w w':=by
 obtain⟨j,i,h⟩:=bc3 hb rfl;have a:=hid (fE s.P s.Q s.G x q w hok hg hx hE)
 unfold othB
 clear hb hok
 by_cases h1:x=1
 ·subst h1
  go_enter func95,ntmps95
  go_wp2_with fail;go_ret;exact⟨rfl,kr⟩
 ·have d:(x != 1)=true:=by simpa using h1
  have hne':(x==1)=false:=by simpa using h1
  rw[hne']
  generalize c:memB q x=t at a ⊢
  clear c hne'
  go_enter func95,ntmps95
  go_wp2_with (go_at_call 96;refine a.mono ?_;rintro e g ⟨rfl,f⟩);go_ret;exact⟨rfl,f⟩
theorem dU{p:Int->Bool}{l:List Int}{k:Nat}(h:k < l.length)(hp:p l[k]=false):l.all p=false:=by
 rw[List.all_eq_false];exact⟨l[k],List.getElem_mem h,by simp[hp]⟩
theorem oT{p:Int->Bool}{l:List Int}(h:∀j (hj:j < l.length),p l[j]=true):l.all p=true:=by
 rw[List.all_eq_true];intro x hx;obtain⟨j,hj,rfl⟩:=List.mem_iff_getElem.1 hx;exact h j hj
theorem bY(v:Value)(s:Stp)(w:World)(h:StpV w v s)(hE:Env2 w):Calls prog 58 #[v] w fun e w'=>e=.returned (.bool (aw s))/\Kept [] w w':=by
 obtain⟨⟨a,c,rfl,m⟩,ip,iq,ig,M,il⟩:=h;obtain⟨P,Q,G,b,d⟩:=s
 simp only at ip iq ig M il m ⊢
 have A:=m.form;obtain⟨_,_,_,a1,_⟩:=A;obtain⟨W,J⟩:=nm (w.alloc (.cells #[P,Q,G,.slice a b.length c,d] 26));have T:=bn J;have l:=ka (S:=[]) J;have C:Env2 W:=hE.kept0 l;have HR:=hid (m.kept l);have HB:=hid T;obtain⟨K0,K1,K2,Z,K4⟩:=bH5 T rfl;have Y:=K0 W kr;have X:=K1 W kr;have V:=K2 W kr;have L:=hid J;have a0:∀(fn:Fn) (first cap:Array Value) (w:World),(Instr.makeFunc fn first cap).run prog w=.ok (.func fn first cap) w:=fun _ _ _ _=>rfl;have D:=hid (fl P Q G W ip iq ig C);have IB:=hid M;obtain⟨g,O⟩:=nm (aR P Q G)
 unfold aw
 simp only
 rw[O]at D ⊢;have HG:=hid O;clear T J m M O
 cases g
 ·rw[Bool.false_and]
  go_enter func58,ntmps58
  go_wp2_with fail;rw[L.out];go_wp2_with (go_at_call 94;with_reducible refine D.out.mono ?_);rintro e y ⟨rfl,o⟩;go_wp2_with fail;go_ret;exact⟨rfl,l.trans o⟩
 rw[Bool.true_and]
 by_cases c1:b.length < 2
 ·rw[decide_eq_false (show ¬2<=b.length by omega),Bool.false_and]
  have d1:decide ((b.length:Int) < 2)=true:=by simp;omega
  go_enter func58,ntmps58
  go_wp2_with fail;rw[L.out];go_wp2_with (go_at_call 94;with_reducible refine D.out.mono ?_);rintro e y ⟨rfl,o⟩;clear Y X V;have U:=Z y o;go_wp2_with fail;go_ret;exact⟨rfl,l.trans o⟩
 have d1:decide ((b.length:Int) < 2)=false:=by simp;omega
 rw[decide_eq_true (show 2<=b.length by omega),Bool.true_and]
 by_cases c2:7 < b.length
 ·rw[decide_eq_false (show ¬b.length<=7 by omega),Bool.false_and]
  have d2:decide ((7:Int) < (b.length:Int))=true:=by simp;omega
  go_enter func58,ntmps58
  go_wp2_with fail;rw[L.out];go_wp2_with (go_at_call 94;with_reducible refine D.out.mono ?_);rintro e y ⟨rfl,o⟩;clear Y X V;have U:=Z y o;go_wp2_with fail;go_ret;exact⟨rfl,l.trans o⟩
 have d2:decide ((7:Int) < (b.length:Int))=false:=by simp;omega
 rw[decide_eq_true (show b.length<=7 by omega),Bool.true_and];obtain⟨q,r,N⟩:=fY HG
 have z:Q.toNat=q:=by have:=r.hQ;omega
 rw[z]
 have CL:Hid (∀w' x,Kept [] W w'->Wire.I64 x->Calls prog 95 #[x,.pointer (some ⟨w.heap.size,0,none⟩)] w' fun e I=>e=.returned (.bool (othB q x))/\Kept [] w' I) :=
  fun w' x k hx=>yL x _ _ ⟨P,Q,G,b,d⟩ q w' (HB.out.kept k (by simp)) r N hx (C.kept0 k)
 obtain⟨R,p⟩:=nm ((b.all (othB q)&&othB q d));rw[p];have E:=hid p;clear p r z
 go_enter func58,ntmps58
 go_wp2_with fail;rw[L.out];go_wp2_with (go_at_call 94;with_reducible refine D.out.mono ?_);rintro e y ⟨rfl,o⟩;clear Y X V;have U:=Z y o;go_wp2_with fail;clear U
 go_loopw [5,26] (fun _ i wr=>∃k:Nat,k<=b.length/\i=k/\(∀j (hj:j < b.length),j < k->othB q b[j]=true)/\Kept [] W wr) (fun _ i _=>b.length - (intOf i).toNat)
 case atStart=>exact⟨0,Nat.zero_le _,rfl,fun j _ hj=>by omega,o⟩
 case round =>
  obtain⟨k,hk,rfl,hm,f⟩:=hrel;have HM:=hid hm;clear hm
  by_cases hlt:k < b.length
  ·obtain⟨ba,oa,rfl,B⟩:=(HR.out.kept f).at_ (by omega);have xa:=B k _ (aL hlt);have F:=hid (CL wr b[k] f (IB _ (List.getElem_mem hlt)))
   generalize ht:othB q b[k]=t at F
   have HT:=hid ht;clear B ht
   cases t
   ·have p:=E.out;rw[dU hlt HT.out,Bool.false_and]at p;subst p;go_wp2_with (go_at_call 95;refine F.mono ?_;rintro e I ⟨rfl,n⟩);go_ret;exact⟨rfl,l.trans (f.trans n)⟩
   ·go_wp2_with (go_at_call 95;refine F.mono ?_;rintro e I ⟨rfl,n⟩)
    go_roundw
    case rel=>exact⟨k+1,by omega,by go_num,fun j hj hjk=>by
     rcases Nat.lt_or_ge j k with h|h
     ·exact HM j hj h
     ·obtain rfl:j=k:=by omega
      exact HT,f.trans n⟩
    case measure=>simp[intOf];omega
  ·obtain rfl:k=b.length:=by omega
   have e4:=K4 wr f;have p:=E.out;rw[oT (fun j hj=>HM.out j hj hj),Bool.true_and]at p;have u:=CL wr d f il;rw[p]at u;have F:=hid u;clear p u;go_wp2_with (go_at_call 95;refine F.mono ?_;rintro e I ⟨rfl,n⟩);go_ret;exact⟨rfl,l.trans (f.trans n)⟩
theorem bP(N:Nat)(w:World)(h1:1<=N)(h2:N < 2305843009213693952) :
  Calls prog 188 #[N] w fun e w'=>e=.returned true/\w=w':=by
 go_enter func188,ntmps188
 go_wp2;go_ret;exact⟨by simp;omega,rfl⟩
theorem bi(N:Nat)(a:Int)(w:World)(h1:1<=N)(h2:N < 2305843009213693952)(ha:Wire.I64 a) :
  Calls prog 149 #[N,a] w fun e w'=>e=.returned (.int .i64 ((res N a:Nat):Int))/\w=w':=by
 obtain⟨a1,a2⟩:=ha;obtain⟨t1,t2⟩:=mG a N (by omega);have e0:=oq N a h1;have e1:=bw N a h1
 have hn0:((N:Int)==0)=false:=by simp;omega
 generalize hr:res N a=r at e0 e1 ⊢
 rw[<-e0]at t1 t2
 generalize ht:a.tmod N=t at t1 t2
 by_cases hneg:t < 0
 ·have e2:=t1 hneg
  have hd:decide (t < 0)=true:=by simpa using hneg
  go_enter func149,ntmps149
  go_wp2;go_ret;exact⟨rfl,rfl⟩
 ·have e2:=t2 hneg
  have hd:decide (t < 0)=false:=by simpa using hneg
  go_enter func149,ntmps149
  go_wp2;go_ret;exact⟨rfl,rfl⟩
theorem vM(N:Nat)(a b:Int)(w:World)(h1:1<=N)(h2:N < 2305843009213693952)(ha:Wire.I64 a)(hb:Wire.I64 b) :
  Calls prog 227 #[N,a,b] w fun e w'=>e=.returned (.int .i64 ((addN N a b:Nat):Int))/\w=w':=by
 have V:=hid (bP N w h1 h2);have g:=hid (bi N a w h1 h2 ha);have f:=hid (bi N b w h1 h2 hb);have i:=bw N a h1;have h:=bw N b h1
 have hz':¬(N:Int)=0:=by omega
 unfold addN
 obtain⟨x,d⟩:=nm (res N a);obtain⟨y,c⟩:=nm (res N b);rw[d]at g i ⊢;rw[c]at f h ⊢;have k:((x:Int)+(y:Int)) % (N:Int) < N:=Int.emod_lt_of_pos _ (by omega);have j:0<=((x:Int)+(y:Int)) % (N:Int):=Int.emod_nonneg _ (by omega);clear d c
 go_enter func227,ntmps227
 go_wp2_with (first
  |(go_at_call 188;refine V.out.mono ?_;rintro e w' ⟨rfl,rfl⟩)
  |(go_at_call 149;with_reducible refine g.out.mono ?_;rintro e w' ⟨rfl,rfl⟩)
  |(go_at_call 149;with_reducible refine f.out.mono ?_;rintro e w' ⟨rfl,rfl⟩))
 go_ret;exact⟨rfl,rfl⟩
theorem uH(d:Nat)(hd:d < 9223372036854775808):bits .and .i64 (d:Int) 3=((d % 4:Nat):Int):=by
 have hx:d &&& 3=d % 4:=Nat.and_two_pow_sub_one_eq_mod d 2
 have h1:BitVec.ofInt 64 (3:Int)=BitVec.ofNat 64 3:=by decide
 have h2:(BitVec.ofInt 64 (d:Int)).toNat=d:=by
  rw[BitVec.ofInt_natCast,BitVec.toNat_ofNat];exact Nat.mod_eq_of_lt (by omega)
 show IntKind.i64.wrap ((BitVec.ofInt 64 (d:Int) &&& BitVec.ofInt 64 (3:Int)).toNat:Int)=_
 rw[BitVec.toNat_and,h1,h2,BitVec.toNat_ofNat,show 3 % 2 ^ 64=3 by decide,hx,IntKind.wrap_i64];omega
theorem tT(N x y i:Nat):(4*(x*(y / 2 ^ (2*i+2)) % N) % N+y / 2 ^ (2*i) % 4*x) % N=x*(y / 2 ^ (2*i)) % N:=by
 have e1:y / 2 ^ (2*i+2)=y / 2 ^ (2*i) / 4:=by rw[Nat.pow_add,<-Nat.div_div_eq_div_mul]
 rw[e1]
 generalize y / 2 ^ (2*i)=d
 rw[Nat.add_mod,Nat.mod_mod,Nat.mul_mod_mod,<-Nat.add_mod]
 congr 1
 have:=Nat.div_add_mod d 4
 conv=>rhs;rw[<-this]
 rw[Nat.mul_add,Nat.mul_left_comm,Nat.mul_comm x (d % 4)]
theorem dL(N:Nat)(a b:Int)(w:World)(h1:1<=N)(h2:N < 2305843009213693952)(ha:Wire.I64 a)(hb:Wire.I64 b) :
  Calls prog 150 #[N,a,b] w fun e w'=>e=.returned (.int .i64 ((mulN N a b:Nat):Int))/\w=w':=by
 have V:=hid (bP N w h1 h2);have v:=hid (bi N a w h1 h2 ha);have u:=hid (bi N b w h1 h2 hb);have L:=bw N a h1;have J:=bw N b h1
 have hz':¬(N:Int)=0:=by omega
 unfold mulN
 obtain⟨x,E⟩:=nm (res N a);obtain⟨y,C⟩:=nm (res N b);rw[E]at v L ⊢;rw[C]at u J ⊢;clear E C
 by_cases hs:N<=2147483648
 ·have hd:decide ((N:Int)<=2147483648)=true:=by simp;omega
  have G:x*y<=2147483648*2147483648:=Nat.mul_le_mul (by omega) (by omega);obtain⟨p,s⟩:=nm (x*y)
  have hp':(x:Int)*(y:Int)=(p:Int):=by rw[<-s];simp
  rw[s]at G ⊢;have Z:(p:Int) % (N:Int) < N:=Int.emod_lt_of_pos _ (by omega);have Y:0<=(p:Int) % (N:Int):=Int.emod_nonneg _ (by omega);clear s
  go_enter func150,ntmps150
  go_wp2_with (first
   |(go_at_call 188;refine V.out.mono ?_;rintro e w' ⟨rfl,rfl⟩)
   |(go_at_call 149;with_reducible refine v.out.mono ?_;rintro e w' ⟨rfl,rfl⟩)
   |(go_at_call 149;with_reducible refine u.out.mono ?_;rintro e w' ⟨rfl,rfl⟩))
  go_ret;exact⟨rfl,rfl⟩
 ·have hd:decide ((N:Int)<=2147483648)=false:=by simp;omega
  go_enter func150,ntmps150
  go_wp2_with (first
   |(go_at_call 188;refine V.out.mono ?_;rintro e w' ⟨rfl,rfl⟩)
   |(go_at_call 149;with_reducible refine v.out.mono ?_;rintro e w' ⟨rfl,rfl⟩)
   |(go_at_call 149;with_reducible refine u.out.mono ?_;rintro e w' ⟨rfl,rfl⟩))
  have l:y / 2 ^ 62=0:=Nat.div_eq_of_lt (by omega);have B:=hid l;clear l
  go_loop [9,10] (fun vo vk=>∃(o:Nat) (k:Int),vo=o/\vk=k/\o < N/\((k=-2/\o=x*y % N)\/∃K:Nat,K<=60/\(∃i,K=2*i)/\k=(K:Int)/\o=x*(y / 2 ^ (K+2)) % N)) (fun _ vk=>(intOf vk+2).toNat)
  case atStart=>exact⟨0,60,rfl,rfl,by omega,Or.inr ⟨60,by omega,⟨30,rfl⟩,rfl,by rw[B.out,Nat.mul_zero,Nat.zero_mod]⟩⟩
  case round =>
   obtain⟨o,k,rfl,rfl,ho,f⟩:=hrel
   rcases f with⟨rfl,f⟩|⟨K,hK,n,rfl,f⟩
   ·go_wp2_with fail;go_ret;exact⟨rfl,rfl⟩
   ·obtain⟨D,g⟩:=nm (y / 2 ^ K)
    have T:D < 2305843009213693952:=by rw[<-g];exact Nat.lt_of_le_of_lt (Nat.div_le_self _ _) (by omega)
    have iS:(y:Int) / 2 ^ K=(D:Int):=by rw[<-g];simp
    have O:=uH D (by omega);have t:D % 4 < 4:=Nat.mod_lt _ (by omega);obtain⟨d,hd'⟩:∃d,D % 4=d:=⟨_,rfl⟩;obtain⟨P,q⟩:=nm (4*o % N)
    have iP:4*(o:Int) % (N:Int)=(P:Int):=by rw[<-q];simp
    have I:P < N:=by rw[<-q];exact Nat.mod_lt _ (by omega)
    have h:(P+d*x) % N=x*D % N:=by
     obtain⟨i,rfl⟩:=n;have:=tT N x y i;rw[<-f,q,g,hd']at this;exact this
    have A:=hid h;have X:=hid n;have F:=hid g;rw[hd']at O t
    have R:decide ((0:Int)<=(K:Int))=true:=by simp
    have U:Hid (P=(P+0*x) % N):=by show P=_;rw[Nat.zero_mul,Nat.add_zero,Nat.mod_eq_of_lt I]
    clear g hd' q n f h;go_wp2_with fail
    go_loop [9,12] (fun vo vi=>∃i:Nat,∃o':Nat,i<=d/\vi=i/\vo=o'/\o'=(P+i*x) % N) (fun _ vi=>d - (intOf vi).toNat)
    case atStart=>exact⟨0,P,by omega,rfl,rfl,U.out⟩
    case round =>
     obtain⟨i,o',n,rfl,rfl,ho'⟩:=hrel
     have lo':o' < N:=by rw[ho'];exact Nat.mod_lt _ (by omega)
     by_cases hlt:i < d
     ·have c:(o'+x) % N=(P+(i+1)*x) % N:=by
       rw[ho',Nat.mod_add_mod,Nat.add_assoc,Nat.add_mul,Nat.one_mul]
      obtain⟨z,m⟩:=nm ((o'+x) % N)
      have M:((o':Int)+(x:Int)) % (N:Int)=(z:Int):=by rw[<-m];simp
      have lz:z < N:=by rw[<-m];exact Nat.mod_lt _ (by omega)
      rw[m]at c;have r:=hid c;clear c m ho';go_wp2_with fail
      go_round
      case rel=>exact⟨i+1,z,by omega,by go_num,by rw[M],r.out⟩
      case measure=>simp[intOf];omega
     ·obtain rfl:i=d:=by omega
      have c:=A.out;rw[<-ho']at c;have r:=hid c;clear c ho';go_wp2_with fail
      go_round
      case rel =>
       refine⟨o',(K:Int) - 2,rfl,rfl,lo',?_⟩;obtain⟨j,Q⟩:=X.out
       by_cases hj0:j=0
       ·subst hj0;subst Q;refine Or.inl ⟨by omega,?_⟩;have:=F.out;rw[r.out,<-this]
        simp
       ·refine Or.inr ⟨K - 2,by omega,⟨j - 1,by omega⟩,by omega,?_⟩;rw[r.out,show K - 2+2=K by omega,F.out]
      case measure=>simp[intOf];omega
theorem dK(N:Nat)(a:Int)(b:Nat)(w:World)(h1:2<=N)(h2:N < 2305843009213693952)(ha:Wire.I64 a)(hb:b < 9223372036854775808) :
  Calls prog 99 #[N,a,b] w fun e w'=>e=.returned (.int .i64 ((powN N a b:Nat):Int))/\w=w':=by
 have E:=hid (bi N a w (by omega) h2 ha);have s:=bw N a (by omega)
 unfold powN
 generalize t:res N a=x0 at E s ⊢
 obtain⟨T,i⟩:=nm (x0 ^ b % N);rw[i]
 have hz':¬(N:Int)=0:=by omega
 have L:(1:Int) % (N:Int)=1:=Int.emod_eq_of_lt (by omega) (by omega)
 have B:1*x0 ^ b % N=T:=by rw[Nat.one_mul];exact i
 have G:=hid B;clear B i t
 go_enter func99,ntmps99
 go_wp2_with (go_at_call 149;with_reducible refine E.out.mono ?_;rintro e w' ⟨rfl,rfl⟩)
 go_loop [2,7,8] (fun vb vo va=>∃x y o:Nat,va=x/\vb=y/\vo=o/\x < N/\y < 9223372036854775808/\o < N/\o*x ^ y % N=T) (fun vb _ _=>(intOf vb).toNat)
 case atStart=>exact⟨x0,b,1,rfl,rfl,rfl,s,hb,by omega,G.out⟩
 case round =>
  obtain⟨x,y,o,rfl,rfl,rfl,t,J,v,u⟩:=hrel;obtain⟨q,p⟩:=pS N o x y
  have c:res N (x:Int)=x:=by unfold res;rw[Int.emod_eq_of_lt (by omega) (by omega)];omega
  have d:res N (o:Int)=o:=by unfold res;rw[Int.emod_eq_of_lt (by omega) (by omega)];omega
  have ps:=dL N x x w (by omega) h2 ⟨by omega,by omega⟩ ⟨by omega,by omega⟩;have h:=dL N o x w (by omega) h2 ⟨by omega,by omega⟩ ⟨by omega,by omega⟩
  unfold mulN at ps h
  rw[c]at ps;rw[c,d]at h;have l:=hid ps;have D:=hid h;have m:=hid u;have k:=hid q;have C:=hid p;have r:o*x % N < N:=Nat.mod_lt _ (by omega);have j:x*x % N < N:=Nat.mod_lt _ (by omega);obtain⟨X,z⟩:=nm (x*x % N);obtain⟨O,A⟩:=nm (o*x % N);rw[z]at l k C j;rw[A]at D k r;clear q p u z A ps h c d
  by_cases hy0:y=0
  ·subst hy0
   have hd:decide ((0:Int) < 0)=false:=by decide
   have i:o=T:=by
    have:=m.out;rw[Nat.pow_zero,Nat.mul_one,Nat.mod_eq_of_lt v]at this;exact this
   go_wp2_with fail;go_ret;exact⟨rfl,rfl⟩
  ·have hd:decide ((0:Int) < (y:Int))=true:=by simp;omega
   rcases Nat.mod_two_eq_zero_or_one y with h2'|h2'
   ·have g:(y:Int) % 2=0:=by omega
    have f:=C.out h2';rw[m.out]at f;have n:=hid f;clear f;go_wp2_with (go_at_call 150;((with_reducible refine l.out.mono ?_);rintro e F ⟨rfl,rfl⟩))
    go_round
    case rel=>exact⟨X,y / 2,o,rfl,rfl,rfl,j,by omega,v,n.out⟩
    case measure=>simp[intOf];omega
   ·have g:(y:Int) % 2=1:=by omega
    have f:=k.out h2';rw[m.out]at f;have n:=hid f;clear f
    go_wp2_with (first
     |(go_at_call 150;((with_reducible refine D.out.mono ?_);rintro e I ⟨rfl,rfl⟩))
     |(go_at_call 150;((with_reducible refine l.out.mono ?_);rintro e F ⟨rfl,rfl⟩)))
    go_round
    case rel=>exact⟨X,y / 2,O,rfl,rfl,rfl,j,by omega,r,n.out⟩
    case measure=>simp[intOf];omega
end Go.Proofs.YtcidfldeiklcjaaGreatDoor
