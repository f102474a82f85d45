import Derived.Test.YtcidfldeiklcjaaGreatDoorRf1
import Derived.Laws.Entries
import Derived.Laws.Rows
import Derived.Deep.Cut
set_option maxRecDepth 100000
set_option maxHeartbeats 32000000
namespace Go.Proofs.YtcidfldeiklcjaaGreatDoor
open Go.RowKit
open Go.Proofs.Tryz
open Lib(hid)
theorem uG(w:World):Calls prog 147 #[] w fun e w'=>e=.returned (.slice (some ⟨w.heap.size,0,none⟩) 12 12)/\w'=w.alloc (.cells kU 3):=by
 go_enter func147,ntmps147
 go_wp2_with fail;go_ret;exact⟨rfl,rfl⟩
theorem eD{N b:Nat}(h:b < N):res N (b:Int)=b:=by
 unfold res
 rw[Int.emod_eq_of_lt (by omega) (by omega)];omega
theorem pD(N b:Nat)(w:World)(h1:2<=N)(h2:N < 2305843009213693952)(hb:b < N) :
  Calls prog 148 #[N,b] w fun e w'=>e=.returned (.bool (Prm.passes N b))/\w=w':=by
 obtain⟨m,rfl⟩:∃m,N=m+1:=⟨N - 1,by omega⟩;obtain⟨B,c⟩:=nm (Prm.passes (m+1) b);rw[c];have M:=hid c;rw[Int.natCast_add,Int.natCast_one];clear c
 go_enter func148,ntmps148
 go_wp2_with fail
 go_loop [5,6] (fun vd vk=>∃d k:Nat,vd=d/\vk=k/\1<=d/\d+k<=m/\m=d*2 ^ k) (fun vd _=>(intOf vd).toNat)
 case atStart=>exact⟨m,0,rfl,rfl,by omega,by omega,by simp⟩
 case round =>
  obtain⟨d,k,rfl,rfl,o,F,l⟩:=hrel
  rcases Nat.mod_two_eq_zero_or_one d with h2'|h2'
  ·have g:(d:Int) % 2=0:=by omega
   have r:m=(d / 2)*2 ^ (k+1):=by
    rw[l,Nat.pow_succ,Nat.mul_comm (2 ^ k) 2,<-Nat.mul_assoc]
    congr 1
    omega
   have J:=hid r;clear r l;go_wp2_with fail
   go_round
   case rel=>exact⟨d / 2,k+1,rfl,by go_num,by omega,by omega,J.out⟩
   case measure=>simp[intOf];omega
  ·have g:(d:Int) % 2=1:=by omega
   obtain⟨v,u⟩:=Prm.ctz_eq (show 0 < m by omega) (by omega) l h2';have c:=M.out
   unfold Prm.passes at c
   rw[Nat.add_sub_cancel,u,v]at c;have f:=dK (m+1) b d w h1 h2 ⟨by omega,by omega⟩ (by omega)
   unfold powN at f
   rw[eD hb]at f;have q:b ^ d % (m+1) < m+1:=Nat.mod_lt _ (by omega)
   generalize n:b ^ d % (m+1)=x0 at f q c
   rw[Int.natCast_add,Int.natCast_one]at f;have y:=hid f;have h:=hid c
   have s:k < 9223372036854775808:=by omega
   clear l c v u f n
   by_cases h11:x0=1
   ·subst h11;go_wp2_with (go_at_call 99;refine y.mono ?_;rintro e A ⟨rfl,rfl⟩);go_ret;exact⟨by rw[<-h.out];simp,rfl⟩
   ·have o:((x0:Int)==1)=false:=by simp;omega
    have t:Prm.goes (m+1) x0 k=B:=by
     have:=h.out;rw[show(x0==1)=false by simpa using h11]at this
     simpa using this
    have L:=hid t;clear t;go_wp2_with (go_at_call 99;refine y.mono ?_;rintro e A ⟨rfl,rfl⟩)
    go_loop [7,8] (fun vx vi=>∃i x:Nat,i<=k/\vi=i/\vx=x/\x < m+1/\Prm.goes (m+1) x (k - i)=B) (fun _ vi=>k - (intOf vi).toNat)
    case atStart=>exact⟨0,x0,by omega,rfl,rfl,q,L.out⟩
    case round =>
     obtain⟨i,x,P,rfl,rfl,D,a⟩:=hrel
     by_cases hlt:i < k
     ·obtain⟨j,E⟩:∃j,k - i=j+1:=⟨k - i - 1,by omega⟩;rw[E]at a
      by_cases he:x=m
      ·subst he;rw[qo (by omega)]at a;subst a;go_wp2_with fail;go_ret;exact⟨rfl,rfl⟩
      ·have hd:((x:Int)==(m:Int))=false:=by simp;omega
       rw[ny (by omega)]at a;have ps:=dL (m+1) x x w (by omega) h2 ⟨by omega,by omega⟩ ⟨by omega,by omega⟩
       unfold mulN at ps
       rw[eD D]at ps;have p:x*x % (m+1) < m+1:=Nat.mod_lt _ (by omega)
       generalize C:x*x % (m+1)=z at ps p a
       rw[Int.natCast_add,Int.natCast_one]at ps;have G:=hid ps;have I:=hid a;clear a C ps;go_wp2_with (go_at_call 150;refine G.mono ?_;rintro e O ⟨rfl,rfl⟩)
       go_round
       case rel=>exact⟨i+1,z,by omega,by go_num,rfl,p,by rw[show k - (i+1)=j by omega];exact I.out⟩
       case measure=>simp[intOf];omega
     ·obtain rfl:i=k:=by omega
      rw[Nat.sub_self]at a;have hr':false=B:=a;subst hr';go_wp2_with fail;go_ret;exact⟨rfl,rfl⟩
theorem kT{w:World}{b:Nat}(h:Blk w b 3 kU)(k:Nat)(hk:k < 12):w.cell? ⟨b,k,none⟩=some (.int .i64 (Prm.at_ k)):=by
 rw[h.cell k]
 rcases(by omega:k=0\/k=1\/k=2\/k=3\/k=4\/k=5\/k=6\/k=7\/k=8\/k=9\/k=10\/k=11)with rfl|rfl|rfl|rfl|rfl|rfl|rfl|rfl|rfl|rfl|rfl|rfl <;> rfl
theorem lu(N:Nat)(w:World)(h1:2<=N)(h2:N < 2305843009213693952) :
  Calls prog 98 #[N] w fun e w'=>e=.returned (.bool (Prm.jn N))/\Kept [] w w':=by
 obtain⟨W,o⟩:=nm (w.alloc (.cells kU 3));have l:=bn o;have c:=ka (S:=[]) o;have z:=hid l;have A:=hid (uG w);rw[o]at A;obtain⟨B,a⟩:=nm (Prm.jn N);rw[a];have v:=hid a;clear a o l
 go_enter func98,ntmps98
 go_wp2_with (go_at_call 147;refine A.mono ?_;rintro e O ⟨rfl,x⟩;obtain rfl:=x.symm;clear x)
 go_loop [4] (fun i=>∃k:Nat,k<=12/\i=k/\∀j,j < k->Prm.hits N j=false) (fun i=>12 - (intOf i).toNat)
 case atStart=>exact⟨0,by omega,rfl,fun j hj=>by omega⟩
 case round =>
  obtain⟨k,I,rfl,g⟩:=hrel;have m:=hid g;clear g
  by_cases hlt:k < 12
  ·have u:=kT z k hlt;obtain⟨s,r⟩:=Prm.at_lt hlt;have hits:Prm.hits N k=decide (N % Prm.at_ k=0):=rfl;obtain⟨p,d⟩:=nm (Prm.at_ k);have L:=hid d;rw[d]at u s r hits
   have G:¬(p:Int)=0:=by omega
   clear d
   by_cases hh:N % p=0
   ·have hd:((N:Int) % (p:Int)==0)=true:=by simp;omega
    have a:=v.out;rw[Prm.zC hlt m.out (by rw[hits];simpa using hh),L.out]at a;have b:=hid a;clear a hits;go_wp2_with fail;go_ret;exact⟨by rw[<-b.out,<-eP];rfl,c⟩
   ·have hd:((N:Int) % (p:Int)==0)=false:=by simp;omega
    have f:Prm.hits N k=false:=by rw[hits];simpa using hh
    have M:=hid f;clear f hits;go_wp2_with fail
    go_round
    case rel=>exact⟨k+1,by omega,by go_num,fun j hj=>by
     rcases Nat.lt_or_ge j k with h|h
     ·exact m j h
     ·obtain rfl:j=k:=by omega
      exact M⟩
    case measure=>simp[intOf];omega
  ·obtain rfl:k=12:=by omega
   have J:=Prm.no_hits m h1;go_wp2_with fail
   go_loop [5] (fun i=>∃k:Nat,k<=12/\i=k/\(∀j,j < k->Prm.passes N (Prm.at_ j)=true)) (fun i=>12 - (intOf i).toNat)
   case atStart=>exact⟨0,by omega,rfl,fun j hj=>by omega⟩
   case round =>
    obtain⟨k,I,rfl,g⟩:=hrel;have y:=hid g;clear g
    by_cases hlt:k < 12
    ·have u:=kT z k hlt;obtain⟨s,r⟩:=Prm.at_lt hlt;have q:=hid (pD N (Prm.at_ k) W h1 h2 (by omega));have D:=hid (fun h=>Prm.zD (n:=N) (k:=k) m hlt h)
     have C:Hid (Prm.passes N (Prm.at_ k)=true->∀j,j < k+1->Prm.passes N (Prm.at_ j)=true):=fun h j hj=>by
      rcases Nat.lt_or_ge j k with h'|h'
      ·exact y j h'
      ·obtain rfl:j=k:=by omega
       exact h
     generalize F:Prm.passes N (Prm.at_ k)=t at q D C
     generalize d:Prm.at_ k=p at u s r q
     clear d F
     cases t
     ·have a:=v.out;rw[D.out rfl]at a;have b:=hid a;clear a;go_wp2_with (go_at_call 148;refine q.mono ?_;rintro e E ⟨rfl,rfl⟩);go_ret;exact⟨by rw[<-b.out];rfl,c⟩
     ·go_wp2_with (go_at_call 148;refine q.mono ?_;rintro e E ⟨rfl,rfl⟩)
      go_round
      case rel=>exact⟨k+1,by omega,by go_num,C.out (by first|trivial|rfl)⟩
      case measure=>simp[intOf];omega
    ·obtain rfl:k=12:=by omega
     have a:=v.out;rw[Prm.zE m.out y.out]at a;have b:=hid a;clear a;go_wp2_with fail;go_ret;exact⟨by rw[<-b.out];rfl,c⟩
theorem fh(P Q G:Int)(w:World)(hP:Wire.I64 P)(hQ:Wire.I64 Q)(hG:Wire.I64 G) :
  Calls prog 60 #[.agg (grpV P Q G)] w fun e w'=>e=.returned (.bool (aR P Q G))/\Kept [] w w':=by
 obtain⟨V,U⟩:=hP;obtain⟨T,R⟩:=hQ;obtain⟨Y,X⟩:=hG;obtain⟨W,m⟩:=nm (w.alloc (.cells (grpV P Q G) 23));have k:=bn m;have d:=ka (S:=[]) m;obtain⟨x,v,u⟩:=bH3 k rfl;have p:=x W kr;have o:=v W kr;have n:=u W kr;have i:=hid m;clear m k
 by_cases c1:Q < 5
 ·have r:aR P Q G=false:=by unfold aR;rw[decide_eq_false (by omega)];rfl
  rw[r];have M:decide (Q < 5)=true:=decide_eq_true c1
  go_enter func60,ntmps60
  go_wp2_with fail;rw[i.out];go_wp2_with fail;go_ret;exact⟨rfl,d⟩
 have M:decide (Q < 5)=false:=decide_eq_false c1
 by_cases c2:1152921504606846976<=Q
 ·have r:aR P Q G=false:=by unfold aR;rw[decide_eq_false (show ¬Q < 1152921504606846976 by omega)];simp
  rw[r];have L:decide (1152921504606846976<=Q)=true:=decide_eq_true c2
  go_enter func60,ntmps60
  go_wp2_with fail;rw[i.out];go_wp2_with fail;go_ret;exact⟨rfl,d⟩
 have L:decide (1152921504606846976<=Q)=false:=decide_eq_false c2
 by_cases c3:P=2*Q+1
 case neg =>
  have r:aR P Q G=false:=by unfold aR;rw[decide_eq_false c3];simp
  rw[r]
  have J:(P != 2*Q+1)=true:=by simpa using c3
  go_enter func60,ntmps60
  go_wp2_with fail;rw[i.out];go_wp2_with fail;go_ret;exact⟨rfl,d⟩
 have J:(P != 2*Q+1)=false:=by simpa using c3
 have I:decide (2305843009213693952<=P)=false:=decide_eq_false (by omega)
 by_cases c4:G < 2
 ·have r:aR P Q G=false:=by unfold aR;rw[decide_eq_false (show ¬2<=G by omega)];simp
  rw[r];have F:decide (G < 2)=true:=decide_eq_true c4;have D:=hid c3;clear c3
  go_enter func60,ntmps60
  go_wp2_with fail;rw[i.out];go_wp2_with fail;go_ret;exact⟨rfl,d⟩
 have F:decide (G < 2)=false:=decide_eq_false c4
 by_cases c5:P<=G
 ·have r:aR P Q G=false:=by unfold aR;rw[decide_eq_false (show ¬G < P by omega)];simp
  rw[r];have E:decide (P<=G)=true:=decide_eq_true c5;have D:=hid c3;clear c3
  go_enter func60,ntmps60
  go_wp2_with fail;rw[i.out];go_wp2_with fail;go_ret;exact⟨rfl,d⟩
 have E:decide (P<=G)=false:=decide_eq_false c5;obtain⟨q,y⟩:∃q:Nat,Q=q:=⟨Q.toNat,by omega⟩;have f:GrpOk P Q G q:=⟨y,by omega,by omega,by omega,by omega,by omega⟩;rw[f.eq]
 unfold cH
 have t:=hid fun(w':World) (_:Kept [] W w')=>lu q w' (by omega) (by omega)
 have C:Hid (∀w',Kept [] W w'->Calls prog 98 #[P] w' fun e w''=>e=.returned (.bool (Prm.jn (2*q+1)))/\Kept [] w' w''):=fun w' _=>by
  rw[f.hP];exact lu (2*q+1) w' (by omega) (by omega)
 have B:Hid (∀w',Calls prog 99 #[P,G,q] w' fun e w''=>e=.returned (.int .i64 ((powN (2*q+1) G q:Nat):Int))/\w'=w''):=fun w'=>by
  rw[f.hP];exact dK (2*q+1) G q w' (by omega) (by omega) ⟨by omega,by omega⟩ (by omega)
 obtain⟨a,A⟩:=nm (Prm.jn q);obtain⟨b,k⟩:=nm (Prm.jn (2*q+1));obtain⟨c,z⟩:=nm (powN (2*q+1) G q);rw[A]at t ⊢;rw[k]at C ⊢;rw[z]at B ⊢;have D:=hid c3;have N:=hid f;subst y;clear c3 f A k z;have s:((c:Int)==1)=(c==1):=eP c 1
 cases a
 ·go_enter func60,ntmps60
  go_wp2_with fail;rw[i.out];go_wp2_with (go_at_call 98;with_reducible refine(t.out W kr).mono ?_);rintro e j ⟨rfl,h⟩;go_wp2_with fail;go_ret;exact⟨rfl,d.trans h⟩
 ·go_enter func60,ntmps60
  go_wp2_with fail;rw[i.out];go_wp2_with (go_at_call 98;with_reducible refine(t.out W kr).mono ?_);rintro e j ⟨rfl,h⟩;clear p o n;have p:=x j h;have o:=v j h;have n:=u j h;go_wp2_with (go_at_call 98;with_reducible refine(C.out j h).mono ?_);rintro e l ⟨rfl,g⟩;replace g:=h.trans g;clear p o n;have p:=x l g;have o:=v l g;have n:=u l g
  cases b
  ·go_wp2_with fail;go_ret;exact⟨rfl,d.trans g⟩
  ·go_wp2_with (go_at_call 99;((with_reducible refine(B.out l).mono ?_);rintro e O ⟨rfl,rfl⟩));go_ret;exact⟨by rw[<-s];simp,d.trans g⟩
theorem jG(P Q G x:Int)(q:Nat)(w:World)(hok:GrpOk P Q G q)(hx:Wire.I64 x) :
  Calls prog 100 #[.agg (grpV P Q G),x] w fun e w'=>e=.returned (.bool (memB q x))/\Kept [] w w':=by
 obtain⟨v,u⟩:=hx;have k:=hok.hq;have l:=hok.h5;have b:=hok.hP;obtain⟨W,d⟩:=nm (w.alloc (.cells (grpV P Q G) 23));have i:=bn d;have a:=ka (S:=[]) d;obtain⟨t,s⟩:=bc2 i rfl;have g:=hid d
 have h:Calls prog 99 #[P,x,Q] W fun e w''=>e=.returned (.int .i64 ((powN (2*q+1) x q:Nat):Int))/\W=w'':=by
  rw[hok.hP,hok.hQ];exact dK (2*q+1) x q W (by omega) (by omega) ⟨by omega,by omega⟩ (by omega)
 have j:=hid h;clear d i h
 by_cases c1:1<=x
 case neg =>
  have r:memB q x=false:=by unfold memB;rw[decide_eq_false c1];rfl
  rw[r];have o:decide (1<=x)=false:=decide_eq_false c1;clear b
  go_enter func100,ntmps100
  go_wp2_with fail;rw[g.out];go_wp2_with fail;go_ret;exact⟨rfl,a⟩
 have o:decide (1<=x)=true:=decide_eq_true c1
 by_cases c2:x < P
 case neg =>
  have r:memB q x=false:=by unfold memB;rw[decide_eq_false (show ¬x < ((2*q+1:Nat):Int)by omega)];simp
  rw[r];have n:decide (x < P)=false:=decide_eq_false c2;clear b
  go_enter func100,ntmps100
  go_wp2_with fail;rw[g.out];go_wp2_with fail;go_ret;exact⟨rfl,a⟩
 have n:decide (x < P)=true:=decide_eq_true c2
 have r:memB q x=(powN (2*q+1) x q==1):=by unfold memB;rw[decide_eq_true c1,decide_eq_true (show x < ((2*q+1:Nat):Int)by omega)];simp
 rw[r]
 generalize m:powN (2*q+1) x q=c at j ⊢
 have f:((c:Int)==1)=(c==1):=eP c 1;clear b m r
 go_enter func100,ntmps100
 go_wp2_with fail;rw[g.out];go_wp2_with (go_at_call 99;((with_reducible refine j.out.mono ?_);rintro e p ⟨rfl,rfl⟩));go_ret;exact⟨by rw[<-f];simp,a⟩
theorem lv(P Q G x k:Int)(q:Nat)(w:World)(hok:GrpOk P Q G q)(hx:Wire.I64 x)(hk:Wire.I64 k) :
  Calls prog 157 #[.agg (grpV P Q G),x,k] w fun e w'=>e=.returned (.int .i64 ((pwrN q x k:Nat):Int))/\Kept [] w w':=by
 have o:=hok.hq;have s:=hok.h5;have a:=hok.hP;have g:=hok.hQ;obtain⟨p,i⟩:=nm (2*q+1)
 unfold pwrN
 rw[i]at a ⊢
 have u:2<=p:=by omega
 have t:p < 2305843009213693952:=by omega
 subst a g;obtain⟨W,b⟩:=nm (w.alloc (.cells (grpV p q G) 23));have y:=bn b;have d:=ka (S:=[]) b;obtain⟨n,m⟩:=bk2 y rfl;have A:=n W kr;have z:=m W kr;have E:=hid b;have C:=hid (bP p W (by omega) (by omega));have B:=hid (bP q W (by omega) (by omega));have l:=bw q k (by omega);obtain⟨K,hK⟩:=nm (res q k)
 have D:Hid (∀w,Calls prog 149 #[q,k] w fun e w'=>e=.returned (.int .i64 ((K:Nat):Int))/\w=w'):=fun w=>by
  have:=bi q k w (by omega) (by omega) hk
  rwa [hK]at this
 rw[hK]at l ⊢;have j:res p x ^ K % p < p:=Nat.mod_lt _ (by omega);obtain⟨r,c⟩:=nm (res p x ^ K % p)
 have F:Hid (∀w,Calls prog 99 #[p,x,K] w fun e w'=>e=.returned (.int .i64 ((r:Nat):Int))/\w=w'):=fun w=>by
  have:=dK p x K w (by omega) (by omega) hx (by omega)
  unfold powN at this
  rwa [c]at this
 rw[c]at j ⊢;clear b hK c i hok
 go_enter func157,ntmps157
 go_wp2_with fail;rw[E.out]
 go_wp2_with (first
  |(go_at_call 188;((with_reducible refine C.out.mono ?_);rintro e w' ⟨rfl,rfl⟩))
  |(go_at_call 188;((with_reducible refine B.out.mono ?_);rintro e w' ⟨rfl,rfl⟩)))
 clear A z
 go_region_held3 (fun w'=>Kept [] W w') (first|assumption|exact kr.drew|exact Kept.alloc (by assumption) _)
  (first
   |(go_at_call 149;with_reducible refine(ai (W:=W) (by assumption) ((D.out _).mono fun _ _ h=>⟨h.1,h.2▸kr⟩)).mono ?_;rintro e J ⟨rfl,v⟩)
   |(go_at_call 99;with_reducible refine(ai (W:=W) (by assumption) ((F.out _).mono fun _ _ h=>⟨h.1,h.2▸kr⟩)).mono ?_;rintro e I ⟨rfl,f⟩))
 go_wp2;go_ret;exact⟨rfl,d.trans f⟩
theorem qZ(P Q G x:Int)(q:Nat)(w:World)(hok:GrpOk P Q G q)(hx:Wire.I64 x) :
  Calls prog 61 #[.agg (grpV P Q G),x] w fun e w'=>e=.returned (.bool (othB q x))/\Kept [] w w':=by
 obtain⟨W,b⟩:=nm (w.alloc (.cells (grpV P Q G) 23));have c:=bn b;have a:=ka (S:=[]) b;obtain⟨m,l,k⟩:=bc3 c rfl;have d:=hid b;have f:=hid (jG P Q G x q W hok hx)
 unfold othB
 clear c b hok
 by_cases h1:x=1
 ·subst h1
  go_enter func61,ntmps61
  go_wp2_with fail;rw[d.out];go_wp2_with fail;go_ret;exact⟨rfl,a⟩
 ·have h:(x != 1)=true:=by simpa using h1
  have hne':(x==1)=false:=by simpa using h1
  rw[hne']
  generalize g:memB q x=t at f ⊢
  clear g hne'
  go_enter func61,ntmps61
  go_wp2_with fail;rw[d.out];go_wp2_with (go_at_call 100;((with_reducible refine f.out.mono ?_);rintro e j ⟨rfl,i⟩));go_ret;exact⟨rfl,a.trans i⟩
theorem bR(v:Value)(s:Stp)(w:World)(h:StpV w v s):Calls prog 28 #[v] w fun e w'=>e=.returned (.bool (aw s))/\Kept [] w w':=by
 obtain⟨⟨a,c,rfl,o⟩,ip,iq,ig,Y,il⟩:=h;obtain⟨P,Q,G,b,f⟩:=s
 simp only at ip iq ig Y il o ⊢
 have J:=o.form;obtain⟨_,_,_,a0,_⟩:=J;obtain⟨W,O⟩:=nm (w.alloc (.cells #[P,Q,G,.slice a b.length c,f] 26));have hb:=bn O;have n:=ka (S:=[]) O;have HR:=hid (o.kept n);have HB:=hid hb;obtain⟨V,U,T,E,K4⟩:=bH5 hb rfl;have A:=V W kr;have z:=U W kr;have y:=T W kr;have N:=hid O;have D:=hid (fh P Q G W ip iq ig);have IB:=hid Y;obtain⟨g,Z⟩:=nm (aR P Q G)
 unfold aw
 simp only
 rw[Z]at D ⊢;have HG:=hid Z;clear hb O o Y Z
 cases g
 ·rw[Bool.false_and]
  go_enter func28,ntmps28
  go_wp2_with fail;rw[N.out];go_wp2_with (go_at_call 60;with_reducible refine D.out.mono ?_);rintro e m ⟨rfl,d⟩;go_wp2_with fail;go_ret;exact⟨rfl,n.trans d⟩
 rw[Bool.true_and]
 by_cases c1:b.length < 2
 ·rw[decide_eq_false (show ¬2<=b.length by omega),Bool.false_and]
  have d1:decide ((b.length:Int) < 2)=true:=by simp;omega
  go_enter func28,ntmps28
  go_wp2_with fail;rw[N.out];go_wp2_with (go_at_call 60;with_reducible refine D.out.mono ?_);rintro e m ⟨rfl,d⟩;clear A z y;have C:=E m d;go_wp2_with fail;go_ret;exact⟨rfl,n.trans d⟩
 have d1:decide ((b.length:Int) < 2)=false:=by simp;omega
 rw[decide_eq_true (show 2<=b.length by omega),Bool.true_and]
 by_cases c2:7 < b.length
 ·rw[decide_eq_false (show ¬b.length<=7 by omega),Bool.false_and]
  have d2:decide ((7:Int) < (b.length:Int))=true:=by simp;omega
  go_enter func28,ntmps28
  go_wp2_with fail;rw[N.out];go_wp2_with (go_at_call 60;with_reducible refine D.out.mono ?_);rintro e m ⟨rfl,d⟩;clear A z y;have C:=E m d;go_wp2_with fail;go_ret;exact⟨rfl,n.trans d⟩
 have d2:decide ((7:Int) < (b.length:Int))=false:=by simp;omega
 rw[decide_eq_true (show b.length<=7 by omega),Bool.true_and];obtain⟨q,u,a1⟩:=fY HG
 have I:Q.toNat=q:=by have:=u.hQ;omega
 rw[I]
 have CL:Hid (∀w' x,Wire.I64 x->Calls prog 61 #[.agg (grpV P Q G),x] w' fun e r=>e=.returned (.bool (othB q x))/\Kept [] w' r) :=
  fun w' x hx=>qZ P Q G x q w' u hx
 obtain⟨R,p⟩:=nm ((b.all (othB q)&&othB q f));rw[p]
 generalize F:othB q f=t0 at p
 have B:=hid p
 have CB:Hid (∀w',Calls prog 61 #[.agg (grpV P Q G),f] w' fun e r=>e=.returned t0/\Kept [] w' r):=fun w'=>by
  have:=CL w' f il
  rwa [F]at this
 clear p u I F
 cases t0
 ·have p:=B.out;rw[Bool.and_false]at p;subst p
  go_enter func28,ntmps28
  go_wp2_with fail;rw[N.out];go_wp2_with (go_at_call 60;with_reducible refine D.out.mono ?_);rintro e m ⟨rfl,d⟩;clear A z y;have A:=V m d;have z:=U m d;have y:=T m d;have C:=E m d;have e4:=K4 m d;go_wp2_with (go_at_call 61;with_reducible refine(CB.out m).mono ?_);rintro e r ⟨rfl,X⟩;go_wp2_with fail;go_ret;exact⟨rfl,n.trans (d.trans X)⟩
 go_enter func28,ntmps28
 go_wp2_with fail;rw[N.out];go_wp2_with (go_at_call 60;with_reducible refine D.out.mono ?_);rintro e m ⟨rfl,d⟩;clear A z y;have A:=V m d;have z:=U m d;have y:=T m d;have C:=E m d;have e4:=K4 m d;go_wp2_with (go_at_call 61;with_reducible refine(CB.out m).mono ?_);rintro e r ⟨rfl,X⟩;replace d:=d.trans X;clear A z y C e4;go_wp2_with fail
 go_loopw [3] (fun i wr=>∃k:Nat,k<=b.length/\i=k/\(∀j (hj:j < b.length),j < k->othB q b[j]=true)/\Kept [] W wr) (fun i _=>b.length - (intOf i).toNat)
 case atStart=>exact⟨0,Nat.zero_le _,rfl,fun j _ hj=>by omega,d⟩
 case round =>
  obtain⟨k,hk,rfl,hm,l⟩:=hrel;have HM:=hid hm;clear hm;have C:=E wr l
  by_cases hlt:k < b.length
  ·obtain⟨ba,oa,rfl,M⟩:=(HR.out.kept l).at_ (by omega);have x0:∀w',Kept [] wr w'->w'.cell? ⟨w.heap.size,0,none⟩=some (.int .i64 P):=Kept.cellOf (V wr l);have x1:∀w',Kept [] wr w'->w'.cell? ⟨w.heap.size,1,none⟩=some (.int .i64 Q):=Kept.cellOf (U wr l);have x2:∀w',Kept [] wr w'->w'.cell? ⟨w.heap.size,2,none⟩=some (.int .i64 G):=Kept.cellOf (T wr l);have x3:∀w',Kept [] wr w'->w'.cell? ⟨w.heap.size,3,none⟩=some (.slice (some ⟨ba,oa,none⟩) b.length c):=Kept.cellOf (E wr l);have xa:∀w',Kept [] wr w'->w'.cell? ⟨ba,oa+k,none⟩=some (.int .i64 b[k]):=Kept.cellOf (M k _ (aL hlt))
   have HC:Hid (∀w',Calls prog 61 #[.agg #[P,Q,G],.int .i64 b[k]] w' fun e r=>e=.returned (.bool (othB q b[k]))/\Kept [] w' r) :=
    fun w'=>CL w' b[k] (IB _ (List.getElem_mem hlt))
   generalize ht:othB q b[k]=t at HC
   have HT:=hid ht;clear M ht;go_upto_region 6 with(fail);clear C
   go_region_held3 (fun w'=>Kept [] wr w') (first|assumption|exact kr.drew|exact Kept.alloc (by assumption) _)
    ((go_at_call 61;with_reducible refine(ai (W:=wr) (by assumption) (HC.out _)).mono ?_;rintro e w3 ⟨rfl,L⟩))
   clear x0 x1 x2 x3 xa
   cases t
   ·have p:=B.out;rw[dU hlt HT.out,Bool.false_and]at p;subst p;go_wp2;go_ret;exact⟨rfl,n.trans (l.trans L)⟩
   ·go_wp2
    go_roundw
    case rel=>exact⟨k+1,by omega,by go_num,fun j hj hjk=>by
     rcases Nat.lt_or_ge j k with h|h
     ·exact HM j hj h
     ·obtain rfl:j=k:=by omega
      exact HT,l.trans L⟩
    case measure=>simp[intOf];omega
  ·obtain rfl:k=b.length:=by omega
   have p:=B.out;rw[oT (fun j hj=>HM.out j hj hj),Bool.true_and]at p;subst p;go_wp2_with fail;go_ret;exact⟨rfl,n.trans l⟩
end Go.Proofs.YtcidfldeiklcjaaGreatDoor
namespace Go.ShaP
abbrev W:=BitVec 32
def rotr(x:W)(n:Nat):W:=(x >>> n) |||(x <<< (32 - n))
def sig0(x:W):W:=rotr x 7 ^^^ rotr x 18 ^^^ (x >>> 3)
def sig1(x:W):W:=rotr x 17 ^^^ rotr x 19 ^^^ (x >>> 10)
def ch(e f g:W):W:=(e &&& f) ^^^ (~~~e &&& g)
def maj(a b c:W):W:=(a &&& b) ^^^ (a &&& c) ^^^ (b &&& c)
theorem ch_eq(e f g:W):g ^^^ (e &&& (f ^^^ g))=ch e f g:=by
 unfold ch
 ext i hi
 simp only[BitVec.getElem_xor,BitVec.getElem_and,BitVec.getElem_not]
 cases e[i] <;> cases f[i] <;> cases g[i] <;> rfl
theorem zI(a b c:W):(a &&& b) |||(c &&& (a |||b))=maj a b c:=by
 unfold maj
 ext i hi
 simp only[BitVec.getElem_xor,BitVec.getElem_and,BitVec.getElem_or]
 cases a[i] <;> cases b[i] <;> cases c[i] <;> rfl
structure S8 where
 a:W
 b:W
 c:W
 d:W
 e:W
 f:W
 g:W
 h:W
def S8.list(s:S8):List W:=[s.a,s.b,s.c,s.d,s.e,s.f,s.g,s.h]
def tmp(v:S8)(k w:W):W:=v.h+(rotr v.e 6 ^^^ rotr v.e 11 ^^^ rotr v.e 25)+ch v.e v.f v.g+k+w
def step(v:S8)(k w:W):S8 := ⟨tmp v k w+(rotr v.a 2 ^^^ rotr v.a 13 ^^^ rotr v.a 22)+maj v.a v.b v.c,v.a,v.b,v.c,v.d+tmp v k w,v.e,v.f,v.g⟩
def by4(b:List UInt8)(i:Nat):W :=
 (((BitVec.ofNat 32 (b.getD (4*i) 0).toNat) <<< 24 |||(BitVec.ofNat 32 (b.getD (4*i+1) 0).toNat) <<< 16) |||(BitVec.ofNat 32 (b.getD (4*i+2) 0).toNat) <<< 8) |||BitVec.ofNat 32 (b.getD (4*i+3) 0).toNat
def more(w:List W):W:=w.getD (w.length - 16) 0+sig0 (w.getD (w.length - 15) 0)+w.getD (w.length - 7) 0+sig1 (w.getD (w.length - 2) 0)
def ay(b:List UInt8):Nat->List W
 |0=>[]
 |k+1=>ay b k++[if k < 16 then by4 b k else more (ay b k)]
theorem bg(b:List UInt8)(k:Nat):(ay b k).length=k:=by
 induction k with
 |zero=>rfl
 |succ k ih=>simp[ay,ih]
def kTab:List W:=[
 0x428a2f98#32,0x71374491#32,0xb5c0fbcf#32,0xe9b5dba5#32,0x3956c25b#32,0x59f111f1#32,0x923f82a4#32,0xab1c5ed5#32,
 0xd807aa98#32,0x12835b01#32,0x243185be#32,0x550c7dc3#32,0x72be5d74#32,0x80deb1fe#32,0x9bdc06a7#32,0xc19bf174#32,
 0xe49b69c1#32,0xefbe4786#32,0x0fc19dc6#32,0x240ca1cc#32,0x2de92c6f#32,0x4a7484aa#32,0x5cb0a9dc#32,0x76f988da#32,
 0x983e5152#32,0xa831c66d#32,0xb00327c8#32,0xbf597fc7#32,0xc6e00bf3#32,0xd5a79147#32,0x06ca6351#32,0x14292967#32,
 0x27b70a85#32,0x2e1b2138#32,0x4d2c6dfc#32,0x53380d13#32,0x650a7354#32,0x766a0abb#32,0x81c2c92e#32,0x92722c85#32,
 0xa2bfe8a1#32,0xa81a664b#32,0xc24b8b70#32,0xc76c51a3#32,0xd192e819#32,0xd6990624#32,0xf40e3585#32,0x106aa070#32,
 0x19a4c116#32,0x1e376c08#32,0x2748774c#32,0x34b0bcb5#32,0x391c0cb3#32,0x4ed8aa4a#32,0x5b9cca4f#32,0x682e6ff3#32,
 0x748f82ee#32,0x78a5636f#32,0x84c87814#32,0x8cc70208#32,0x90befffa#32,0xa4506ceb#32,0xbef9a3f7#32,0xc67178f2#32]
def first:S8:=⟨0x6a09e667#32,0xbb67ae85#32,0x3c6ef372#32,0xa54ff53a#32,0x510e527f#32,0x9b05688c#32,0x1f83d9ab#32,0x5be0cd19#32⟩
def cF(h:S8)(w:List W):Nat->S8
 |0=>h
 |k+1=>step (cF h w k) (kTab.getD k 0) (w.getD k 0)
def plus(x y:S8):S8:=⟨x.a+y.a,x.b+y.b,x.c+y.c,x.d+y.d,x.e+y.e,x.f+y.f,x.g+y.g,x.h+y.h⟩
def mix(h:S8)(b:List UInt8):S8:=plus (cF h (ay b 64) 64) h
def mixed(p:List UInt8):Nat->S8
 |0=>first
 |k+1=>mix (mixed p k) ((p.drop (64*k)).take 64)
def gap(n:Nat):Nat:=(120 - n % 64) % 64
def aT(n:Nat):List UInt8:=(List.range 8).map fun j=>UInt8.ofNat (8*n % 18446744073709551616 / 2 ^ (56 - 8*j))
def aK(s:List UInt8):List UInt8:=s++[128]++List.replicate (gap (s.length+1)) 0++aT s.length
def bu(x:W):List UInt8:=[UInt8.ofNat (x.toNat / 16777216),UInt8.ofNat (x.toNat / 65536),UInt8.ofNat (x.toNat / 256),UInt8.ofNat x.toNat]
def sha(s:List UInt8):List UInt8:=(mixed (aK s) ((aK s).length / 64)).list.flatMap bu
theorem rI(n:Nat):gap n < 64:=Nat.mod_lt _ (by omega)
theorem oG(n:Nat):(n+gap n) % 64=56:=by unfold gap;omega
theorem nA(n j:Nat)(h:j < gap n):(n+j) % 64≠56:=by unfold gap at h;omega
theorem dv(n:Nat):(aT n).length=8:=by simp[aT]
theorem oB(x:W):BitVec.ofInt IntKind.u32.bits (x.toNat:Int)=x:=by
 show BitVec.ofInt 32 (x.toNat:Int)=x
 rw[BitVec.ofInt_natCast];simp
theorem iZ(x:W):IntKind.u32.wrap (x.toNat:Int)=(x.toNat:Int):=by
 have:=x.isLt
 simp[IntKind.wrap,IntKind.bits,IntKind.signed]
 omega
theorem jO(x y:W):bits .and .u32 (x.toNat:Int) (y.toNat:Int)=((x &&& y).toNat:Int):=by
 unfold bits;simp only[oB];exact iZ _
theorem or_w(x y:W):bits .or .u32 (x.toNat:Int) (y.toNat:Int)=((x |||y).toNat:Int):=by
 unfold bits;simp only[oB];exact iZ _
theorem ck(x y:W):bits .xor .u32 (x.toNat:Int) (y.toNat:Int)=((x ^^^ y).toNat:Int):=by
 unfold bits;simp only[oB];exact iZ _
theorem not_w(x:W):bits .xor .u32 4294967295 (x.toNat:Int)=((~~~x).toNat:Int):=by
 have:=ck (BitVec.allOnes 32) x;rw[BitVec.allOnes_xor]at this;exact this
theorem cn(x y:W):IntKind.u32.wrap ((x.toNat:Int)+(y.toNat:Int))=((x+y).toNat:Int):=by
 simp[IntKind.wrap,IntKind.bits,IntKind.signed,BitVec.toNat_add]
theorem sl(x:W)(n:Nat):(x.toNat:Int) / ((2 ^ n:Nat):Int)=((x >>> n).toNat:Int):=by
 rw[BitVec.toNat_ushiftRight,Nat.shiftRight_eq_div_pow];simp
theorem pu(x:W)(n:Nat):IntKind.u32.wrap ((x.toNat:Int)*((2 ^ n:Nat):Int))=((x <<< n).toNat:Int):=by
 rw[BitVec.toNat_shiftLeft,Nat.shiftLeft_eq]
 simp[IntKind.wrap,IntKind.bits,IntKind.signed]
theorem vv(x:W):(x.toNat:Int) / (8:Int)=((x >>> 3).toNat:Int):=sl x 3
theorem sm(x:W):(x.toNat:Int) / (1024:Int)=((x >>> 10).toNat:Int):=sl x 10
theorem xX(x:W):IntKind.u32.wrap ((x.toNat:Int)*(16777216:Int))=((x <<< 24).toNat:Int):=pu x 24
theorem xY(x:W):IntKind.u32.wrap ((x.toNat:Int)*(65536:Int))=((x <<< 16).toNat:Int):=pu x 16
theorem zv(x:W):IntKind.u32.wrap ((x.toNat:Int)*(256:Int))=((x <<< 8).toNat:Int):=pu x 8
def zx(c:UInt8):W:=BitVec.ofNat 32 c.toNat
theorem oW(c:UInt8):(zx c).toNat=c.toNat:=by
 have:=c.toNat_lt
 unfold zx
 rw[BitVec.toNat_ofNat];exact Nat.mod_eq_of_lt (by omega)
theorem xx(b:List UInt8)(i:Nat):by4 b i=(((zx (b.getD (4*i) 0)) <<< 24 |||(zx (b.getD (4*i+1) 0)) <<< 16) |||(zx (b.getD (4*i+2) 0)) <<< 8) |||zx (b.getD (4*i+3) 0):=rfl
theorem kJ(n:Int):IntKind.u32.wrap n=n % 4294967296:=by simp[IntKind.wrap,IntKind.bits,IntKind.signed]
theorem sx{x:W}(h:x.toNat < 256):(x.toNat:Int)*(16777216:Int)=((x <<< 24).toNat:Int):=by
 have e:=xX x;rw[kJ,Int.emod_eq_of_lt (by omega) (by omega)]at e;exact e
theorem sy{x:W}(h:x.toNat < 256):(x.toNat:Int)*(65536:Int)=((x <<< 16).toNat:Int):=by
 have e:=xY x;rw[kJ,Int.emod_eq_of_lt (by omega) (by omega)]at e;exact e
theorem we{x:W}(h:x.toNat < 256):(x.toNat:Int)*(256:Int)=((x <<< 8).toNat:Int):=by
 have e:=zv x;rw[kJ,Int.emod_eq_of_lt (by omega) (by omega)]at e;exact e
end Go.ShaP
namespace Go.Proofs.YtcidfldeiklcjaaGreatDoor
open Go.RowKit ShaP
open Go.Proofs.Tryz
abbrev wv(x:W):Value:=.int .u32 (x.toNat:Int)
theorem gq(x:W)(k:Int)(s:Nat)(w:World)(hk:bits .and .u64 (IntKind.u64.wrap k) 31=(s:Int))(h0:0 < s)(hs:s < 32) :
  Calls prog 185 #[wv x,k] w fun e w'=>e=.returned (wv (rotr x (32 - s)))/\w=w':=by
 have h:=pu x s;have b:=sl x (32 - s);have g:=or_w (x <<< s) (x >>> (32 - s))
 have j:x <<< s |||x >>> (32 - s)=rotr x (32 - s):=by
  unfold rotr
  rw[BitVec.or_comm,show 32 - (32 - s)=s by omega]
 rw[j]at g
 have m:(32:Int) - (s:Int)=((32 - s:Nat):Int):=by omega
 generalize l:32 - s=t at b g m ⊢
 have i:t < 32:=by omega
 rw[Int.natCast_pow]at h b;obtain⟨X,a⟩:=nm x.toNat;obtain⟨A,f⟩:=nm ((x <<< s).toNat);obtain⟨C,d⟩:=nm ((x >>> t).toNat);obtain⟨R,c⟩:=nm ((rotr x t).toNat)
 unfold wv
 rw[a,f]at h;rw[a,d]at b;rw[f,d,c]at g;rw[a,c];clear a f d c j l;simp only[Int.cast_ofNat_Int]at h b
 go_enter func185,ntmps185
 go_wp2_with fail;go_ret;exact⟨rfl,rfl⟩
theorem rot2(x:W)(w:World):Calls prog 185 #[wv x,.int .i64 (-2)] w fun e w'=>e=.returned (wv (rotr x 2))/\w=w':=gq x (-2) 30 w (by decide) (by omega) (by omega)
theorem rot6(x:W)(w:World):Calls prog 185 #[wv x,.int .i64 (-6)] w fun e w'=>e=.returned (wv (rotr x 6))/\w=w':=gq x (-6) 26 w (by decide) (by omega) (by omega)
theorem rot7(x:W)(w:World):Calls prog 185 #[wv x,.int .i64 (-7)] w fun e w'=>e=.returned (wv (rotr x 7))/\w=w':=gq x (-7) 25 w (by decide) (by omega) (by omega)
theorem rot11(x:W)(w:World):Calls prog 185 #[wv x,.int .i64 (-11)] w fun e w'=>e=.returned (wv (rotr x 11))/\w=w':=gq x (-11) 21 w (by decide) (by omega) (by omega)
theorem rot13(x:W)(w:World):Calls prog 185 #[wv x,.int .i64 (-13)] w fun e w'=>e=.returned (wv (rotr x 13))/\w=w':=gq x (-13) 19 w (by decide) (by omega) (by omega)
theorem rot17(x:W)(w:World):Calls prog 185 #[wv x,.int .i64 (-17)] w fun e w'=>e=.returned (wv (rotr x 17))/\w=w':=gq x (-17) 15 w (by decide) (by omega) (by omega)
theorem rot18(x:W)(w:World):Calls prog 185 #[wv x,.int .i64 (-18)] w fun e w'=>e=.returned (wv (rotr x 18))/\w=w':=gq x (-18) 14 w (by decide) (by omega) (by omega)
theorem rot19(x:W)(w:World):Calls prog 185 #[wv x,.int .i64 (-19)] w fun e w'=>e=.returned (wv (rotr x 19))/\w=w':=gq x (-19) 13 w (by decide) (by omega) (by omega)
theorem rot22(x:W)(w:World):Calls prog 185 #[wv x,.int .i64 (-22)] w fun e w'=>e=.returned (wv (rotr x 22))/\w=w':=gq x (-22) 10 w (by decide) (by omega) (by omega)
theorem rot25(x:W)(w:World):Calls prog 185 #[wv x,.int .i64 (-25)] w fun e w'=>e=.returned (wv (rotr x 25))/\w=w':=gq x (-25) 7 w (by decide) (by omega) (by omega)
theorem cz(x:W)(n:Nat)(w:World)(h0:0 < n)(hn:n < 32) :
  Calls prog 256 #[wv x,n] w fun e w'=>e=.returned (wv (rotr x n))/\Kept [] w w':=by
 have b:=pu x (32 - n);have h:=sl x n;have g:=or_w (x >>> n) (x <<< (32 - n));have j:x >>> n |||x <<< (32 - n)=rotr x n:=rfl;rw[j]at g
 have l:(32:Int) - (n:Int)=((32 - n:Nat):Int):=by omega
 generalize k:32 - n=t at b g l
 have i:t < 32:=by omega
 rw[Int.natCast_pow]at b h;obtain⟨X,a⟩:=nm x.toNat;obtain⟨A,f⟩:=nm ((x <<< t).toNat);obtain⟨C,d⟩:=nm ((x >>> n).toNat);obtain⟨R,c⟩:=nm ((rotr x n).toNat)
 unfold wv
 rw[a,f]at b;rw[a,d]at h;rw[f,d,c]at g;rw[a,c];clear a f d c j k;simp only[Int.cast_ofNat_Int]at b h
 go_enter func256,ntmps256
 go_wp2_with fail
 go_region
 go_wp2_with fail;go_ret;exact⟨rfl,kr.drewN _⟩
def wvs(l:List W):List Value:=l.map wv
theorem rN(w:World):Calls prog 241 #[] w fun e w'=>e=.returned (.slice (some ⟨w.heap.size,0,none⟩) 8 8)/\w'=w.alloc (.cells (wvs first.list).toArray 145):=by
 go_enter func241,ntmps241
 go_wp2_with fail;go_ret;exact⟨rfl,rfl⟩
theorem xD(w:World):Calls prog 255 #[] w fun e w'=>e=.returned (.slice (some ⟨w.heap.size,0,none⟩) 64 64)/\w'=w.alloc (.cells (wvs kTab).toArray 145):=by
 go_enter func255,ntmps255
 go_wp2_with fail;go_ret;exact⟨rfl,by kernel_rfl⟩
theorem uw(w:World):Calls prog 143 #[] w fun e w'=>e=.returned (.agg (wvs first.list).toArray)/\Kept [] w w':=by
 go_enter func143,ntmps143
 go_wp2_with fail;refine bodyPost_ret (v:=.agg (wvs first.list).toArray) (by simp[results,results143,go_sem];rfl) rfl ⟨rfl,?_⟩;exact(kr.alloc _)
theorem lT:(prog.info? 219).map (·.size)=some 64:=by kernel_rfl
theorem Kept.setRow{S:List Nat}{w w':World}(h:Kept S w w'){g:Nat}(hg:g∈S\/w.heap.size<=g)(cs:Array Value):Kept S w (w'.setRow g cs) := ⟨h.os,h.tape,h.output,by simpa [World.setRow]using h.size,fun k hk hS=>(setRow_other w' g k cs (fun e=>by rcases hg with hp|hp;exact hS (e▸hp);omega)).trans (h.block k hk hS)⟩
theorem Blk.setRow{w:World}{b:Nat}{T:TypeId}{cs cs':Array Value}(h:Blk w b T cs):Blk (w.setRow b cs') b T cs':=setRow_heap w b cs cs' T (0,0) h
theorem th(w:World):Calls prog 184 #[] w fun e w'=>e=.returned (.agg (wvs kTab).toArray)/\Kept [] w w':=by
 go_enter func184,ntmps184
 go_upto_region 1 with(fail)
 go_wp2_with (first
  |(refine wpList_build rfl _ _ rfl (by kernel_rfl) ?_)
  |(refine wpList_store_row rfl _ _ _ rfl w.heap.size (wvs kTab).toArray rfl (by kernel_rfl) 219 _ (heap_alloc_new w _) lT (by kernel_rfl) (by kernel_rfl) ?_))
 refine bodyPost_ret (v:=.agg (wvs kTab).toArray) (results_cell_row results184 _ _ w.heap.size 219 _ (0,0) _ rfl (setRow_heap _ _ _ _ _ _ (heap_alloc_new w _)) underlying219 rfl lT) rfl ⟨rfl,?_⟩;exact(kr.alloc _).setRow (Or.inr (Nat.le_refl _)) _
end Go.Proofs.YtcidfldeiklcjaaGreatDoor
