import Derived.Test.YtcidfldeiklcjaaGreatDoorSnt
set_option maxRecDepth 100000
set_option maxHeartbeats 32000000
namespace Go.Proofs.YtcidfldeiklcjaaGreatDoor
open Go.RowKit Tm
open Go.Proofs.Tryz
open Lib(hid)
def fewB(e:Ent):Bool:=decide (e.nums.length<=34)&&decide (e.text.length<=12000)
theorem rP(v:Value)(s:Stp)(w:World)(h:StpV w v s):Calls prog 47 #[v] w fun e w'=>e=.returned (.bool (decide (s.bases.length<=9)))/\Kept [] w w':=by
 obtain⟨⟨ad,sc,rfl,hsr⟩,_,_,_,_,_⟩:=h;obtain⟨_,hl,_,_,_,_,_⟩:=hsr;obtain⟨n,hn⟩:=nm s.bases.length;have HN:=hid hn
 unfold stpA
 rw[hn]at hl ⊢;clear hn
 by_cases h9:n<=9
 ·have hd:decide (n<=9)=true:=by simp[h9]
  rw[hd]
  go_enter func47,ntmps47
  go_wp2;go_ret;exact⟨by simp;omega,kr.alloc _⟩
 ·have hd:decide (n<=9)=false:=by simp[h9]
  rw[hd]
  go_enter func47,ntmps47
  go_wp2;go_ret;exact⟨by simp;omega,kr.alloc _⟩
theorem oM(e:Ent)(a:Option Addr)(c:Nat)(w:World)(h4:e.nums.length<=9223372036854775807)(h5:e.text.length<=9223372036854775807) :
  Calls prog 48 #[.agg #[e.gate,e.no,e.time,e.kind,.slice a e.nums.length c,e.text,e.c,e.s]] w fun en w'=>en=.returned (.bool (fewB e))/\Kept [] w w':=by
 unfold fewB
 by_cases h1:e.nums.length<=34
 ·have b:decide (e.nums.length<=34)=true:=decide_eq_true h1
  by_cases h2:e.text.length<=12000
  ·have d:decide (e.text.length<=12000)=true:=decide_eq_true h2;rw[b,d]
   go_enter func48,ntmps48
   go_wp2;go_ret;exact⟨by simp;omega,kr.alloc _⟩
  ·have d:decide (e.text.length<=12000)=false:=decide_eq_false h2;rw[b,d]
   go_enter func48,ntmps48
   go_wp2;go_ret;exact⟨by simp;omega,kr.alloc _⟩
 ·have b:decide (e.nums.length<=34)=false:=decide_eq_false h1;rw[b,Bool.false_and]
  go_enter func48,ntmps48
  go_wp2;go_ret;exact⟨by simp,kr.alloc _⟩
def fewL(l:List Ent)(m:Nat):Bool:=decide (l.length<=m)&&l.all fewB
theorem lX(v:Value)(l:List Ent)(m:Nat)(w:World)(h:aU w v l)(hI:∀e∈l,e.nums.length<=9223372036854775807/\e.text.length<=9223372036854775807)(hm:m<=1000) :
  Calls prog 22 #[v,m] w fun en w'=>en=.returned (.bool (fewL l m))/\Kept [] w w':=by
 obtain⟨aa,ca,rfl,D,_⟩:=ag.form h;have Z:=hid h;have HI:=hid hI;have o:Hid (fewL l m=(decide (l.length<=m)&&l.all fewB)):=rfl
 generalize a:fewL l m=R at o ⊢
 clear a h hI
 go_enter func22,ntmps22
 go_wp2_with fail
 go_loopw [5] (fun vi wr=>∃k:Nat,k<=l.length/\k<=m+1/\vi=k/\Hid (∀e∈l.take k,fewB e=true)/\Hid (Kept [] w wr)) (fun vi _=>l.length - (intOf vi).toNat)
 case atStart=>exact⟨0,by omega,by omega,rfl,hid (by simp),hid kr⟩
 case round =>
  obtain⟨k,F,E,rfl,t,n⟩:=hrel
  by_cases hkn:k < l.length
  ·by_cases hk2:k<=m
   ·obtain⟨xb,xo,xc,d,_,g⟩:=Z.out.at_ (by omega);injection d with d _ hx3;subst d hx3;obtain⟨u,z,c⟩:=g k hkn;have c:=c.kept n;obtain⟨M,L,rfl,_,_⟩:=z.form;have f:=HI _ (List.getElem_mem hkn);have y:=hid (oM l[k] M L wr f.1 f.2)
    have s:Hid (fewB l[k]=true->∀e∈l.take (k+1),fewB e=true):=fun h e j=>by
     rw[List.take_succ_eq_append_getElem hkn,List.mem_append,List.mem_singleton]at j
     rcases j with j|rfl
     ·exact t e j
     ·exact h
    have r:Hid (fewB l[k]=false->l.all fewB=false):=fun h=>by
     rw[List.all_eq_false];exact⟨_,List.getElem_mem hkn,by simp[h]⟩
    generalize C:l[k]=x at y s r c
    obtain⟨Y,X,V,U,T,Q,P,O⟩:=c
    generalize I:fewB x=b at y s r
    have q:(k:Int)<=(m:Int):=by omega
    clear C I g z f;go_wp2_with (go_at_call 48;with_reducible refine y.out.mono ?_)
    first|(rintro e B rfl p)|(rintro e B ⟨rfl,p⟩)
    have i:=hid (n.trans p);clear Y X V U T Q P O p
    cases b
    ·have a:=o.out;rw[r.out (by trivial),Bool.and_false]at a;subst a;go_wp2_with fail;go_ret;exact⟨rfl,i⟩
    ·go_wp2_with fail
     go_roundw
     case rel=>exact⟨k+1,by omega,by omega,by go_num,hid (s.out (by trivial)),i⟩
     case measure=>simp[intOf];omega
   ·have a:=o.out
    have J:¬l.length<=m:=by omega
    have N:decide (l.length<=m)=false:=decide_eq_false J;rw[N,Bool.false_and]at a;subst a
    have q:¬(k:Int)<=(m:Int):=by omega
    have G:¬(l.length:Int)<=(m:Int):=by omega
    go_wp2_with fail;go_ret;exact⟨by simp,n.out⟩
  ·obtain rfl:k=l.length:=by omega
   have a:=o.out
   have A:l.all fewB=true:=by
    have:=t.out;rw[List.take_length]at this;exact List.all_eq_true.2 this
   rw[A,Bool.and_true]at a;subst a;clear A t;go_wp2_with fail;go_ret;exact⟨by simp,n.out⟩
theorem oN(v:Value)(s:Stp)(w:World)(h:StpV w v s):Calls prog 21 #[v,()] w fun e w'=>e=.returned (.bool (decide (s.bases.length<=9)))/\Kept [] w w':=by
 have h':=h;obtain⟨⟨j,i,rfl,b⟩,_,_,_,_,_⟩:=h';obtain⟨W,c⟩:=nm (w.alloc (.cells (stpA s (.slice j s.bases.length i)) 26));have g:=bn c;have a:=ka (S:=[]) c;have k:=hid (rP _ s W (h.kept a));obtain⟨q,p,o,n,m⟩:=bc5 g rfl;have t:=hid c;have d:=hid a
 generalize r:decide (s.bases.length<=9)=R at k ⊢
 clear c g b a h r
 show Calls _ _ #[.agg #[s.P,s.Q,s.G,.slice j s.bases.length i,s.blind],_] _ _
 go_enter func21,ntmps21
 go_upto_region 1 with(fail)
 erw[t.out]
 go_wp2_with fail;refine wp_loop_rounds 1 ?_;rw[rounds_succ];go_wp2_with (go_at_call 47;with_reducible refine k.out.mono ?_)
 first|(rintro e l rfl f)|(rintro e l ⟨rfl,f⟩)
 clear q p o n m;go_wp2_with fail;go_ret;exact⟨rfl,d.trans f⟩
def fewT(s:Stp)(keys:List Int)(l:List Ent)(ats:List Int):Bool:=decide (s.bases.length<=9)&&(fewL l 9&&(decide (keys.length<=24)&&decide (ats.length<=12)))
theorem oL(vs:Value)(s:Stp)(keys:List Int)(l:List Ent)(ats:List Int)(ka aa ta:Option Addr)(kc ca tc:Nat)(w:World)(hs:StpV w vs s)(hk:keys.length<=9223372036854775807)(ht:ats.length<=9223372036854775807)(ha:aU w (.slice aa l.length ca) l)(hI:∀e∈l,e.nums.length<=9223372036854775807/\e.text.length<=9223372036854775807) :
  Calls prog 7 #[vs,.slice ka keys.length kc,.slice aa l.length ca,.slice ta ats.length tc] w fun e w'=>e=.returned (.bool (fewT s keys l ats))/\Kept [] w w':=by
 have hs':=hs;obtain⟨⟨x,v,rfl,j⟩,_,_,_,_,_⟩:=hs';obtain⟨W,o⟩:=nm (w.alloc (.cells (stpA s (.slice x s.bases.length v)) 26));have A:=bn o;have b:Kept [] w W:=o▸kr.alloc _;have C:=hid (oN _ s W (hs.kept b));have B:Hid (∀w',Kept [] W w'->Calls prog 22 #[.slice aa l.length ca,.int .i64 9] w' fun e w2=>e=.returned (.bool (fewL l 9))/\Kept [] w' w2):=fun w' k=>lX _ l 9 w' (ha.kept (b.trans k)) hI (by omega);obtain⟨L,J,I,F,E⟩:=bc5 A rfl;have O:=hid o;have m:=hid b;have n:Hid (fewT s keys l ats=(decide (s.bases.length<=9)&&(fewL l 9&&(decide (keys.length<=24)&&decide (ats.length<=12))))):=rfl;obtain⟨R,a⟩:=nm (fewT s keys l ats);obtain⟨N,g⟩:=nm (decide (s.bases.length<=9));obtain⟨M,f⟩:=nm (fewL l 9);rw[a,g,f]at n;rw[a];rw[g]at C;rw[f]at B;clear o A j b hs ha hI a g f;obtain⟨t,d⟩:=nm keys.length;obtain⟨r,c⟩:=nm ats.length;rw[d,c]at n ⊢;rw[d]at hk;rw[c]at ht;clear d c
 show Calls _ _ #[.agg #[s.P,s.Q,s.G,.slice x s.bases.length v,s.blind],_,_,_] _ _
 go_enter func7,ntmps7
 go_upto_region 1 with(fail);have hW':w.alloc (.cells #[s.P,s.Q,s.G,.slice x s.bases.length v,s.blind] 26)=W:=O.out;rw[hW'];clear hW';go_wp2_with (go_at_call 21;with_reducible refine C.out.mono ?_)
 first|(rintro e z rfl i)|(rintro e z ⟨rfl,i⟩)
 clear L J I F E
 cases N
 ·have a:=n.out;rw[Bool.false_and]at a;subst a;go_wp2_with fail;go_ret;exact⟨rfl,m.trans i⟩
 have y:=hid (B z i);have q:=hid (m.trans i);clear i;go_wp2_with (go_at_call 22;with_reducible refine y.out.mono ?_)
 first|(rintro e D rfl h)|(rintro e D ⟨rfl,h⟩)
 cases M
 ·have a:=n.out;rw[Bool.true_and,Bool.false_and]at a;subst a;go_wp2_with fail;go_ret;exact⟨rfl,q.trans h⟩
 have a:=n.out;rw[Bool.true_and,Bool.true_and]at a
 by_cases h1:t<=24
 ·have p:decide (t<=24)=true:=decide_eq_true h1
  by_cases h2:r<=12
  ·have u:decide (r<=12)=true:=decide_eq_true h2;rw[p,u]at a;subst a;go_wp2_with fail;go_ret;exact⟨by simp;omega,q.out.trans h⟩
  ·have u:decide (r<=12)=false:=decide_eq_false h2;rw[p,u]at a;subst a;go_wp2_with fail;go_ret;exact⟨by simp;omega,q.out.trans h⟩
 ·have p:decide (t<=24)=false:=decide_eq_false h1;rw[p,Bool.false_and]at a;subst a;go_wp2_with fail;go_ret;exact⟨by simp,q.out.trans h⟩
end Go.Proofs.YtcidfldeiklcjaaGreatDoor
namespace Go.Proofs.YtcidfldeiklcjaaGreatDoor
open Go.RowKit Tm Bf
structure EntJ (e:Ent):Prop where
 h0:Wire.I64 e.gate
 h1:Wire.I64 e.no
 h2:Wire.I64 e.time
 h3:Wire.I64 e.kind
 h4:∀x∈e.nums,Wire.I64 x
 h5:Wire.I64 e.c
 h6:Wire.I64 e.s
 l4:e.nums.length<=9223372036854775807
 l5:e.text.length<=9223372036854775807
theorem xd{e:Ent}(h:EntJ e)(hf:fewB e=true):EntI e:=by
 unfold fewB at hf
 simp only[Bool.and_eq_true,decide_eq_true_eq]at hf;exact⟨h.h0,h.h1,h.h2,h.h3,h.h4,h.h5,h.h6,by omega,by omega⟩
theorem wY{l:List Ent}{m:Nat}(hJ:∀e∈l,EntJ e)(h:fewL l m=true):l.length<=m/\∀e∈l,EntI e:=by
 unfold fewL at h
 rw[Bool.and_eq_true,decide_eq_true_eq,List.all_eq_true]at h;exact⟨h.1,fun e he=>xd (hJ e he) (h.2 e he)⟩
theorem ye{s:Stp}{xs:List Int}{e:Ent}(h:EntI e):EntI (gk s xs e):=by
 unfold gk
 split
 ·split
  ·next h2 =>
   refine fZ h ?_
   unfold sealOk at h2
   rw[Bool.and_eq_true]at h2;obtain⟨q,hok,_⟩:=bS (dS h2.1).2.1;have h3:=hok.hq;have h4:s.Q=q:=hok.hQ;omega
  ·exact h
 ·exact h
theorem yd{s:Stp}{xs:List Int}{l:List Ent}(h:∀e∈l,EntI e):∀e∈sealL s xs l,EntI e:=fun e he=>by
 obtain⟨x,hx,rfl⟩:=List.mem_map.1 he;exact ye (h x hx)
theorem zB{s:Stp}{xs:List Int}:∀x∈pubL s xs,Wire.I64 x:=fun x hx=>by
 obtain⟨y,_,rfl⟩:=List.mem_map.1 hx
 unfold pubN
 split
 ·next h =>
  have h1:aw s=true:=by
   rw[Bool.and_eq_true]at h;exact h.1
  obtain⟨q,hok,_⟩:=bS h1;have h3:=hok.hq;have h4:s.Q=q:=hok.hQ;have h5:pwrN s.Q.toNat s.G y < 2*s.Q.toNat+1:=Nat.mod_lt _ (by omega);exact⟨by omega,by omega⟩
 ·exact⟨by decide,by decide⟩
end Go.Proofs.YtcidfldeiklcjaaGreatDoor
namespace Go.Proofs.YtcidfldeiklcjaaGreatDoor
open Go.RowKit
open Go.Proofs.Tryz
theorem gR(P Q G x:Int)(q:Nat)(w:World)(hok:GrpOk P Q G q)(hg:cH q G=true)(hx:Wire.I64 x) :
  Calls prog 154 #[.agg (grpV P Q G),x] w fun e w'=>e=.returned (.bool (memB q x))/\Kept [] w w':=by
 have u:=hok.hq;have v:=hok.h5;have b:=hok.hP
 have A:Wire.I64 P:=by rw[hok.hP];exact⟨by omega,by omega⟩
 have z:Wire.I64 Q:=by rw[hok.hQ];exact⟨by omega,by omega⟩
 have B:Wire.I64 G:=by have:=hok.hG;have:=hok.hGP;exact⟨by omega,by omega⟩
 obtain⟨W,g⟩:=nm (w.alloc (.cells (grpV P Q G) 23));have j:=bn g;have a:=ka (S:=[]) g;obtain⟨p,o,n⟩:=bH3 j rfl;have m:=p W kr;have l:=o W kr;have k:=n W kr;have i:=Lib.hid g;have h:=fh P Q G W A z B;rw[hok.eq,hg]at h;have E:=Lib.hid h;have s:=Lib.hid fun(w':World)=>jG P Q G x q w' hok hx;clear g j h
 by_cases c1:1<=x
 case neg =>
  have r:memB q x=false:=by unfold memB;rw[decide_eq_false c1];rfl
  rw[r];have D:decide (1<=x)=false:=decide_eq_false c1;clear b
  go_enter func154,ntmps154
  go_wp2_with fail;rw[i.out];go_wp2_with fail;go_ret;exact⟨rfl,a⟩
 have D:decide (1<=x)=true:=decide_eq_true c1
 by_cases c2:x < P
 case neg =>
  have r:memB q x=false:=by unfold memB;rw[decide_eq_false (show ¬x < ((2*q+1:Nat):Int)by omega)];simp
  rw[r];have C:decide (x < P)=false:=decide_eq_false c2;clear b
  go_enter func154,ntmps154
  go_wp2_with fail;rw[i.out];go_wp2_with fail;go_ret;exact⟨rfl,a⟩
 have C:decide (x < P)=true:=decide_eq_true c2
 generalize y:memB q x=c at s ⊢
 clear b y
 go_enter func154,ntmps154
 go_wp2_with fail;rw[i.out];go_wp2_with (go_at_call 60;with_reducible refine E.out.mono ?_);rintro e d ⟨rfl,f⟩;clear m l k;have m:=p d f;have l:=o d f;have k:=n d f;go_wp2_with (go_at_call 100;with_reducible refine(s.out d).mono ?_);rintro e F ⟨rfl,t⟩;go_wp2_with fail;go_ret;exact⟨rfl,a.trans (f.trans t)⟩
open Tape Tm
open Lib(hid)
theorem bF(n lo hi:Int)(w:World):Calls prog 29 #[n,lo,hi] w fun e w'=>e=.returned (.bool (inB n lo hi))/\w=w':=by
 unfold inB
 by_cases h1:lo<=n
 ·have d1:decide (lo<=n)=true:=by simpa using h1
  go_enter func29,ntmps29
  go_wp2_with fail;go_ret;exact⟨by simp[h1],rfl⟩
 ·have d1:decide (lo<=n)=false:=by simpa using h1
  go_enter func29,ntmps29
  go_wp2_with fail;go_ret;exact⟨by simp,rfl⟩
theorem vA(a b c d:Int)(v:Value)(l:List Int)(w:World)(hv:Row w 1 v l.length (ints l)) :
  Calls prog 190 #[v,a,b,c,d] w fun en w'=>en=.returned (.bool (twoB l a b c d))/\w=w':=by
 obtain⟨s,r,rfl,_,_⟩:=hv.form
 generalize i:l.length=n at hv ⊢
 by_cases h2:n=2
 ·obtain⟨x,y,f⟩:=uQ (i.trans h2);obtain⟨z,u,rfl,q,p⟩:=fp hv f h2;subst h2;rw[f,si];have j:=hid (bF x a b w);have m:=hid (bF y c d w);obtain⟨o,h⟩:=nm (inB x a b);obtain⟨t,g⟩:=nm (inB y c d);rw[h]at j ⊢;rw[g]at m ⊢;clear h g f i hv
  cases o
  ·go_enter func190,ntmps190
   go_wp2_with (go_at_call 29;with_reducible refine j.out.mono ?_;rintro e k ⟨rfl,rfl⟩);go_ret;exact⟨rfl,rfl⟩
  ·go_enter func190,ntmps190
   go_wp2_with (go_at_call 29;with_reducible refine j.out.mono ?_);rintro e k ⟨rfl,rfl⟩;go_wp2_with (go_at_call 29;with_reducible refine m.out.mono ?_);rintro e k ⟨rfl,rfl⟩;go_wp2_with fail;go_ret;exact⟨rfl,rfl⟩
 ·have h2':((n:Int) != 2)=true:=by simp;omega
  rw[sf (by rw[i];exact h2)];clear h2 hv i
  go_enter func190,ntmps190
  go_wp2_with fail;go_ret;exact⟨rfl,rfl⟩
theorem og(vs v:Value)(s:Stp)(l:List Int)(w:World)(hs:StpV w vs s)(hq1:1<=s.Q)(hq2:s.Q < 9223372036854775808)(hv:Row w 1 v l.length (ints l))(hl:l.length<=100000000) :
  Calls prog 189 #[vs,v] w fun e w'=>e=.returned (.bool (dD s l))/\Kept [] w w':=by
 obtain⟨⟨T,c,rfl,B⟩,ip,iq,ig,ib,il⟩:=hs;obtain⟨aa,cc,rfl,_,a5⟩:=hv.form;obtain⟨W,O⟩:=nm (w.alloc (.cells (stpA s (.slice T s.bases.length c)) 26));have hb:Blk W w.heap.size 26 (stpA s (.slice T s.bases.length c)):=O▸Blk.new _ _ _;have f:Kept [] w W:=O▸kr.alloc _;obtain⟨S0,S1,S2⟩:=bH3 hb rfl;have HV:=hid (hv.kept f);have HW:=hid O;have r:=hid f
 have wq:IntKind.i64.wrap (s.Q - 1)=s.Q - 1:=by rw[IntKind.wrap_i64];omega
 obtain⟨R,Y⟩:=nm (bK l 16 (fun n=>inB n 1 (s.Q - 1)));have m:=hid Y
 show Calls _ _ #[.agg #[s.P,s.Q,s.G,.slice T s.bases.length c,s.blind],_] w fun e w'=>e=.returned (.bool (bK l 16 (fun n=>inB n 1 (s.Q - 1))))/\_
 rw[Y];clear O hb B f hv Y ib
 go_enter func189,ntmps189
 go_upto_region 1 with(fail);have hW':w.alloc (.cells #[s.P,s.Q,s.G,.slice T s.bases.length c,s.blind] 26)=W:=HW.out;rw[hW'];clear hW';go_wp2_with fail
 go_loopw [5] (fun vi wr=>∃k:Nat,k<=l.length/\vi=k/\Hid (∀j (hj:j < l.length),j < k->inB l[j] 1 (s.Q - 1)=true)/\Hid ((l.take k).Nodup)/\Hid (Kept [] W wr)) (fun vi _=>l.length - (intOf vi).toNat)
 case atStart=>exact⟨0,Nat.zero_le _,rfl,fun j _ hj=>by omega,by simp[Hid],kr⟩
 case round =>
  obtain⟨k,hk,rfl,HM,HN,y⟩:=hrel
  by_cases hlt:k < l.length
  ·obtain⟨ba,oa,rfl,I⟩:=(HV.out.kept y.out).at_ (by omega);have u:Hid (∀j (hj:j < l.length) w',Kept [] wr w'->w'.cell? ⟨ba,oa+j,none⟩=some (.int .i64 l[j])):=fun j hj=>Kept.cellOf (I j _ (aL hj));obtain⟨A,rfl⟩:∃x,x=wr:=⟨_,rfl⟩;have HT:Hid (inB l[k] 1 (s.Q - 1)=inB l[k] 1 (s.Q - 1)):=rfl;have J:Hid (inB l[k] 1 (s.Q - 1)=false->R=false):=fun h=>m.symm.trans (dB (p:=fun n=>inB n 1 (s.Q - 1)) hlt h);have M:Hid (l[k]∈l.take k->R=false):=fun h=>m.symm.trans (dC hlt h);have L:Hid (¬l[k]∈l.take k->(l.take (k+1)).Nodup):=fun h=>dO hlt HN h
   have N:Hid (inB l[k] 1 (s.Q - 1)=true->∀j (hj:j < l.length),j < k+1->inB l[j] 1 (s.Q - 1)=true):=fun h j hj hjk=>by
    rcases Nat.lt_or_ge j k with h1|h1
    ·exact HM j hj h1
    ·obtain rfl:j=k:=by omega
     exact h
   have o:Hid (¬l[k]∈l.take k↔∀i (b:i < l.length),i < k->l[i]≠l[k]):=by
    constructor
    ·intro h i b a4 X;refine h ?_;rw[<-X];rw[List.mem_take_iff_getElem];exact⟨i,by omega,rfl⟩
    ·intro h D;rw[List.mem_take_iff_getElem]at D;obtain⟨i,b,X⟩:=D;exact h i (by omega) (by omega) X
   have g:Hid (∀q,Calls prog 29 #[.int .i64 l[k],.int .i64 1,.int .i64 (s.Q - 1)] (A.drewN q) fun e w'=>e=.returned (.bool (inB l[k] 1 (s.Q - 1)))/\A.drewN q=w'):=fun q=>bF _ _ _ _;have xa:=u k hlt _ kr;have x1:=S1.out _ y;obtain⟨t,ht⟩:=nm (inB l[k] 1 (s.Q - 1));obtain⟨x,U⟩:=nm (l[k]);rw[ht]at g J N;rw[U]at xa g M L o;have HX:=hid U;clear I ht U HT
   cases t
   ·obtain rfl:=J rfl;go_wp2_with fail
    go_quiet ((go_at_call 29;exact ev (g _)))
    go_wp2_with fail;go_ret;exact⟨rfl,(r.trans y).drewN _⟩
   go_wp2_with fail
   go_quiet ((go_at_call 29;exact ev (g _)))
   obtain⟨w4,d⟩:=nm (A.drewN nq);rw[d];have K4:Hid (Kept [] A w4):=d▸kr.drewN nq;clear xa x1 d;go_wp2_with fail
   go_loopw [6] (fun vi wr2=>∃j:Nat,j<=k/\vi=j/\Hid (∀i (b:i < l.length),i < j->l[i]≠x)/\Hid (Kept [] A wr2)) (fun vi _=>k - (intOf vi).toNat)
   case atStart=>exact⟨0,Nat.zero_le _,rfl,fun i _ b=>by omega,K4.out⟩
   case round =>
    obtain⟨j,hjk',rfl,HJ,a⟩:=hrel
    by_cases hjk:j < k
    ·have E:j < l.length:=by omega
     have y0:=u j E _ a;have y1:=u k hlt _ a;rw[HX.out]at y1
     generalize hz:l[j]=z at y0
     have HZ:=hid hz;clear hz
     by_cases hzx:z=x
     ·have D:¬ ∀i (b:i < l.length),i < k->l[i]≠x:=fun h=>h j E hjk (HZ.trans hzx);have C:x∈l.take k:=Classical.byContradiction fun h=>D (o.1 h);obtain rfl:=M C;subst hzx;clear D C;go_wp2_with fail
      go_quiet (fail)
      go_wp2_with fail;go_ret;exact⟨rfl,(r.trans (y.trans a)).drewN _⟩
     ·have hzx':(z==x)=false:=by simpa using hzx
      have a3:Hid (∀i (b:i < l.length),i < j+1->l[i]≠x):=fun i b hij=>by
       rcases Nat.lt_or_ge i j with h|h
       ·exact HJ i b h
       ·obtain rfl:i=j:=by omega
        rw[HZ.out];exact hzx
      clear hzx;go_wp2_with fail
      go_quiet (fail)
      go_wp2_with fail
      go_roundw
      case rel=>exact⟨j+1,by omega,by go_num,a3,a.out.drewN _⟩
      case measure=>simp[intOf];omega
    ·have F:j=k:=by omega
     subst F;have a0:=hid (L (o.2 HJ));have a1:=hid (N (by trivial));have a2:=hid (y.trans a);go_wp2_with fail
     go_roundw
     case rel=>exact⟨j+1,by omega,by go_num,a1,a0,a2⟩
     case measure=>simp[intOf];omega
  ·have hk':Hid (k=l.length):=hid (by omega);have V:=HN.out;rw[hk'.out,List.take_length]at V;have Z:=m.out;rw[eh (fun j hj=>HM.out j hj (by have:=hk'.out;omega)) V]at Z;have g:=hid (bF (l.length:Int) 1 16 wr);rw[Z]at g;clear V Z;go_wp2_with (go_at_call 29;refine g.mono ?_);rintro e w2 ⟨rfl,rfl⟩;go_wp2_with fail;go_ret;exact⟨rfl,r.trans y⟩
theorem re(vs v:Value)(s:Stp)(l:List Int)(w:World)(hs:StpV w vs s)(q:Nat)(hok:GrpOk s.P s.Q s.G q)(hgn:cH q s.G=true)(hi:∀x∈l,Wire.I64 x)(hv:Row w 1 v l.length (ints l))(hl:l.length<=100000000) :
  Calls prog 191 #[vs,v] w fun e w'=>e=.returned (.bool (dA s l))/\Kept [] w w':=by
 obtain⟨⟨Z,c,rfl,C⟩,ip,iq,ig,ib,il⟩:=hs;obtain⟨aa,cc,rfl,_,a7⟩:=hv.form;obtain⟨W,Y⟩:=nm (w.alloc (.cells (stpA s (.slice Z s.bases.length c)) 26));have hb:Blk W w.heap.size 26 (stpA s (.slice Z s.bases.length c)):=Y▸Blk.new _ _ _;have m:Kept [] w W:=Y▸kr.alloc _;obtain⟨S0,S1,S2⟩:=bH3 hb rfl;have HV:=hid (hv.kept m);have HW:=hid Y;have d:=hid m
 have D:s.Q.toNat=q:=by have:=hok.hQ;omega
 have EL:Hid (∀x,Wire.I64 x->∀w',Calls prog 154 #[.agg #[s.P,s.Q,s.G],x] w' fun e w2=>e=.returned (.bool (memB s.Q.toNat x))/\Kept [] w' w2):=fun x B w'=>by
  rw[D];exact gR s.P s.Q s.G x q w' hok hgn B
 have HI:=hid hi;obtain⟨R,hR⟩:=nm (bK l 32 (othB s.Q.toNat));have n:=hid hR
 show Calls _ _ #[.agg #[s.P,s.Q,s.G,.slice Z s.bases.length c,s.blind],_] w fun e w'=>e=.returned (.bool (bK l 32 (othB s.Q.toNat)))/\_
 rw[hR];clear Y hb C m hv hR ib hok hgn hi D
 go_enter func191,ntmps191
 go_upto_region 1 with(fail);have hW':w.alloc (.cells #[s.P,s.Q,s.G,.slice Z s.bases.length c,s.blind] 26)=W:=HW.out;rw[hW'];clear hW';go_wp2_with fail
 go_loopw [5] (fun vi wr=>∃k:Nat,k<=l.length/\vi=k/\Hid (∀j (hj:j < l.length),j < k->othB s.Q.toNat l[j]=true)/\Hid ((l.take k).Nodup)/\Hid (Kept [] W wr)) (fun vi _=>l.length - (intOf vi).toNat)
 case atStart=>exact⟨0,Nat.zero_le _,rfl,fun j _ hj=>by omega,by simp[Hid],kr⟩
 case round =>
  obtain⟨k,hk,rfl,HM,HN,f⟩:=hrel
  by_cases hlt:k < l.length
  ·obtain⟨ba,oa,rfl,M⟩:=(HV.out.kept f.out).at_ (by omega);have u:Hid (∀j (hj:j < l.length) w',Kept [] wr w'->w'.cell? ⟨ba,oa+j,none⟩=some (.int .i64 l[j])):=fun j hj=>Kept.cellOf (M j _ (aL hj));obtain⟨g,rfl⟩:∃x,x=wr:=⟨_,rfl⟩;have HT:Hid (othB s.Q.toNat l[k]=othB s.Q.toNat l[k]):=rfl;have o:Hid (othB s.Q.toNat l[k]=false->R=false):=fun h=>n.symm.trans (dB (p:=othB s.Q.toNat) hlt h);have T:Hid (l[k]∈l.take k->R=false):=fun h=>n.symm.trans (dC hlt h);have O:Hid (¬l[k]∈l.take k->(l.take (k+1)).Nodup):=fun h=>dO hlt HN h
   have U:Hid (othB s.Q.toNat l[k]=true->∀j (hj:j < l.length),j < k+1->othB s.Q.toNat l[j]=true):=fun h j hj hjk=>by
    rcases Nat.lt_or_ge j k with h1|h1
    ·exact HM j hj h1
    ·obtain rfl:j=k:=by omega
     exact h
   have r:Hid (¬l[k]∈l.take k↔∀i (hi:i < l.length),i < k->l[i]≠l[k]):=by
    constructor
    ·intro h i hi a6 he;refine h ?_;rw[<-he];rw[List.mem_take_iff_getElem];exact⟨i,by omega,rfl⟩
    ·intro h F;rw[List.mem_take_iff_getElem]at F;obtain⟨i,hi,he⟩:=F;exact h i (by omega) (by omega) he
   have V:=hid (HI l[k] (List.getElem_mem hlt));obtain⟨t,b⟩:=nm (othB s.Q.toNat l[k]);obtain⟨x,B⟩:=nm (l[k])
   have N:Hid (((x != 1)&&memB s.Q.toNat x)=t):=by rw[<-B];exact b
   have xa:=u k hlt _ kr;rw[b]at o U;rw[B]at xa T O r V;have HX:=hid B;have EX:=hid (EL x V);clear M b B HT
   by_cases hx1:x=1
   ·subst hx1;have b:false=t:=N.out;obtain rfl:=o b.symm;clear b;go_wp2_with fail
    go_quiet (fail)
    go_wp2_with fail;go_ret;exact⟨rfl,(d.trans f).drewN _⟩
   have a5:(x==1)=false:=by simpa using hx1
   have b:memB s.Q.toNat x=t:=by have:=N.out;rwa [show(x != 1)=true by simpa using hx1,Bool.true_and]at this
   have A:=EX.out;rw[b]at A;have X:=hid A;have g0:∀y:KW g,y.val.cell? ⟨w.heap.size,0,none⟩=some (.int .i64 s.P):=fun y=>y.cell (S0.out _ f);have g1:∀y:KW g,y.val.cell? ⟨w.heap.size,1,none⟩=some (.int .i64 s.Q):=fun y=>y.cell (S1.out _ f);have g2:∀y:KW g,y.val.cell? ⟨w.heap.size,2,none⟩=some (.int .i64 s.G):=fun y=>y.cell (S2.out _ f);have xk:∀y:KW g,y.val.cell? ⟨ba,oa+k,none⟩=some (.int .i64 x):=fun y=>y.cell xa;clear xa hx1 b EX A
   cases t
   ·obtain rfl:=o rfl;go_wp2_with fail;refine ax g kr (by kernel_rfl) (by kernel_rfl) ?_
    repeat (go_big_quiet_step (first|(go_at_call 154;exact aA (X _))))
    refine wpQuiet_nil ?_;rintro w5 ⟨⟨_,a0⟩,rfl⟩;go_wp2_with fail;go_ret;exact⟨rfl,(d.trans f).trans a0⟩
   go_wp2_with fail;refine ax g kr (by kernel_rfl) (by kernel_rfl) ?_
   repeat (go_big_quiet_step (first|(go_at_call 154;exact aA (X _))))
   refine wpQuiet_nil ?_;rintro w4 ⟨⟨_,I⟩,rfl⟩;have K4:Hid (Kept [] g w4):=I;clear g0 g1 g2 xk I;go_wp2_with fail
   go_loopw [6] (fun vi wr2=>∃j:Nat,j<=k/\vi=j/\Hid (∀i (hi:i < l.length),i < j->l[i]≠x)/\Hid (Kept [] g wr2)) (fun vi _=>k - (intOf vi).toNat)
   case atStart=>exact⟨0,Nat.zero_le _,rfl,fun i _ hi=>by omega,K4.out⟩
   case round =>
    obtain⟨j,hjk',rfl,HJ,a⟩:=hrel
    by_cases hjk:j < k
    ·have J:j < l.length:=by omega
     have y0:=u j J _ a;have y1:=u k hlt _ a;rw[HX.out]at y1
     generalize hz:l[j]=z at y0
     have HZ:=hid hz;clear hz
     by_cases hzx:z=x
     ·have F:¬ ∀i (hi:i < l.length),i < k->l[i]≠x:=fun h=>h j J hjk (HZ.trans hzx);have E:x∈l.take k:=Classical.byContradiction fun h=>F (r.1 h);obtain rfl:=T E;subst hzx;clear F E;go_wp2_with fail
      go_quiet (fail)
      go_wp2_with fail;go_ret;exact⟨rfl,(d.trans (f.trans a)).drewN _⟩
     ·have hzx':(z==x)=false:=by simpa using hzx
      have a4:Hid (∀i (hi:i < l.length),i < j+1->l[i]≠x):=fun i hi hij=>by
       rcases Nat.lt_or_ge i j with h|h
       ·exact HJ i hi h
       ·obtain rfl:i=j:=by omega
        rw[HZ.out];exact hzx
      clear hzx;go_wp2_with fail
      go_quiet (fail)
      go_wp2_with fail
      go_roundw
      case rel=>exact⟨j+1,by omega,by go_num,a4,a.out.drewN _⟩
      case measure=>simp[intOf];omega
    ·have L:j=k:=by omega
     subst L;have a1:=hid (O (r.2 HJ));have a2:=hid (U (by trivial));have a3:=hid (f.trans a);go_wp2_with fail
     go_roundw
     case rel=>exact⟨j+1,by omega,by go_num,a2,a1,a3⟩
     case measure=>simp[intOf];omega
  ·have hk':Hid (k=l.length):=hid (by omega);have hn:=HN.out;rw[hk'.out,List.take_length]at hn;have hF:=n.out;rw[eh (fun j hj=>HM.out j hj (by have:=hk'.out;omega)) hn]at hF;have WI:=hid (bF (l.length:Int) 1 32 wr);rw[hF]at WI;clear hn hF;go_wp2_with (go_at_call 29;refine WI.mono ?_);rintro e w2 ⟨rfl,rfl⟩;go_wp2_with fail;go_ret;exact⟨rfl,d.trans f⟩
theorem py(vs ve:Value)(s:Stp)(q:Nat)(e:Ent)(w:World)(hs:StpV w vs s)(hok:GrpOk s.P s.Q s.G q)(hgn:cH q s.G=true)(he:EntA w ve e)(hi:EntI e)(hno:0<=e.no)(_hE:Env2 w) :
  Calls prog 151 #[vs,ve] w fun en w'=>en=.returned (.bool (bB s e))/\Kept [] w w':=by
 have hs':=hs;obtain⟨⟨F,c,rfl,J⟩,ip,iq,ig,ib,il⟩:=hs';obtain⟨u,rfl,l⟩:=he;obtain⟨v,r,rfl,_,_⟩:=l.form;obtain⟨W,N⟩:=nm ((w.alloc (.cells (stpA s (.slice F s.bases.length c)) 26)).alloc (.cells (entC e (.slice v e.nums.length r)).toArray 52));have hb:Blk W w.heap.size 26 (stpA s (.slice F s.bases.length c)):=N▸(Blk.new _ _ _).alloc _
 have U:Blk W (w.heap.size+1) 52 (entC e (.slice v e.nums.length r)).toArray:=by
  have:=Blk.new (w.alloc (.cells (stpA s (.slice F s.bases.length c)) 26)) 52 (entC e (.slice v e.nums.length r)).toArray;rw[N,World.size_alloc]at this;exact this
 have j:Kept [] w W:=N▸(kr.alloc _).alloc _;have a1:=hok.h5;have a0:=hok.hq;have hQ:=hok.hQ;have a2:=hi.l4
 have LE:Hid (Calls prog 189 #[.agg (stpA s (.slice F s.bases.length c)),.slice v e.nums.length r] W fun en w'=>en=.returned (.bool (dD s e.nums))/\Kept [] W w') :=
  og _ _ s e.nums W (hs.kept j) (by omega) (by omega) (l.kept j) (by omega)
 have MA:Hid (Calls prog 191 #[.agg (stpA s (.slice F s.bases.length c)),.slice v e.nums.length r] W fun en w'=>en=.returned (.bool (dA s e.nums))/\Kept [] W w') :=
  re _ _ s e.nums W (hs.kept j) q hok hgn hi.h4 (l.kept j) (by omega)
 have A:Hid (∀(a b c d:Int),Calls prog 190 #[.slice v e.nums.length r,a,b,c,d] W fun en w'=>en=.returned (.bool (twoB e.nums a b c d))/\W=w') :=
  fun a b c d=>vA a b c d _ e.nums W (l.kept j)
 obtain⟨s0,s1,s2,s3,s4⟩:=bc5 hb rfl;obtain⟨c0,c1,-,c3,c4⟩:=bc5 U rfl
 have wq:IntKind.i64.wrap (s.Q - 1)=s.Q - 1:=by rw[IntKind.wrap_i64];omega
 have L:=hi.h1
 have wn:IntKind.i64.wrap (e.no - 1)=e.no - 1:=by rw[IntKind.wrap_i64];unfold Wire.I64 at L;omega
 have X:=hid (l.kept j);have HW:=hid N
 have z:Hid (bB s e=if e.kind=0 then dD s e.nums else if e.kind=1 then twoB e.nums 0 2147483648 0 2147483648&&decide (nth e.nums 0<=nth e.nums 1)
  else if e.kind=2 then twoB e.nums 0 23 0 4095&&!decide (nth e.nums 0=e.gate)else if e.kind=3 then twoB e.nums 0 15 1 (s.Q - 1)else if e.kind=4 then decide (e.nums.length=1)&&inB (nth e.nums 0) 0 (e.no - 1)
  else if e.kind=5 then twoB e.nums 0 (e.no - 1) 1 100 else if e.kind=6 then dA s e.nums else false):=rfl
 generalize f:bB s e=R at z ⊢
 generalize hK:e.kind=K at z c3
 have h:=hid j;have a3:=hid l;have HZ:=hid U;clear N hb U J l hi hs hok hgn f ib j L hQ;have HG:Hid (e.kind=K):=hid hK;clear hK;have M:Array Value->Prop:=fun _=>True;clear M
 show Calls _ _ #[.agg #[s.P,s.Q,s.G,.slice F s.bases.length c,s.blind],.agg #[e.gate,e.no,e.time,e.kind,.slice v e.nums.length r,e.text,e.c,e.s]] _ _
 go_enter func151,ntmps151
 go_upto_region 1 with(fail);have hW':(w.alloc (.cells #[s.P,s.Q,s.G,.slice F s.bases.length c,s.blind] 26)).alloc (.cells #[e.gate,e.no,e.time,e.kind,.slice v e.nums.length r,e.text,e.c,e.s] 52)=W:=HW.out;rw[hW'];clear hW'
 by_cases k0:K=0
 ·subst k0;have f:=z.out;rw[if_pos rfl]at f;have g:=LE.out;rw[<-f]at g;have m:=hid g;clear f g;go_wp2_with (go_at_call 189;with_reducible refine m.out.mono ?_;rintro E B ⟨rfl,n⟩);go_ret;exact⟨rfl,h.trans n⟩
 by_cases k1:K=1
 ·subst k1;have f:=z.out;rw[if_neg (by decide)]at f;rw[if_pos rfl]at f;clear k0;have I:Hid (Calls prog 190 #[.slice v e.nums.length r,.int .i64 0,.int .i64 2147483648,.int .i64 0,.int .i64 2147483648] W fun en w'=>en=.returned (.bool (twoB e.nums 0 2147483648 0 2147483648))/\W=w'):=A 0 2147483648 0 2147483648
  generalize C:twoB e.nums 0 2147483648 0 2147483648=t at I f
  cases t
  ·rw[Bool.false_and]at f;subst f;clear C;go_wp2_with (go_at_call 190;with_reducible refine I.out.mono ?_;rintro E B ⟨rfl,rfl⟩);go_ret;exact⟨rfl,h⟩
  ·rw[Bool.true_and]at f;obtain⟨x,y,i,_,_⟩:=dh C
   have o:e.nums.length=2:=by rw[i];rfl
   obtain⟨T,O,rfl,Y,x1⟩:=fp X i o;rw[i]at f
   have D:Hid ((decide (x<=y))=R):=by show _=_;rw[f];rfl
   have Z:(0:Nat) < e.nums.length:=by omega
   have l1:(1:Nat) < e.nums.length:=by omega
   clear C i o f;go_wp2_with (go_at_call 190;with_reducible refine I.out.mono ?_;rintro E B ⟨rfl,rfl⟩)
   go_quiet (fail)
   go_wp2_with fail;go_ret;refine⟨?_,h.drewN _⟩;rw[<-D.out]
   first|(simp;done)|(simp;rfl)
 by_cases n:K=2
 ·subst n;have f:=z.out;rw[if_neg (by decide)]at f;rw[if_neg (by decide)]at f;rw[if_pos rfl]at f;clear k0;clear k1;have I:Hid (Calls prog 190 #[.slice v e.nums.length r,.int .i64 0,.int .i64 23,.int .i64 0,.int .i64 4095] W fun en w'=>en=.returned (.bool (twoB e.nums 0 23 0 4095))/\W=w'):=A 0 23 0 4095
  generalize C:twoB e.nums 0 23 0 4095=t at I f
  cases t
  ·rw[Bool.false_and]at f;subst f;clear C;go_wp2_with (go_at_call 190;with_reducible refine I.out.mono ?_;rintro E B ⟨rfl,rfl⟩);go_ret;exact⟨rfl,h⟩
  ·rw[Bool.true_and]at f;obtain⟨x,y,i,_,_⟩:=dh C
   have o:e.nums.length=2:=by rw[i];rfl
   obtain⟨T,O,rfl,Y,x1⟩:=fp X i o;rw[i]at f
   have D:Hid ((!decide (x=e.gate))=R):=by show _=_;rw[f];rfl
   have Z:(0:Nat) < e.nums.length:=by omega
   have l1:(1:Nat) < e.nums.length:=by omega
   clear C i o f;go_wp2_with (go_at_call 190;with_reducible refine I.out.mono ?_;rintro E B ⟨rfl,rfl⟩)
   go_quiet (fail)
   go_wp2_with fail;go_ret;refine⟨?_,h.drewN _⟩;rw[<-D.out]
   first|(simp;done)|(simp;rfl)
 by_cases k3:K=3
 ·subst k3;have f:=z.out;rw[if_neg (by decide)]at f;rw[if_neg (by decide)]at f;rw[if_neg (by decide)]at f;rw[if_pos rfl]at f;clear k0;clear k1;clear n;have g:=A 0 15 1 (s.Q - 1);rw[<-f]at g;have m:=hid g;clear f g;go_wp2_with (go_at_call 190;with_reducible refine m.out.mono ?_;rintro E B ⟨rfl,rfl⟩);go_ret;exact⟨rfl,h⟩
 by_cases k4:K=4
 ·subst k4;have f:=z.out;rw[if_neg (by decide)]at f;rw[if_neg (by decide)]at f;rw[if_neg (by decide)]at f;rw[if_neg (by decide)]at f;rw[if_pos rfl]at f;clear k0;clear k1;clear n;clear k3
  by_cases h1:e.nums.length=1
  ·rw[decide_eq_true h1,Bool.true_and]at f
   obtain⟨x,V⟩:∃x,e.nums=[x]:=by
    match hm:e.nums,h1 with
    | [x],_=>exact⟨x,rfl⟩
   obtain⟨T,O,rfl,p⟩:=X.out.at_ (by omega)
   have Y:W.cell? ⟨T,O,none⟩=some (.int .i64 x):=by have:=p 0 x (by rw[V];rfl);simpa using this
   have WI:Hid (∀k,Calls prog 29 #[x,.int .i64 0,.int .i64 (e.no - 1)] (W.drewN k) fun en w'=>en=.returned R/\W.drewN k=w'):=fun k=>by
    have:=bF x 0 (e.no - 1) (W.drewN k);rw[V]at f;rw[f];exact this
   have d1:((e.nums.length:Int) != 1)=false:=by rw[h1];rfl
   have Z:(0:Nat) < e.nums.length:=by omega
   clear p V f h1;go_wp2_with fail
   go_quiet ((go_at_call 29;exact ev (WI _)))
   go_wp2_with fail;go_ret;exact⟨rfl,h.drewN _⟩
  ·rw[decide_eq_false h1,Bool.false_and]at f;subst f
   have d1:((e.nums.length:Int) != 1)=true:=by simp;omega
   clear h1;go_wp2_with fail;go_ret;exact⟨rfl,h⟩
 by_cases k5:K=5
 ·subst k5;have f:=z.out;rw[if_neg (by decide)]at f;rw[if_neg (by decide)]at f;rw[if_neg (by decide)]at f;rw[if_neg (by decide)]at f;rw[if_neg (by decide)]at f;rw[if_pos rfl]at f;clear k0;clear k1;clear n;clear k3;clear k4;have g:=A 0 (e.no - 1) 1 100;rw[<-f]at g;have m:=hid g;clear f g;go_wp2_with (go_at_call 190;with_reducible refine m.out.mono ?_;rintro E B ⟨rfl,rfl⟩);go_ret;exact⟨rfl,h⟩
 by_cases k6:K=6
 ·subst k6;have f:=z.out;rw[if_neg (by decide)]at f;rw[if_neg (by decide)]at f;rw[if_neg (by decide)]at f;rw[if_neg (by decide)]at f;rw[if_neg (by decide)]at f;rw[if_neg (by decide)]at f;rw[if_pos rfl]at f;clear k0;clear k1;clear n;clear k3;clear k4;clear k5;have g:=MA.out;rw[<-f]at g;have m:=hid g;clear f g;go_wp2_with (go_at_call 191;with_reducible refine m.out.mono ?_;rintro E B ⟨rfl,n⟩);go_ret;exact⟨rfl,h.trans n⟩
 ·have f:=z.out;rw[if_neg k0,if_neg k1,if_neg n,if_neg k3,if_neg k4,if_neg k5,if_neg k6]at f;subst f
  have d0:(K==0)=false:=by simpa using k0
  have d1:(K==1)=false:=by simpa using k1
  have d2:(K==2)=false:=by simpa using n
  have d3:(K==3)=false:=by simpa using k3
  have d4:(K==4)=false:=by simpa using k4
  have d5:(K==5)=false:=by simpa using k5
  have d6:(K==6)=false:=by simpa using k6
  clear k0 k1 n k3 k4 k5 k6;go_wp2_with fail;go_ret;exact⟨rfl,h⟩
end Go.Proofs.YtcidfldeiklcjaaGreatDoor
