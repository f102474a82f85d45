import Derived.Test.YtcidfldeiklcjaaGreatDoorRfs
import Derived.Test.YtcidfldeiklcjaaGreatDoorDqk
import Derived.Test.YtcidfldeiklcjaaGreatDoorDecQ
set_option maxRecDepth 100000
set_option maxHeartbeats 32000000
namespace Go.Proofs.YtcidfldeiklcjaaGreatDoor
open Go.RowKit Tm Tape
open Go.Proofs.Tryz
open Lib(hid)
theorem pJ(vs ve:Value)(s:Stp)(e:Ent)(w:World)(hs:StpV w vs s)(he:EntA w ve e)(hi:EntI e)(hE:Env2 w) :
  Calls prog 101 #[vs,ve] w fun en w'=>en=.returned (.bool (aS s e))/\Kept [] w w':=by
 have hs':=hs;have he':=he;obtain⟨⟨t,c,rfl,I⟩,ip,iq,ig,ib,il⟩:=hs';obtain⟨u,rfl,r⟩:=he';obtain⟨D,C,rfl,_,_⟩:=r.form;obtain⟨W,V⟩:=nm ((w.alloc (.cells (stpA s (.slice t s.bases.length c)) 26)).alloc (.cells (entC e (.slice D e.nums.length C)).toArray 52));have hb:Blk W w.heap.size 26 (stpA s (.slice t s.bases.length c)):=V▸(Blk.new _ _ _).alloc _
 have hz:Blk W (w.heap.size+1) 52 (entC e (.slice D e.nums.length C)).toArray:=by
  have:=Blk.new (w.alloc (.cells (stpA s (.slice t s.bases.length c)) 26)) 52 (entC e (.slice D e.nums.length C)).toArray;rw[V,World.size_alloc]at this;exact this
 have f:Kept [] w W:=V▸(kr.alloc _).alloc _;have VS:Hid (Calls prog 28 #[.agg #[s.P,s.Q,s.G,.slice t s.bases.length c,s.blind]] W fun e j=>e=.returned (.bool (aw s))/\Kept [] W j):=bR _ s W (hs.kept f)
 have SH:Hid (aw s=true->0<=e.no->∀w',Kept [] W w'->Calls prog 151 #[.agg #[s.P,s.Q,s.G,.slice t s.bases.length c,s.blind],.agg #[e.gate,e.no,e.time,e.kind,.slice D e.nums.length C,e.text,e.c,e.s]] w' fun en j=>en=.returned (.bool (bB s e))/\Kept [] w' j):=fun h1 h2 w' k=>by
  obtain⟨q,a3,a4⟩:=bS h1;exact py _ _ s q e w' (hs.kept (f.trans k)) a3 a4 (he.kept (f.trans k)) hi h2 (hE.kept0 (f.trans k))
 have DT:Hid (∀w',Kept [] W w'->Calls prog 152 #[e.text] w' (DtE e.text w')):=fun w' k=>ou e.text w' hi.l5 (hE.kept0 (f.trans k)).toEnv
 have DC:Hid (∀w',Kept [] W w'->Calls prog 153 #[e.text] w' (DecF (cS e.text).2 w')):=fun w' k=>by
  have:=hi.l5;exact nH (vI e.text w' (hE.kept0 (f.trans k)).toEnv (by omega))
 obtain⟨S0,S1,S2,S3,S4⟩:=bH5 hb rfl;obtain⟨C0,C1,C2,C3,C4,C5,C6,C7⟩:=bH8 hz rfl;have a5:=hid (r.kept f);have HW:=hid V;have g:=hid f;have b:=hid (nB s e)
 have a0:Hid (bB s e=true->e.kind=3->∃x y,e.nums=[x,y]):=fun h1 h2=>by
  unfold bB at h1
  rw[if_neg (by omega),if_neg (by omega),if_neg (by omega),if_pos h2]at h1;obtain⟨x,y,m,_,_⟩:=dh h1;exact⟨x,y,m⟩
 generalize a:aS s e=R at b ⊢
 have G1:=hid (fun w=>bF e.gate 0 23 w);have G2:=hid (fun w=>bF e.no 0 4095 w);have G3:=hid (fun w=>bF e.time 0 2147483648 w);have A:Hid (inB e.no 0 4095=true->0<=e.no):=fun h=>((ci _ _ _).1 h).1;obtain⟨b1,U⟩:=nm (aw s);obtain⟨b2,T⟩:=nm (inB e.gate 0 23);obtain⟨b3,O⟩:=nm (inB e.no 0 4095);obtain⟨b4,l⟩:=nm (inB e.time 0 2147483648);obtain⟨b5,N⟩:=nm (bB s e);rw[U]at VS SH b;rw[T]at G1 b;rw[O]at G2 b A;rw[l]at G3 b;rw[N]at SH b a0;clear V hb hz I r hE hi hs he a ib f U T O l N
 show Calls _ _ #[.agg #[s.P,s.Q,s.G,.slice t s.bases.length c,s.blind],.agg #[e.gate,e.no,e.time,e.kind,.slice D e.nums.length C,e.text,e.c,e.s]] _ _
 go_enter func101,ntmps101
 go_upto_region 1 with(fail);have hW':(w.alloc (.cells #[s.P,s.Q,s.G,.slice t s.bases.length c,s.blind] 26)).alloc (.cells #[e.gate,e.no,e.time,e.kind,.slice D e.nums.length C,e.text,e.c,e.s] 52)=W:=HW.out;rw[hW'];clear hW' HW;have s0:=S0.out W kr;have s1:=S1.out W kr;have s2:=S2.out W kr;have s3:=S3.out W kr;have s4:=S4.out W kr;have c0:=C0.out W kr;have c1:=C1.out W kr;have c2:=C2.out W kr;have Y:=C3.out W kr;have E:=C4.out W kr;have X:=C5.out W kr;have c6:=C6.out W kr;have c7:=C7.out W kr;go_wp2_with (go_at_call 28;with_reducible refine VS.out.mono ?_)
 first|(rintro e1 i rfl d)|(rintro e1 i ⟨rfl,d⟩)
 clear s0 s1 s2 s3 s4 c0 c1 c2 Y E X c6 c7;have s0:=S0.out i d;have s1:=S1.out i d;have s2:=S2.out i d;have s3:=S3.out i d;have s4:=S4.out i d;have c0:=C0.out i d;have c1:=C1.out i d;have c2:=C2.out i d;have Y:=C3.out i d;have E:=C4.out i d;have X:=C5.out i d;have c6:=C6.out i d;have c7:=C7.out i d
 cases b1
 ·have a:=b.out;simp only[Bool.false_and]at a;subst a;go_wp2_with fail;go_ret;exact⟨rfl,g.trans d⟩
 go_wp2_with (go_at_call 29;with_reducible refine(G1.out _).mono ?_);rintro e2 j ⟨rfl,rfl⟩
 cases b2
 ·have a:=b.out;simp only[Bool.false_and,Bool.true_and]at a;subst a;go_wp2_with fail;go_ret;exact⟨rfl,g.trans d⟩
 go_wp2_with (go_at_call 29;with_reducible refine(G2.out _).mono ?_);rintro e2 j ⟨rfl,rfl⟩
 cases b3
 ·have a:=b.out;simp only[Bool.false_and,Bool.true_and]at a;subst a;go_wp2_with fail;go_ret;exact⟨rfl,g.trans d⟩
 go_wp2_with (go_at_call 29;with_reducible refine(G3.out _).mono ?_);rintro e2 j ⟨rfl,rfl⟩
 cases b4
 ·have a:=b.out;simp only[Bool.false_and,Bool.true_and]at a;subst a;go_wp2_with fail;go_ret;exact⟨rfl,g.trans d⟩
 have Z:=hid (SH (by trivial) (A (by trivial)) i d);go_wp2_with (go_at_call 151;with_reducible refine Z.out.mono ?_)
 first|(rintro e2 j rfl k2)|(rintro e2 j ⟨rfl,k2⟩)
 have p:=hid (d.trans k2);clear s0 s1 s2 s3 s4 c0 c1 c2 Y E X c6 c7;clear d k2 SH Z G1 G2 G3 VS A
 cases b5
 ·have a:=b.out;simp only[Bool.false_and,Bool.true_and]at a;subst a;go_wp2_with fail;go_ret;exact⟨rfl,g.trans p⟩
 have v:Hid (R=gj e):=by show _=_;have:=b.out;simpa using this
 have Y:=C3.out j p;have E:=C4.out j p;have X:=C5.out j p
 by_cases m:e.kind=3
 ·have a:=v.out
  unfold gj at a
  rw[if_pos m]at a;obtain⟨x,y,n⟩:=a0 (by trivial) m
  have J:e.nums.length=2:=by rw[n];rfl
  obtain⟨rb,ro,rfl,_,x1⟩:=fp a5 n J;have X1:=hid (Kept.cellOf x1)
  have l1:(1:Nat) < e.nums.length:=by omega
  rw[n]at a
  have d3:(e.kind==3)=true:=by simpa using m
  have a2:=hid a;clear a n J x1 m;go_wp2_with (go_at_call 152;with_reducible refine(DT.out j p.out).mono ?_);rintro e3 w3 ⟨i0,i3,i6,i7,tq,pa,ra,pn,pc,rn,rc,rfl,k3⟩;have z:=a2.out;obtain⟨dd,M⟩:=nm (Dt.xr e.text);obtain⟨kk,L⟩:=nm (Dt.okT e.text);rw[M,L]at z ⊢;have a1:=hid z;clear M L z a2 Y E X d3;have K3:=hid (p.trans k3);clear k3;go_upto_region 6 with(fail);obtain⟨F,o⟩:=nm (w3.alloc (.cells #[i0,tq,.slice pa pn pc,i3,.slice ra rn rc,dd,i6,i7] 88));have l:Blk F w3.heap.size 88 #[i0,tq,.slice pa pn pc,i3,.slice ra rn rc,dd,i6,i7]:=o▸Blk.new _ _ _;have K4:Hid (Kept [] W F):=hid (o▸K3.out.alloc _);rw[o];have t5:F.cell? ⟨w3.heap.size,5,none⟩=some (.int .i64 dd):=l.cell 5;have E:=C4.out F K4;have y1:=X1.out F K4;clear l o
  cases kk
  ·have a:=a1.out;rw[Bool.false_and]at a;subst a
   go_quiet (fail)
   go_wp2_with fail;go_ret;exact⟨rfl,(g.trans K4).drewN _⟩
  ·have a:R=decide (dd=y):=a1.out;subst a
   go_quiet (fail)
   go_wp2_with fail;go_ret;exact⟨rfl,(g.trans K4).drewN _⟩
 ·have d3:(e.kind==3)=false:=by simpa using m
  by_cases h4:e.kind=4
  ·have a:=v.out
   unfold gj at a
   rw[if_neg m,if_pos h4]at a
   have d4:(e.kind==4)=true:=by simpa using h4
   have B:=DC j p;rw[<-a]at B;have a6:=hid B;clear a m h4 B;go_wp2_with (go_at_call 153;with_reducible refine a6.out.mono ?_);rintro e3 w3 ⟨u0,n0,m0,u1,n1,m1,u2,n2,m2,u3,n3,m3,u4,n4,m4,u5,n5,m5,u6,n6,m6,u7,n7,m7,u8,n8,m8,rfl,k3⟩;go_wp2_with fail;go_ret;exact⟨rfl,g.trans ((p.trans k3).alloc _)⟩
  ·have a:=v.out
   unfold gj at a
   rw[if_neg m,if_neg h4]at a
   have d4:(e.kind==4)=false:=by simpa using h4
   clear m h4;subst a;go_wp2_with fail;go_ret;exact⟨by rw[show decide (e.text=[])=e.text.isEmpty by cases e.text <;> rfl];simp,g.out.trans p.out⟩
end Go.Proofs.YtcidfldeiklcjaaGreatDoor
namespace Go.Proofs.YtcidfldeiklcjaaGreatDoor
open Go.RowKit
open Go.Proofs.Tryz
theorem qW(q:Nat)(b:Int)(w:World)(hq:5<=q)(hq2:q < 1152921504606846976)(hb:Wire.I64 b)(h:powN (2*q+1) b q=1) :
  Calls prog 204 #[.int .i64 ((2*q+1:Nat):Int),b,.int .i64 (-1)] w fun e w'=>e=.returned (.int .i64 ((invN q b:Nat):Int))/\Kept [] w w':=by
 have d:=sE (by omega) h;have a:invN q b < 2*q+1:=Nat.mod_lt _ (by omega);have g:Nat.gcd (2*q+1) (res (2*q+1) b)=1:=sM (by omega) (q:=q) h
 generalize m:2*q+1=P at d a g ⊢
 have V:=Lib.hid (bP P w (by omega) (by omega));have k:=Lib.hid (zy P b (invN q b) w (by omega) (by omega) hb g a d)
 generalize l:invN q b=u at a k ⊢
 have f:res P 1=1:=eD (N:=P) (b:=1) (by omega)
 have n:Hid (∀w',Calls prog 99 #[P,u,.int .i64 0] w' fun e c=>e=.returned (.int .i64 1)/\w'=c):=fun w'=>by
  have:=dK P u 0 w' (by omega) (by omega) ⟨by omega,by omega⟩ (by omega);rw[show powN P (u:Int) 0=1 by unfold powN;rw[Nat.pow_zero];exact Nat.mod_eq_of_lt (by omega)]at this;exact this
 have o:Hid (∀w',Calls prog 150 #[P,u,.int .i64 1] w' fun e c=>e=.returned (.int .i64 (u:Int))/\w'=c):=fun w'=>by
  have:=dL P u 1 w' (by omega) (by omega) ⟨by omega,by omega⟩ ⟨by omega,by omega⟩;rw[show mulN P (u:Int) 1=u by unfold mulN;rw[eD a,f,Nat.mul_one];exact Nat.mod_eq_of_lt a]at this;exact this
 have s:decide ((-1:Int) >= 0)=false:=by decide
 have r:decide ((0:Int)<=-1)=false:=by decide
 have p:IntKind.i64.wrap (-IntKind.i64.wrap (-1+1))=0:=by decide
 clear d g l m h f
 go_enter func204,ntmps204
 go_wp2_with (first
  |(go_at_call 188;((with_reducible refine V.out.mono ?_);rintro e i ⟨rfl,rfl⟩))
  |(go_at_call 225;with_reducible refine k.out.mono ?_))
 first|(rintro e i rfl j)|(rintro e i ⟨rfl,j⟩)
 go_wp2_with (go_at_call 99;with_reducible refine(n.out _).mono ?_)
 first|(rintro e c rfl rfl)|(rintro e c ⟨rfl,rfl⟩)
 go_wp2_with (go_at_call 150;with_reducible refine(o.out _).mono ?_)
 first|(rintro e c rfl rfl)|(rintro e c ⟨rfl,rfl⟩)
 go_wp2_with fail;go_ret;exact⟨rfl,j⟩
theorem tB(P Q G a b:Int)(q:Nat)(w:World)(hok:GrpOk P Q G q)(ha:Wire.I64 a)(hb:Wire.I64 b)(h:powN (2*q+1) b q=1) :
  Calls prog 156 #[.agg (grpV P Q G),a,b] w fun e w'=>e=.returned (.int .i64 ((overN q a b:Nat):Int))/\Kept [] w w':=by
 have i:=hok.hq;have p:=hok.h5;have c:=hok.hP;obtain⟨W,g⟩:=nm (w.alloc (.cells (grpV P Q G) 23));have f:=bn g;have j:=ka (S:=[]) g;have s:invN q b < 2*q+1:=Nat.mod_lt _ (by omega)
 have o:Hid (∀w',Calls prog 204 #[P,b,.int .i64 (-1)] w' fun e d=>e=.returned (.int .i64 ((invN q b:Nat):Int))/\Kept [] w' d):=fun w'=>by
  rw[c];exact qW q b w' (by omega) i hb h
 have y:Hid (∀w',Calls prog 188 #[Q] w' fun e d=>e=.returned true/\w'=d):=fun w'=>by
  rw[hok.hQ];exact bP q w' (by omega) (by omega)
 have l:Hid (∀w',Calls prog 150 #[P,a,.int .i64 ((invN q b:Nat):Int)] w' fun e d=>e=.returned (.int .i64 ((overN q a b:Nat):Int))/\Kept [] w' d):=fun w'=>by
  rw[c];exact(dL (2*q+1) a _ w' (by omega) (by omega) ha ⟨by omega,by omega⟩).mono fun _ _ ⟨h1,h2⟩=>⟨h1,h2▸kr⟩
 obtain⟨u,m⟩:=nm (invN q b);obtain⟨r,n⟩:=nm (overN q a b);rw[m]at o l;rw[n]at l ⊢;obtain⟨C,x,B⟩:=bk3 f rfl;have z:=Lib.hid g;clear g f m n h hok c
 show Calls _ _ #[.agg #[P,Q,G],_,_] _ _
 go_enter func156,ntmps156
 go_upto_region 1 with(fail)
 erw[z.out]
 have v:=x _ kr;go_wp2_with (go_at_call 188;((with_reducible refine(y.out _).mono ?_);rintro e w' ⟨rfl,rfl⟩));clear v
 go_region_held3 (fun w'=>Kept [] W w') (first|assumption|exact kr.drew)
  (first
   |(go_at_call 204;with_reducible refine(ai (W:=W) (by assumption) (o.out _)).mono ?_;rintro e d ⟨rfl,t⟩)
   |(go_at_call 150;with_reducible refine(ai (W:=W) (by assumption) (l.out _)).mono ?_;rintro e A ⟨rfl,k⟩))
 go_wp2_with fail;go_ret;exact⟨rfl,j.trans k⟩
open ShaP
open Lib(hid)
theorem px(v:Value)(s:Stp)(pub c t:Int)(msg:List UInt8)(w:World)(h:StpV w v s)(ipb:Wire.I64 pub)(ic:Wire.I64 c)(it:Wire.I64 t)(hm:msg.length<=50000000) :
  Calls prog 102 #[v,pub,msg,.agg #[c,t]] w fun e w'=>e=.returned (.bool (sigB s pub msg c t))/\Kept [] w w':=by
 have h':=h;obtain⟨⟨C,B,rfl,T⟩,ip,iq,ig,ib,il⟩:=h';obtain⟨W,J⟩:=nm (((w.alloc (.cells (stpA s (.slice C s.bases.length B)) 26)).alloc (.cells #[c,t] 50)).alloc (.cells #[s.P,s.Q,s.G] 23));have hb:Blk W w.heap.size 26 (stpA s (.slice C s.bases.length B)):=J▸((Blk.new _ _ _).alloc _).alloc _
 have hz:Blk W (w.heap.size+1) 50 #[c,t]:=by
  have:=(Blk.new (w.alloc (.cells (stpA s (.slice C s.bases.length B)) 26)) 50 #[c,t]).alloc (.cells #[s.P,s.Q,s.G] 23);rw[J,World.size_alloc]at this;exact this
 have hg:Blk W (w.heap.size+1+1) 23 #[s.P,s.Q,s.G]:=by
  have:=Blk.new ((w.alloc (.cells (stpA s (.slice C s.bases.length B)) 26)).alloc (.cells #[c,t] 50)) 23 #[s.P,s.Q,s.G];rw[J,World.size_alloc,World.size_alloc]at this;exact this
 have l:Kept [] w W:=J▸((kr.alloc _).alloc _).alloc _;have VS:=hid (bR _ s W (h.kept l))
 have EL:Hid (aw s=true->∀w',Kept [] W w'->Calls prog 154 #[.agg #[s.P,s.Q,s.G],pub] w' fun e d=>e=.returned (.bool (memB s.Q.toNat pub))/\Kept [] w' d):=fun h1 w' k=>by
  obtain⟨q,b,U⟩:=bS h1
  have j:s.Q.toNat=q:=by have:=b.hQ;omega
  rw[j];exact gR s.P s.Q s.G pub q w' b U ipb
 have X1:=hid fun(w':World) (kk:Kept [] W w')=>gu _ s c w' (h.kept (l.trans kk));have X2:=hid fun(w':World) (kk:Kept [] W w')=>gu _ s t w' (h.kept (l.trans kk))
 have f:Hid (aw s=true->memB s.Q.toNat pub=true->∃q:Nat,s.Q.toNat=q/\(sigN s.Q.toNat s.G pub msg c t=(numN q (chaE msg pub (overN q (pwrN q s.G t:Nat) (pwrN q pub c:Nat):Nat)):Nat)) /\
   (∀w',Calls prog 157 #[.agg #[s.P,s.Q,s.G],s.G,t] w' fun e d=>e=.returned (.int .i64 ((pwrN q s.G t:Nat):Int))/\Kept [] w' d) /\
   (∀w',Calls prog 157 #[.agg #[s.P,s.Q,s.G],pub,c] w' fun e d=>e=.returned (.int .i64 ((pwrN q pub c:Nat):Int))/\Kept [] w' d) /\
   (∀w',Calls prog 156 #[.agg #[s.P,s.Q,s.G],.int .i64 (pwrN q s.G t:Nat),.int .i64 (pwrN q pub c:Nat)] w' fun e d=>e=.returned (.int .i64 ((overN q (pwrN q s.G t:Nat) (pwrN q pub c:Nat):Nat):Int))/\Kept [] w' d) /\
   (∀w',Kept [] W w'->Calls prog 158 #[.agg #[s.P,s.Q,s.G,.slice C s.bases.length B,s.blind],pub,.int .i64 (overN q (pwrN q s.G t:Nat) (pwrN q pub c:Nat):Nat),msg] w' fun e d=>e=.returned (.int .i64 (numN q (chaE msg pub (overN q (pwrN q s.G t:Nat) (pwrN q pub c:Nat):Nat)):Nat))/\Kept [] w' d)):=fun h1 h2=>by
  obtain⟨q,b,U⟩:=bS h1
  have j:s.Q.toNat=q:=by have:=b.hQ;omega
  have a7:=b.hq;have a9:=b.h5;rw[j]at h2;refine⟨q,j,by rw[j];rfl,fun w'=>lv s.P s.Q s.G s.G t q w' b ig it,fun w'=>lv s.P s.Q s.G pub c q w' b ipb ic,fun w'=>?_,fun w' kk=>?_⟩
  ·exact tB s.P s.Q s.G _ _ q w' b (jk _ _ _ (by omega)) (jk _ _ _ (by omega)) (mU h2)
  ·have aa:overN q (pwrN q s.G t:Nat) (pwrN q pub c:Nat) < 2*q+1:=Nat.mod_lt _ (by omega);exact qU _ s q pub _ msg w' (h.kept (l.trans kk)) b.hQ (by omega) (by omega) ipb ⟨by omega,by omega⟩ hm
 obtain⟨S0,S1,S2,S3,S4⟩:=bH5 hb rfl;obtain⟨Z0,Z1⟩:=bH2 hz rfl;obtain⟨G0,G1,G2⟩:=bH3 hg rfl;have HW:=hid J;have n:=hid l;have a:Hid (sigB s pub msg c t=(aw s&&(memB s.Q.toNat pub&&(bC s c&&(bC s t&&decide (sigN s.Q.toNat s.G pub msg c t=c)))))):=rfl
 generalize g:sigB s pub msg c t=R at a ⊢
 generalize i:sigN s.Q.toNat s.G pub msg c t=sg at a f
 obtain⟨b1,Z⟩:=nm (aw s);obtain⟨b2,Y⟩:=nm (memB s.Q.toNat pub);obtain⟨b3,X⟩:=nm (bC s c);obtain⟨b4,V⟩:=nm (bC s t);rw[Z]at VS EL a f;rw[Y]at EL a f;rw[X]at X1 a;rw[V]at X2 a;clear J hb hz hg T g i Z Y X V l h ib
 show Calls _ _ #[.agg #[s.P,s.Q,s.G,.slice C s.bases.length B,s.blind],_,_,_] _ _
 go_enter func102,ntmps102
 go_upto_region 2 with(fail);have hW':((w.alloc (.cells #[s.P,s.Q,s.G,.slice C s.bases.length B,s.blind] 26)).alloc (.cells #[c,t] 50)).alloc (.cells #[s.P,s.Q,s.G] 23)=W:=HW.out;rw[hW'];clear hW' HW;have x:=S0.out W kr;have I:=S1.out W kr;have F:=S2.out W kr;have E:=S3.out W kr;have D:=S4.out W kr;go_wp2_with (go_at_call 28;with_reducible refine VS.out.mono ?_)
 first|(rintro e1 M rfl A)|(rintro e1 M ⟨rfl,A⟩)
 clear x I F E D
 cases b1
 ·have g:=a.out;simp only[Bool.false_and]at g;subst g;go_wp2_with fail;go_ret;exact⟨rfl,n.trans A⟩
 have g0:=G0.out M A;have g1:=G1.out M A;have g2:=G2.out M A;go_wp2_with (go_at_call 154;with_reducible refine(EL.out (by trivial) M A).mono ?_)
 first|(rintro e2 d rfl k2')|(rintro e2 d ⟨rfl,k2'⟩)
 have p:=A.trans k2';clear k2' g0 g1 g2
 cases b2
 ·have g:=a.out;simp only[Bool.false_and,Bool.true_and]at g;subst g;go_wp2_with fail;go_ret;exact⟨rfl,n.trans p⟩
 have x:=S0.out d p;have I:=S1.out d p;have F:=S2.out d p;have E:=S3.out d p;have D:=S4.out d p;have z0:=Z0.out d p;go_wp2_with (go_at_call 155;with_reducible refine(X1.out d p).mono ?_)
 first|(rintro e3 u rfl k3')|(rintro e3 u ⟨rfl,k3'⟩)
 have o:=p.trans k3';clear k3' x I F E D z0
 cases b3
 ·have g:=a.out;simp only[Bool.false_and,Bool.true_and]at g;subst g;go_wp2_with fail;go_ret;exact⟨rfl,n.trans o⟩
 have x:=S0.out u o;have I:=S1.out u o;have F:=S2.out u o;have E:=S3.out u o;have D:=S4.out u o;have z1:=Z1.out u o;go_wp2_with (go_at_call 155;with_reducible refine(X2.out u o).mono ?_)
 first|(rintro e4 m rfl k4')|(rintro e4 m ⟨rfl,k4'⟩)
 have z:=o.trans k4';clear k4' x I F E D z1
 cases b4
 ·have g:=a.out;simp only[Bool.false_and,Bool.true_and]at g;subst g;go_wp2_with fail;go_ret;exact⟨rfl,n.trans z⟩
 have g:=a.out;simp only[Bool.true_and]at g;subst g;obtain⟨q,j,i,P1,P2,O1,L⟩:=f (by trivial) (by trivial);obtain⟨x1,O⟩:=nm (pwrN q s.G t);obtain⟨x2,N⟩:=nm (pwrN q pub c);rw[O]at P1 O1 L i;rw[N]at P2 O1 L i
 generalize a0:overN q (x1:Int) (x2:Int)=x3 at O1 L i
 rw[<-i]at L;have a4:=hid P1;have a3:=hid P2;have a5:=hid O1;have a6:=hid L;clear P1 P2 O1 L i j O N a0 a f;go_upto_region 4 with(fail);have x:=fun(w':World) (k:Kept [] m w')=>S0.out w' (z.trans k);have z0:=fun(w':World) (k:Kept [] m w')=>Z0.out w' (z.trans k);have z1:=fun(w':World) (k:Kept [] m w')=>Z1.out w' (z.trans k);have g0:=fun(w':World) (k:Kept [] m w')=>G0.out w' (z.trans k);have g1:=fun(w':World) (k:Kept [] m w')=>G1.out w' (z.trans k);have g2:=fun(w':World) (k:Kept [] m w')=>G2.out w' (z.trans k)
 go_region_held3 (fun w'=>Kept [] m w') (first|assumption|exact kr.drew)
  (first
   |(go_at_call 157;with_reducible refine(ai (W:=m) (by assumption) (a4.out _)).mono ?_;rintro e5 w5 ⟨rfl,a2⟩)
   |(go_at_call 157;with_reducible refine(ai (W:=m) (by assumption) (a3.out _)).mono ?_;rintro e5 w5 ⟨rfl,a2⟩)
   |(go_at_call 156;with_reducible refine(ai (W:=m) (by assumption) (a5.out _)).mono ?_;rintro e6 r ⟨rfl,a1⟩))
 clear x z0 z1 g0 g1 g2;have y:=z.trans a1;go_upto_region 5 with(fail);have x:=fun(w':World) (k:Kept [] r w')=>S0.out w' (y.trans k);have I:=fun(w':World) (k:Kept [] r w')=>S1.out w' (y.trans k);have F:=fun(w':World) (k:Kept [] r w')=>S2.out w' (y.trans k);have E:=fun(w':World) (k:Kept [] r w')=>S3.out w' (y.trans k);have D:=fun(w':World) (k:Kept [] r w')=>S4.out w' (y.trans k);have z0:=fun(w':World) (k:Kept [] r w')=>Z0.out w' (y.trans k)
 go_region_held3 (fun w'=>Kept [] r w') (first|assumption|exact kr.drew)
  (first
   |(go_at_call 158;with_reducible refine(ai (W:=r) (by assumption) (a6.out _ (y.trans (by assumption)))).mono ?_;rintro e7 w7 ⟨rfl,ab⟩)
   |fail)
 all_goals go_wp2_with fail
 all_goals (
  go_ret
  exact⟨rfl,n.trans (y.trans (by assumption))⟩)
end Go.Proofs.YtcidfldeiklcjaaGreatDoor
namespace Go.Proofs.YtcidfldeiklcjaaGreatDoor
open Go.RowKit Tm
open Go.Proofs.Tryz
open Lib(hid)
theorem mS(v:Value)(e:Ent)(w:World)(h:EntA w v e)(hi:EntI e) :
  Calls prog 103 #[v] w fun en w'=>en=.returned (.string ⟨(aF e).toArray⟩)/\Kept [] w w':=by
 obtain⟨d,rfl,a⟩:=h;obtain⟨W,g⟩:=nm (w.alloc (.cells (entC e d).toArray 52));have m:=bn g;have f:=ka (S:=[]) g;obtain⟨M,L,J,I,G,F⟩:=bk6 m rfl;have b:=a.kept f
 have n:∀x∈[e.gate,e.no,e.time,e.kind],Wire.I64 x:=by
  intro x k;simp only[List.mem_cons,List.not_mem_nil,or_false]at k
  rcases k with rfl|rfl|rfl|rfl
  ·exact hi.h0
  ·exact hi.h1
  ·exact hi.h2
  ·exact hi.h3
 have t:=hi.l4;have r:=hi.l5;have q:=cj e hi
 have u:(aF e).length=(Wire.yX [e.gate,e.no,e.time,e.kind]).length+((Wire.yX e.nums).length+(Wire.kO e.text).length):=by unfold aF;simp only[List.length_append]
 have E:¬9223372036854775807 < (Wire.yX [e.gate,e.no,e.time,e.kind]).length+(Wire.yX e.nums).length:=by omega
 have D:¬9223372036854775807 < (Wire.yX [e.gate,e.no,e.time,e.kind]).length+((Wire.yX e.nums).length+(Wire.kO e.text).length):=by omega
 have C:¬9223372036854775807 < (Wire.yX [e.gate,e.no,e.time,e.kind]).length+(Wire.yX e.nums).length+(Wire.kO e.text).length:=by omega
 have A:=hid n;have z:=hid hi;clear q u n hi m a;have l:=bcat;have y:=hid g
 show Calls _ _ #[.agg #[e.gate,e.no,e.time,e.kind,d,e.text,e.c,e.s]] _ _
 go_enter func103,ntmps103
 go_wp2_with fail;have hW':w.alloc (.cells #[e.gate,e.no,e.time,e.kind,d,e.text,e.c,e.s] 52)=W:=y.out;rw[hW'];clear g hW'
 go_region_held3 (fun w'=>Kept [] W w') (first|assumption|exact kr.drew|exact Kept.alloc (by assumption) _)
  (first
   |(go_at_call_of 159 d;refine(ai (W:=W) (by assumption) (fO d e.nums _ (by exact b.kept (by assumption)) (by omega) z.out.h4)).mono ?_;rintro o p ⟨rfl,j⟩)
   |(go_at_call 159;refine(ai (W:=W) (by assumption) (fO _ [e.gate,e.no,e.time,e.kind] _ (by exact(yW _ _ _ _ _ _).drew) (by simp) (by exact A.out))).mono ?_;rintro o p ⟨rfl,j⟩)
   |(go_at_call 160;refine(ai (W:=W) (by assumption) (mN e.text _ (by omega))).mono ?_;rintro o B ⟨rfl,i⟩))
 go_wp2;go_ret;exact⟨by simp[aF],f.trans i⟩
theorem dY(v:Value)(e:Ent)(w:World)(h:EntA w v e)(hi:EntI e) :
  Calls prog 104 #[v] w fun en w'=>en=.returned (.string ⟨(encE e).toArray⟩)/\Kept [] w w':=by
 have m:=h;obtain⟨b,rfl,d⟩:=h;obtain⟨W,i⟩:=nm (w.alloc (.cells (entC e b).toArray 52));have o:=bn i;have f:=ka (S:=[]) i;obtain⟨L,J,I,G,F,E,D,C⟩:=bk8 o rfl;have p:EntA W (.agg #[e.gate,e.no,e.time,e.kind,b,e.text,e.c,e.s]) e:=m.kept f
 have A:Hid (∀w',Kept [] W w'->Calls prog 103 #[.agg #[e.gate,e.no,e.time,e.kind,b,e.text,e.c,e.s]] w' fun en g=>en=.returned (.string ⟨(aF e).toArray⟩)/\Kept [] w' g) :=
  fun w' k=>mS _ e w' (p.kept k) hi
 have q:∀x∈[e.c,e.s],Wire.I64 x:=by
  intro x l;simp only[List.mem_cons,List.not_mem_nil,or_false]at l
  rcases l with rfl|rfl
  ·exact hi.h5
  ·exact hi.h6
 have t:=cj e hi;have r:=fS e.c e.s hi.h5 hi.h6
 have B:¬9223372036854775807 < (aF e).length+(Wire.yX [e.c,e.s]).length:=by omega
 have z:=hid q;clear t r q hi o d p m;have n:=bcat;have y:=hid i
 unfold encE
 show Calls _ _ #[.agg #[e.gate,e.no,e.time,e.kind,b,e.text,e.c,e.s]] _ _
 go_enter func104,ntmps104
 go_wp2_with fail;have hW':w.alloc (.cells #[e.gate,e.no,e.time,e.kind,b,e.text,e.c,e.s] 52)=W:=y.out;rw[hW'];clear i hW'
 go_region_held3 (fun w'=>Kept [] W w') (first|assumption|exact kr.drew|exact Kept.alloc (by assumption) _)
  (first
   |(go_at_call 103;with_reducible refine(A.out _ (by assumption)).mono ?_;rintro u g ⟨rfl,a⟩;have hk2':Kept [] W g:=Kept.trans (by assumption) a)
   |(go_at_call 159;refine(ai (W:=W) (by assumption) (fO _ [e.c,e.s] _ (by first|exact row2 _ _ _ _|exact(row2 _ _ _ _).drew|exact(row2 _ _ _ _).kept a|exact(row2 _ _ _ _).drew.kept a) (by simp) (by exact z.out))).mono ?_;rintro u g ⟨rfl,j⟩))
 all_goals go_wp2
 all_goals (
  go_ret
  exact⟨rfl,f.trans j⟩)
open Tape
theorem om(vs vk ve:Value)(s:Stp)(keys:List Int)(e:Ent)(w:World)(hs:StpV w vs s)(hk:Row w 1 vk keys.length (ints keys))(he:EntA w ve e)(hi:EntI e)(hki:∀x∈keys,Wire.I64 x)(hE:Env2 w) :
  Calls prog 65 #[vs,vk,ve] w fun en w'=>en=.returned (.bool (aN s keys e))/\Kept [] w w':=by
 have hs':=hs;have he':=he;obtain⟨⟨n,m,rfl,L⟩,ip,iq,ig,ib,il⟩:=hs';obtain⟨u,rfl,M⟩:=he';obtain⟨f,d,rfl,_,_⟩:=M.form;obtain⟨ka,kc,rfl,a7,_⟩:=hk.form;obtain⟨W,N⟩:=nm ((w.alloc (.cells (stpA s (.slice n s.bases.length m)) 26)).alloc (.cells (entC e (.slice f e.nums.length d)).toArray 52));have hb:Blk W w.heap.size 26 (stpA s (.slice n s.bases.length m)):=N▸(Blk.new _ _ _).alloc _
 have hz:Blk W (w.heap.size+1) 52 (entC e (.slice f e.nums.length d)).toArray:=by
  have:=Blk.new (w.alloc (.cells (stpA s (.slice n s.bases.length m)) 26)) 52 (entC e (.slice f e.nums.length d)).toArray;rw[N,World.size_alloc]at this;exact this
 have a:Kept [] w W:=N▸(kr.alloc _).alloc _
 have FO:Hid (∀x:KW W,Calls prog 101 #[.agg #[s.P,s.Q,s.G,.slice n s.bases.length m,s.blind],.agg #[e.gate,e.no,e.time,e.kind,.slice f e.nums.length d,e.text,e.c,e.s]] x.val fun en w2=>en=.returned (.bool (aS s e))/\Kept [] x.val w2):=fun x =>
  pJ _ _ s e x.val (hs.kept (a.trans x.property)) (he.kept (a.trans x.property)) hi (hE.kept0 (a.trans x.property))
 have BO:Hid (∀x:KW W,Calls prog 103 #[.agg #[e.gate,e.no,e.time,e.kind,.slice f e.nums.length d,e.text,e.c,e.s]] x.val fun en w2=>en=.returned (.string ⟨(aF e).toArray⟩)/\Kept [] x.val w2):=fun x =>
  mS _ e x.val (he.kept (a.trans x.property)) hi
 have SG:Hid (∀pub,Wire.I64 pub->∀x:KW W,Calls prog 102 #[.agg #[s.P,s.Q,s.G,.slice n s.bases.length m,s.blind],pub,.string ⟨(aF e).toArray⟩,.agg #[e.c,e.s]] x.val fun en w2=>en=.returned (.bool (sigB s pub (aF e) e.c e.s))/\Kept [] x.val w2):=fun pub hp x=>by
  have:=cj e hi;exact px _ s pub e.c e.s (aF e) x.val (hs.kept (a.trans x.property)) hp hi.h5 hi.h6 (by omega)
 obtain⟨s0,s1,s2,s3,s4⟩:=bx5 hb rfl;obtain⟨z,c1,c2,c3,c4,c5,c6,c7⟩:=bx8 hz rfl;have a4:=hid (hk.kept a);have HW:=hid N;have B:=hid a;have a5:=hid hki;have k:Hid (aN s keys e=(aS s e&&(decide (e.gate < keys.length)&&sigB s (nth keys e.gate.toNat) (aF e) e.c e.s))):=rfl;have a0:Hid (aS s e=true->0<=e.gate):=fun h=>(dS h).2.2.1.1
 generalize b:aN s keys e=R at k ⊢
 generalize a2:aS s e=b1 at FO k a0
 clear N hb hz L b a2 a hs he M hk hi hki hE ib
 show Calls _ _ #[.agg #[s.P,s.Q,s.G,.slice n s.bases.length m,s.blind],_,.agg #[e.gate,e.no,e.time,e.kind,.slice f e.nums.length d,e.text,e.c,e.s]] _ _
 have p:Hid (Calls prog 101 #[.agg #[s.P,s.Q,s.G,.slice n s.bases.length m,s.blind],.agg #[e.gate,e.no,e.time,e.kind,.slice f e.nums.length d,e.text,e.c,e.s]] W fun en w2=>en=.returned b1/\Kept [] W w2):=FO ⟨W,kr⟩
 have wl:IntKind.i64.wrap ((keys.length:Int) - 1)=(keys.length:Int) - 1:=by rw[IntKind.wrap_i64];omega
 have IN:Hid (∀w',Calls prog 29 #[e.gate,.int .i64 0,.int .i64 ((keys.length:Int) - 1)] w' fun en w2=>en=.returned (.bool (inB e.gate 0 ((keys.length:Int) - 1)))/\w'=w2):=fun w'=>bF _ _ _ w';clear FO
 cases b1
 ·have b:=k.out;simp only[Bool.false_and]at b;subst b
  go_enter func65,ntmps65
  go_upto_region 1 with(fail);have hW':(w.alloc (.cells #[s.P,s.Q,s.G,.slice n s.bases.length m,s.blind] 26)).alloc (.cells #[e.gate,e.no,e.time,e.kind,.slice f e.nums.length d,e.text,e.c,e.s] 52)=W:=HW.out;rw[hW'];clear hW';have J:=s0 ⟨W,kr⟩;have I:=s1 ⟨W,kr⟩;have F:=s2 ⟨W,kr⟩;have E:=s3 ⟨W,kr⟩;have D:=s4 ⟨W,kr⟩;have r:=z ⟨W,kr⟩;have d1:=c1 ⟨W,kr⟩;have Z:=c2 ⟨W,kr⟩;have Y:=c3 ⟨W,kr⟩;have X:=c4 ⟨W,kr⟩;have V:=c5 ⟨W,kr⟩;have U:=c6 ⟨W,kr⟩;have T:=c7 ⟨W,kr⟩;go_wp2_with (go_at_call 101;with_reducible refine p.out.mono ?_)
  first|(rintro O q rfl l)|(rintro O q ⟨rfl,l⟩)
  clear J I F E D r d1 Z Y X V U T;go_wp2_with fail;go_ret;exact⟨rfl,B.trans l⟩
 have o:=a0 (by trivial)
 by_cases hg:e.gate < keys.length
 rotate_left
 ·have b:=k.out;rw[decide_eq_false hg]at b;simp only[Bool.false_and,Bool.and_false]at b;subst b
  have i:inB e.gate 0 ((keys.length:Int) - 1)=false:=by
   cases h:inB e.gate 0 ((keys.length:Int) - 1)
   ·rfl
   ·have:=(ci _ _ _).1 h;omega
  rw[i]at IN;clear hg i o
  go_enter func65,ntmps65
  go_upto_region 1 with(fail);have hW':(w.alloc (.cells #[s.P,s.Q,s.G,.slice n s.bases.length m,s.blind] 26)).alloc (.cells #[e.gate,e.no,e.time,e.kind,.slice f e.nums.length d,e.text,e.c,e.s] 52)=W:=HW.out;rw[hW'];clear hW';have J:=s0 ⟨W,kr⟩;have I:=s1 ⟨W,kr⟩;have F:=s2 ⟨W,kr⟩;have E:=s3 ⟨W,kr⟩;have D:=s4 ⟨W,kr⟩;have r:=z ⟨W,kr⟩;have d1:=c1 ⟨W,kr⟩;have Z:=c2 ⟨W,kr⟩;have Y:=c3 ⟨W,kr⟩;have X:=c4 ⟨W,kr⟩;have V:=c5 ⟨W,kr⟩;have U:=c6 ⟨W,kr⟩;have T:=c7 ⟨W,kr⟩;go_wp2_with (go_at_call 101;with_reducible refine p.out.mono ?_)
  first|(rintro O q rfl l)|(rintro O q ⟨rfl,l⟩)
  clear J I F E D r d1 Z Y X V U T;have r:=z ⟨q,l⟩;go_wp2_with (go_at_call 29;with_reducible refine(IN.out _).mono ?_;rintro e2 w5 ⟨rfl,rfl⟩);go_ret;exact⟨rfl,B.trans l⟩
 have b:=k.out;rw[decide_eq_true hg]at b;simp only[Bool.true_and]at b;have i:inB e.gate 0 ((keys.length:Int) - 1)=true:=(ci _ _ _).2 ⟨o,by omega⟩;rw[i]at IN;obtain⟨g,t⟩:=Int.eq_ofNat_of_zero_le o
 have v:g < keys.length:=by omega
 obtain⟨kb,ko,rfl,j⟩:=a4.out.at_ (by omega);have y0:∀x:KW W,x.val.cell? ⟨kb,ko+g,none⟩=some (.int .i64 keys[g]):=fun x=>x.cell (j g _ (aL v));have y:=b;rw[t,Int.toNat_natCast,show nth keys g=keys[g]by unfold nth;rw[List.getD_eq_getElem?_getD,List.getElem?_eq_getElem v];rfl]at y;have A:=SG keys[g] (a5 _ (List.getElem_mem v));rw[<-y]at A;have a3:=hid A;clear b y A j hg SG i o;have C:=hid t;clear t
 go_enter func65,ntmps65
 go_upto_region 1 with(fail);have hW':(w.alloc (.cells #[s.P,s.Q,s.G,.slice n s.bases.length m,s.blind] 26)).alloc (.cells #[e.gate,e.no,e.time,e.kind,.slice f e.nums.length d,e.text,e.c,e.s] 52)=W:=HW.out;rw[hW'];clear hW';have J:=s0 ⟨W,kr⟩;have I:=s1 ⟨W,kr⟩;have F:=s2 ⟨W,kr⟩;have E:=s3 ⟨W,kr⟩;have D:=s4 ⟨W,kr⟩;have r:=z ⟨W,kr⟩;have d1:=c1 ⟨W,kr⟩;have Z:=c2 ⟨W,kr⟩;have Y:=c3 ⟨W,kr⟩;have X:=c4 ⟨W,kr⟩;have V:=c5 ⟨W,kr⟩;have U:=c6 ⟨W,kr⟩;have T:=c7 ⟨W,kr⟩;go_wp2_with (go_at_call 101;with_reducible refine p.out.mono ?_)
 first|(rintro O q rfl l)|(rintro O q ⟨rfl,l⟩)
 clear J I F E D r d1 Z Y X V U T;have r:q.cell? ⟨w.heap.size+1,0,none⟩=some (.int .i64 e.gate):=z ⟨q,l⟩;go_wp2_with (go_at_call 29;with_reducible refine(IN.out _).mono ?_;rintro e2 w5 ⟨rfl,rfl⟩);clear r
 have f0:∀x:KW W,x.val.cell? ⟨w.heap.size+1,0,none⟩=some (.int .i64 (g:Int)):=fun x=>by rw[<-C.out];exact z x
 have a6:Hid (∀x:KW W,Calls prog 103 #[.agg #[.int .i64 (g:Int),e.no,e.time,e.kind,.slice f e.nums.length d,e.text,e.c,e.s]] x.val fun en w2=>en=.returned (.string ⟨(aF e).toArray⟩)/\Kept [] x.val w2):=fun x=>by
  have h:=BO x;rw[C.out]at h;exact h
 clear z BO p IN
 have dg:(g:Int) < (keys.length:Int):=by omega
 rw[C.out];refine ax W l (by kernel_rfl) (by kernel_rfl) ?_
 repeat (go_big_quiet_step (first|(go_at_call 103;exact aA (a6 _))|(go_at_call 102;exact aA (a3 _))))
 refine wpQuiet_nil ?_;rintro w5 ⟨⟨_,a1⟩,rfl⟩;go_wp2_with fail;go_ret;exact⟨rfl,B.trans a1⟩
end Go.Proofs.YtcidfldeiklcjaaGreatDoor
namespace Go.Proofs.YtcidfldeiklcjaaGreatDoor.Tm
def ltB(a b:Ent):Bool:=if a.gate=b.gate then(if a.no=b.no then Op.bytesLess (encE a) (encE b)else decide (a.no < b.no))else decide (a.gate < b.gate)
theorem sB(a b:Ent):ltB a b=true↔ltE a b:=by
 unfold ltB ltE
 by_cases hg:a.gate=b.gate
 ·rw[if_pos hg]
  by_cases hn:a.no=b.no
  ·rw[if_pos hn]
   constructor
   ·exact fun h=>Or.inr ⟨hg,Or.inr ⟨hn,h⟩⟩
   ·rintro(h|⟨_,h|⟨_,h⟩⟩)
    ·omega
    ·omega
    ·exact h
  ·rw[if_neg hn,decide_eq_true_iff]
   constructor
   ·exact fun h=>Or.inr ⟨hg,Or.inl h⟩
   ·rintro(h|⟨_,h|⟨h,_⟩⟩)
    ·omega
    ·exact h
    ·exact absurd h hn
 ·rw[if_neg hg,decide_eq_true_iff]
  constructor
  ·exact Or.inl
  ·rintro(h|⟨h,_⟩)
   ·exact h
   ·exact absurd h hg
def insE(x:Ent):List Ent->List Ent
 | []=>[x]
 |y::t=>if ltB y x=true then y::insE x t else if encE y=encE x then y::t else x::y::t
theorem lR{x:Ent}(hx:EntI x):∀l:List Ent,(∀y∈l,EntI y)->∀z,z∈insE x l↔z=x\/z∈l
 | [],_,z=>by simp[insE]
 |y::t,hl,z=>by
  unfold insE
  split
  ·rw[List.mem_cons,lR hx t (fun y hy=>hl y (List.mem_cons_of_mem _ hy)) z,List.mem_cons]
   constructor
   ·rintro(h|h|h)
    ·exact Or.inr (Or.inl h)
    ·exact Or.inl h
    ·exact Or.inr (Or.inr h)
   ·rintro(h|h|h)
    ·exact Or.inr (Or.inl h)
    ·exact Or.inl h
    ·exact Or.inr (Or.inr h)
  ·split
   ·next h =>
    have hyx:=lZ (hl y List.mem_cons_self) hx h;subst hyx;rw[List.mem_cons]
    constructor
    ·exact Or.inr
    ·rintro(h|h)
     ·exact Or.inl h
     ·exact h
   ·rw[List.mem_cons,List.mem_cons]
theorem sF{x:Ent}(hx:EntI x):∀l:List Ent,(∀y∈l,EntI y)->Up l->Up (insE x l)
 | [],_,_=>by simp[insE,Up]
 |y::t,hl,hu=>by
  have hu2:=hu;rw[Up,List.pairwise_cons]at hu2
  unfold insE
  split
  ·next h =>
   rw[Up,List.pairwise_cons];refine⟨fun z hz=>?_,sF hx t (fun y hy=>hl y (List.mem_cons_of_mem _ hy)) hu2.2⟩
   rcases(lR hx t (fun y hy=>hl y (List.mem_cons_of_mem _ hy)) z).1 hz with rfl|e
   ·exact(sB _ _).1 h
   ·exact hu2.1 z e
  ·next h =>
   split
   ·exact hu
   ·next h2 =>
    have hxy:ltE x y:=by
     rcases ltE_tri (hl y List.mem_cons_self) hx with e|e|e
     ·exact absurd ((sB _ _).2 e) h
     ·exact absurd (by rw[e]) h2
     ·exact e
    rw[Up,List.pairwise_cons];refine⟨fun z hz=>?_,hu⟩
    rcases List.mem_cons.1 hz with rfl|e
    ·exact hxy
    ·exact dH hxy (hu2.1 z e)
theorem lS(x:Ent):∀l:List Ent,(insE x l).length<=l.length+1
 | []=>by simp[insE]
 |y::t=>by
  unfold insE
  have:=lS x t
  split
  ·simp only[List.length_cons];omega
  ·split <;> simp only[List.length_cons] <;> omega
theorem rG(sg:Ent->Bool)(l:List Ent):bA sg (l.take 0) []:=⟨List.Pairwise.nil,fun z=>by simp⟩
theorem wF{sg:Ent->Bool}{l o:List Ent}(h:bA sg l o)(hI:∀e∈l,EntI e):∀e∈o,EntI e:=fun e he=>hI e ((h.2 e).1 he).1
theorem uh{sg:Ent->Bool}{l o:List Ent}{k:Nat}(h:bA sg (l.take k) o)(hk:k < l.length)(hs:sg l[k]=false):bA sg (l.take (k+1)) o:=by
 refine⟨h.1,fun z=>?_⟩;rw[h.2 z,List.take_succ_eq_append_getElem hk,List.mem_append,List.mem_singleton]
 constructor
 ·rintro⟨h1,h2⟩;exact⟨Or.inl h1,h2⟩
 ·rintro⟨h1|h1,h2⟩
  ·exact⟨h1,h2⟩
  ·subst h1;rw[hs]at h2;cases h2
theorem wG{sg:Ent->Bool}{l o:List Ent}{k:Nat}(h:bA sg (l.take k) o)(hI:∀e∈l,EntI e)(hk:k < l.length)(hs:sg l[k]=true):bA sg (l.take (k+1)) (insE l[k] o):=by
 have hx:=hI _ (List.getElem_mem hk);have ho:∀y∈o,EntI y:=wF h fun e he=>hI e (List.mem_of_mem_take he);refine⟨sF hx o ho h.1,fun z=>?_⟩;rw[lR hx o ho z,h.2 z,List.take_succ_eq_append_getElem hk,List.mem_append,List.mem_singleton]
 constructor
 ·rintro(h1|⟨h1,h2⟩)
  ·exact⟨Or.inr h1,by rw[h1];exact hs⟩
  ·exact⟨Or.inl h1,h2⟩
 ·rintro⟨h1|h1,h2⟩
  ·exact Or.inr ⟨h1,h2⟩
  ·exact Or.inl h1
structure InA (x:Ent) (out l:List Ent) (k:Nat):Prop where
 l_:l=out.take k
 goes:insE x out=l++insE x (out.drop k)
structure InB (x:Ent) (out l:List Ent) (k:Nat):Prop where
 goes:insE x out=l++out.drop k
theorem InA.start(x:Ent)(out:List Ent):InA x out [] 0:=⟨by simp,by simp⟩
theorem kG{out:List Ent}{k:Nat}(hk:k < out.length):out.drop k=out[k]::out.drop (k+1):=List.drop_eq_getElem_cons hk
theorem InA.lt{x:Ent}{out l:List Ent}{k:Nat}(h:InA x out l k)(hk:k < out.length)(hb:ltB out[k] x=true):InA x out (l++[out[k]]) (k+1):=by
 refine⟨by rw[h.l_,List.take_succ_eq_append_getElem hk],?_⟩;rw[h.goes,kG hk]
 show _++insE x (out[k]::out.drop (k+1))=_
 rw[insE,if_pos hb];simp
theorem InA.eq{x:Ent}{out l:List Ent}{k:Nat}(h:InA x out l k)(hk:k < out.length)(hb:ltB out[k] x=false)(he:encE out[k]=encE x):InB x out (l++[out[k]]) (k+1):=by
 refine⟨?_⟩;rw[h.goes,kG hk]
 show _++insE x (out[k]::out.drop (k+1))=_
 rw[insE,if_neg (by rw[hb];decide),if_pos he];simp
theorem InA.gt{x:Ent}{out l:List Ent}{k:Nat}(h:InA x out l k)(hk:k < out.length)(hb:ltB out[k] x=false)(he:¬encE out[k]=encE x):InB x out (l++[x]++[out[k]]) (k+1):=by
 refine⟨?_⟩;rw[h.goes,kG hk]
 show _++insE x (out[k]::out.drop (k+1))=_
 rw[insE,if_neg (by rw[hb];decide),if_neg he];simp
theorem InB.next{x:Ent}{out l:List Ent}{k:Nat}(h:InB x out l k)(hk:k < out.length):InB x out (l++[out[k]]) (k+1):=by
 refine⟨?_⟩;rw[h.goes,kG hk];simp
theorem InA.end_{x:Ent}{out l:List Ent}{k:Nat}(h:InA x out l k)(hk:out.length<=k):l++[x]=insE x out:=by rw[h.goes,List.drop_eq_nil_of_le hk];rfl
theorem InB.end_{x:Ent}{out l:List Ent}{k:Nat}(h:InB x out l k)(hk:out.length<=k):l=insE x out:=by rw[h.goes,List.drop_eq_nil_of_le hk];simp
end Go.Proofs.YtcidfldeiklcjaaGreatDoor.Tm
