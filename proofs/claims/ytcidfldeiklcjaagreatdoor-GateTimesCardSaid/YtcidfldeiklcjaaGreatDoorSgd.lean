import Derived.Test.YtcidfldeiklcjaaGreatDoorFmk
import Derived.Test.YtcidfldeiklcjaaGreatDoorDec
set_option maxRecDepth 100000
set_option maxHeartbeats 32000000
namespace Go.Proofs.YtcidfldeiklcjaaGreatDoor
open Go.RowKit Tm Tape
open Go.Proofs.Tryz
open Lib(hid)
def DecF(ok:Bool)(w:World)(e:Ending)(w':World):Prop:=∃(u0:Option Addr) (n0 c0:Nat) (u1:Option Addr) (n1 c1:Nat) (u2:Option Addr) (n2 c2:Nat) (u3:Option Addr) (n3 c3:Nat) (u4:Option Addr) (n4 c4:Nat) (u5:Option Addr) (n5 c5:Nat) (u6:Option Addr) (n6 c6:Nat) (u7:Option Addr) (n7 c7:Nat) (u8:Option Addr) (n8 c8:Nat),
 e=.returned (.tuple #[.agg #[.slice u0 n0 c0,.slice u1 n1 c1,.slice u2 n2 c2,.slice u3 n3 c3,.slice u4 n4 c4,.slice u5 n5 c5,.slice u6 n6 c6,.slice u7 n7 c7,.slice u8 n8 c8],.bool ok])/\Kept [] w w'
theorem nH{f:FuncId}{args:Array Value}{c:Rec}{ok:Bool}{w:World}(hc:Calls prog f args w (se (c,ok) w)):Calls prog f args w (DecF ok w) :=
 hc.mono fun _ _ ⟨v,he,⟨tk,sp,lk,cm,ch,bt,es,da,an,hv,hr⟩,k⟩=>by
  subst hv;obtain⟨htk,hsp,hlk,hcm,hch,hbt,hes,hda,han⟩:=hr;obtain⟨u0,c0,rfl,_,_⟩:=htk.form;obtain⟨u1,c1,rfl,_,_⟩:=hsp.form;obtain⟨u2,c2,rfl,_,_⟩:=hlk.form;obtain⟨u3,c3,rfl,_,_⟩:=hcm.form;obtain⟨u4,c4,rfl,_,_⟩:=hch.form;obtain⟨u5,c5,rfl,_,_⟩:=hbt.form;obtain⟨u6,c6,rfl,_,_⟩:=hes.form;obtain⟨u7,c7,rfl,_,_⟩:=hda.form;obtain⟨u8,c8,rfl,_,_⟩:=han.form;exact⟨u0,_,c0,u1,_,c1,u2,_,c2,u3,_,c3,u4,_,c4,u5,_,c5,u6,_,c6,u7,_,c7,u8,_,c8,he,k⟩
theorem nB(s:Stp)(e:Ent):aS s e=(aw s&&(inB e.gate 0 23&&(inB e.no 0 4095&&(inB e.time 0 2147483648&&(bB s e&&gj e))))):=rfl
theorem lV(vs ve:Value)(s:Stp)(e:Ent)(w:World)(hs:StpV w vs s)(he:EntA w ve e)(hi:EntI e)(hE:Env2 w) :
  Calls prog 52 #[vs,ve] w fun en w'=>en=.returned (.bool (aS s e))/\Kept [] w w':=by
 have hs':=hs;have he':=he;obtain⟨⟨t,c,rfl,I⟩,ip,iq,ig,ib,il⟩:=hs';obtain⟨u,rfl,r⟩:=he';obtain⟨D,C,rfl,_,_⟩:=r.form;obtain⟨W,V⟩:=nm ((w.alloc (.cells (stpA s (.slice t s.bases.length c)) 26)).alloc (.cells (entC e (.slice D e.nums.length C)).toArray 52));have hb:Blk W w.heap.size 26 (stpA s (.slice t s.bases.length c)):=V▸(Blk.new _ _ _).alloc _
 have hz:Blk W (w.heap.size+1) 52 (entC e (.slice D e.nums.length C)).toArray:=by
  have:=Blk.new (w.alloc (.cells (stpA s (.slice t s.bases.length c)) 26)) 52 (entC e (.slice D e.nums.length C)).toArray;rw[V,World.size_alloc]at this;exact this
 have f:Kept [] w W:=V▸(kr.alloc _).alloc _;have VS:Hid (Calls prog 58 #[.agg #[s.P,s.Q,s.G,.slice t s.bases.length c,s.blind]] W fun e j=>e=.returned (.bool (aw s))/\Kept [] W j):=bY _ s W (hs.kept f) (hE.kept0 f)
 have SH:Hid (aw s=true->0<=e.no->∀w',Kept [] W w'->Calls prog 81 #[.agg #[s.P,s.Q,s.G,.slice t s.bases.length c,s.blind],.agg #[e.gate,e.no,e.time,e.kind,.slice D e.nums.length C,e.text,e.c,e.s]] w' fun en j=>en=.returned (.bool (bB s e))/\Kept [] w' j):=fun h1 h2 w' k=>by
  obtain⟨q,a3,a4⟩:=bS h1;exact qT _ _ s q e w' (hs.kept (f.trans k)) a3 a4 (he.kept (f.trans k)) hi h2 (hE.kept0 (f.trans k))
 have DT:Hid (∀w',Kept [] W w'->Calls prog 82 #[e.text] w' (DtE e.text w')):=fun w' k=>qA e.text w' hi.l5 (hE.kept0 (f.trans k)).toEnv
 have DC:Hid (∀w',Kept [] W w'->Calls prog 83 #[e.text] w' (DecF (cS e.text).2 w')):=fun w' k=>by
  have:=hi.l5;exact nH (yI e.text w' (hE.kept0 (f.trans k)).toEnv (by omega))
 obtain⟨S0,S1,S2,S3,S4⟩:=bH5 hb rfl;obtain⟨C0,C1,C2,C3,C4,C5,C6,C7⟩:=bH8 hz rfl;have a5:=hid (r.kept f);have HW:=hid V;have g:=hid f;have b:=hid (nB s e)
 have a0:Hid (bB s e=true->e.kind=3->∃x y,e.nums=[x,y]):=fun h1 h2=>by
  unfold bB at h1
  rw[if_neg (by omega),if_neg (by omega),if_neg (by omega),if_pos h2]at h1;obtain⟨x,y,m,_,_⟩:=dh h1;exact⟨x,y,m⟩
 generalize a:aS s e=R at b ⊢
 have G1:=hid (fun w=>aV e.gate 0 23 w);have G2:=hid (fun w=>aV e.no 0 4095 w);have G3:=hid (fun w=>aV e.time 0 2147483648 w);have A:Hid (inB e.no 0 4095=true->0<=e.no):=fun h=>((ci _ _ _).1 h).1;obtain⟨b1,U⟩:=nm (aw s);obtain⟨b2,T⟩:=nm (inB e.gate 0 23);obtain⟨b3,O⟩:=nm (inB e.no 0 4095);obtain⟨b4,l⟩:=nm (inB e.time 0 2147483648);obtain⟨b5,N⟩:=nm (bB s e);rw[U]at VS SH b;rw[T]at G1 b;rw[O]at G2 b A;rw[l]at G3 b;rw[N]at SH b a0;clear V hb hz I r hE hi hs he a ib f U T O l N
 show Calls _ _ #[.agg #[s.P,s.Q,s.G,.slice t s.bases.length c,s.blind],.agg #[e.gate,e.no,e.time,e.kind,.slice D e.nums.length C,e.text,e.c,e.s]] _ _
 go_enter func52,ntmps52
 go_upto_region 1 with(fail);have hW':(w.alloc (.cells #[s.P,s.Q,s.G,.slice t s.bases.length c,s.blind] 26)).alloc (.cells #[e.gate,e.no,e.time,e.kind,.slice D e.nums.length C,e.text,e.c,e.s] 52)=W:=HW.out;rw[hW'];clear hW' HW;have s0:=S0.out W kr;have s1:=S1.out W kr;have s2:=S2.out W kr;have s3:=S3.out W kr;have s4:=S4.out W kr;have c0:=C0.out W kr;have c1:=C1.out W kr;have c2:=C2.out W kr;have Y:=C3.out W kr;have E:=C4.out W kr;have X:=C5.out W kr;have c6:=C6.out W kr;have c7:=C7.out W kr;go_wp2_with (go_at_call 58;with_reducible refine VS.out.mono ?_)
 first|(rintro e1 i rfl d)|(rintro e1 i ⟨rfl,d⟩)
 clear s0 s1 s2 s3 s4 c0 c1 c2 Y E X c6 c7;have s0:=S0.out i d;have s1:=S1.out i d;have s2:=S2.out i d;have s3:=S3.out i d;have s4:=S4.out i d;have c0:=C0.out i d;have c1:=C1.out i d;have c2:=C2.out i d;have Y:=C3.out i d;have E:=C4.out i d;have X:=C5.out i d;have c6:=C6.out i d;have c7:=C7.out i d
 cases b1
 ·have a:=b.out;simp only[Bool.false_and]at a;subst a;go_wp2_with fail;go_ret;exact⟨rfl,g.trans d⟩
 go_wp2_with (go_at_call 37;with_reducible refine(G1.out _).mono ?_);rintro e2 j ⟨rfl,rfl⟩
 cases b2
 ·have a:=b.out;simp only[Bool.false_and,Bool.true_and]at a;subst a;go_wp2_with fail;go_ret;exact⟨rfl,g.trans d⟩
 go_wp2_with (go_at_call 37;with_reducible refine(G2.out _).mono ?_);rintro e2 j ⟨rfl,rfl⟩
 cases b3
 ·have a:=b.out;simp only[Bool.false_and,Bool.true_and]at a;subst a;go_wp2_with fail;go_ret;exact⟨rfl,g.trans d⟩
 go_wp2_with (go_at_call 37;with_reducible refine(G3.out _).mono ?_);rintro e2 j ⟨rfl,rfl⟩
 cases b4
 ·have a:=b.out;simp only[Bool.false_and,Bool.true_and]at a;subst a;go_wp2_with fail;go_ret;exact⟨rfl,g.trans d⟩
 have Z:=hid (SH (by trivial) (A (by trivial)) i d);go_wp2_with (go_at_call 81;with_reducible refine Z.out.mono ?_)
 first|(rintro e2 j rfl k2)|(rintro e2 j ⟨rfl,k2⟩)
 have p:=hid (d.trans k2);clear s0 s1 s2 s3 s4 c0 c1 c2 Y E X c6 c7;clear d k2 SH Z G1 G2 G3 VS A
 cases b5
 ·have a:=b.out;simp only[Bool.false_and,Bool.true_and]at a;subst a;go_wp2_with fail;go_ret;exact⟨rfl,g.trans p⟩
 have v:Hid (R=gj e):=by show _=_;have:=b.out;simpa using this
 have Y:=C3.out j p;have E:=C4.out j p;have X:=C5.out j p
 by_cases m:e.kind=3
 ·have a:=v.out
  unfold gj at a
  rw[if_pos m]at a;obtain⟨x,y,n⟩:=a0 (by trivial) m
  have J:e.nums.length=2:=by rw[n];rfl
  obtain⟨rb,ro,rfl,_,x1⟩:=fp a5 n J;have X1:=hid (Kept.cellOf x1)
  have l1:(1:Nat) < e.nums.length:=by omega
  rw[n]at a
  have d3:(e.kind==3)=true:=by simpa using m
  have a2:=hid a;clear a n J x1 m;go_wp2_with (go_at_call 82;with_reducible refine(DT.out j p.out).mono ?_);rintro e3 w3 ⟨i0,i3,i6,i7,tq,pa,ra,pn,pc,rn,rc,rfl,k3⟩;have z:=a2.out;obtain⟨dd,M⟩:=nm (Dt.xr e.text);obtain⟨kk,L⟩:=nm (Dt.okT e.text);rw[M,L]at z ⊢;have a1:=hid z;clear M L z a2 Y E X d3;have K3:=hid (p.trans k3);clear k3;go_upto_region 6 with(fail);obtain⟨F,o⟩:=nm (w3.alloc (.cells #[i0,tq,.slice pa pn pc,i3,.slice ra rn rc,dd,i6,i7] 88));have l:Blk F w3.heap.size 88 #[i0,tq,.slice pa pn pc,i3,.slice ra rn rc,dd,i6,i7]:=o▸Blk.new _ _ _;have K4:Hid (Kept [] W F):=hid (o▸K3.out.alloc _);rw[o];have t5:F.cell? ⟨w3.heap.size,5,none⟩=some (.int .i64 dd):=l.cell 5;have E:=C4.out F K4;have y1:=X1.out F K4;clear l o
  cases kk
  ·have a:=a1.out;rw[Bool.false_and]at a;subst a
   go_quiet (fail)
   go_wp2_with fail;go_ret;exact⟨rfl,(g.trans K4).drewN _⟩
  ·have a:R=decide (dd=y):=a1.out;subst a
   go_quiet (fail)
   go_wp2_with fail;go_ret;exact⟨rfl,(g.trans K4).drewN _⟩
 ·have d3:(e.kind==3)=false:=by simpa using m
  by_cases h4:e.kind=4
  ·have a:=v.out
   unfold gj at a
   rw[if_neg m,if_pos h4]at a
   have d4:(e.kind==4)=true:=by simpa using h4
   have B:=DC j p;rw[<-a]at B;have a6:=hid B;clear a m h4 B;go_wp2_with (go_at_call 83;with_reducible refine a6.out.mono ?_);rintro e3 w3 ⟨u0,n0,m0,u1,n1,m1,u2,n2,m2,u3,n3,m3,u4,n4,m4,u5,n5,m5,u6,n6,m6,u7,n7,m7,u8,n8,m8,rfl,k3⟩;go_wp2_with fail;go_ret;exact⟨rfl,g.trans ((p.trans k3).alloc _)⟩
  ·have a:=v.out
   unfold gj at a
   rw[if_neg m,if_neg h4]at a
   have d4:(e.kind==4)=false:=by simpa using h4
   clear m h4;subst a;go_wp2_with fail;go_ret;exact⟨by rw[show decide (e.text=[])=e.text.isEmpty by cases e.text <;> rfl];simp,g.out.trans p.out⟩
end Go.Proofs.YtcidfldeiklcjaaGreatDoor
namespace Go.Proofs.YtcidfldeiklcjaaGreatDoor
open Go.RowKit
theorem ltSub(N:Nat)(a b:Int)(h:1<=N):subN N a b < N:=Nat.mod_lt _ (by omega)
theorem vB(N:Nat)(a b:Int)(w:World)(h1:1<=N)(h2:N < 2305843009213693952)(ha:Wire.I64 a)(hb:Wire.I64 b) :
  Calls Tryz.prog 239 #[N,a,b] w fun e w'=>e=.returned (.int .i64 ((subN N a b:Nat):Int))/\w=w':=by
 have V:=Lib.hid (bP N w h1 h2);have g:=Lib.hid (bi N a w h1 h2 ha);have f:=Lib.hid (bi N b w h1 h2 hb);have i:=bw N a h1;have h:=bw N b h1
 have hz':¬(N:Int)=0:=by omega
 unfold subN
 obtain⟨x,d⟩:=nm (res N a);obtain⟨y,c⟩:=nm (res N b);rw[d]at g i ⊢;rw[c]at f h ⊢;have l:((x:Int)+(N:Int) - (y:Int)) % (N:Int) < N:=Int.emod_lt_of_pos _ (by omega);have k:0<=((x:Int)+(N:Int) - (y:Int)) % (N:Int):=Int.emod_nonneg _ (by omega);clear d c
 go_enter Tryz.func239,Tryz.ntmps239
 go_wp2_with (first
  |(go_at_call 188;refine V.out.mono ?_;rintro e w' ⟨rfl,rfl⟩)
  |(go_at_call 149;with_reducible refine g.out.mono ?_;rintro e w' ⟨rfl,rfl⟩)
  |(go_at_call 149;with_reducible refine f.out.mono ?_;rintro e w' ⟨rfl,rfl⟩))
 go_ret;refine⟨?_,rfl⟩
 have j:(((x+N - y) % N:Nat):Int)=((x:Int)+(N:Int) - (y:Int)) % (N:Int):=by
  rw[Int.natCast_emod,show((x+N - y:Nat):Int)=(x:Int)+(N:Int) - (y:Int)by omega]
 rw[j]
 rfl
section
set_option maxHeartbeats 400000
end
end Go.Proofs.YtcidfldeiklcjaaGreatDoor
namespace Itp
def Cg(q a b:Int):Prop:=∃t,a - b=q*t
theorem Cg.symm{q a b:Int}:Cg q a b->Cg q b a:=fun⟨t,h⟩=>⟨-t,by grind⟩
theorem Cg.trans{q a b c:Int}:Cg q a b->Cg q b c->Cg q a c:=fun⟨t,h⟩ ⟨u,k⟩=>⟨t+u,by grind⟩
theorem Cg.mul{q a b c d:Int}:Cg q a b->Cg q c d->Cg q (a*c) (b*d):=fun⟨t,h⟩ ⟨u,k⟩=>⟨t*c+b*u,by grind⟩
theorem Cg.mod(q a:Int):Cg q (a % q) a:=⟨-(a / q),by have:=Int.emod_add_mul_ediv a q;grind⟩
theorem Cg.eq_of_lt{q a b:Int}(h:Cg q a b)(ha:0<=a)(ha':a < q)(hb:0<=b)(hb':b < q):a=b:=by
 obtain⟨t,h⟩:=h
 have h1:a % q=b % q:=by
  rw[show a=b+q*t by omega,Int.add_mul_emod_self_left]
 rwa [Int.emod_eq_of_lt ha ha',Int.emod_eq_of_lt hb hb']at h1
section newton
variable (q:Int) (x:Nat->Int) (dd:Nat->Nat->Int)
variable (hd:∀k i,k+1<=i->Cg q (dd (k+1) i*(x i - x (i - (k+1)))) (dd k i - dd k (i - 1)))
include hd
omit hd
end newton
end Itp
namespace Go.Proofs.YtcidfldeiklcjaaGreatDoor
open Go.RowKit
open Go.Proofs.Tryz
open Lib(hid)
theorem yZ(N:Nat)(a b:Int)(h:1<=N):mulN N a b < N:=Nat.mod_lt _ (by omega)
theorem jr(q:Nat)(a:Int)(h:1<=q):Itp.Cg q ((res q a:Nat):Int) a:=by rw[oq q a h];exact Itp.Cg.mod q a
theorem zH(q:Nat)(a b:Int)(h:1<=q):Itp.Cg q ((mulN q a b:Nat):Int) (a*b):=by
 unfold mulN
 rw[Int.natCast_emod,Int.natCast_mul];exact(Itp.Cg.mod _ _).trans ((jr q a h).mul (jr q b h))
theorem zt(q:Nat)(a b:Int)(h:1<=q):Itp.Cg q ((subN q a b:Nat):Int) (a - b):=by
 unfold subN
 have l:=bw q b h;rw[Int.natCast_emod,Int.natCast_sub (by omega),Int.natCast_add];obtain⟨t,ht⟩:=jr q a h;obtain⟨u,hu⟩:=jr q b h;exact(Itp.Cg.mod _ _).trans ⟨t - u+1,by grind⟩
structure InvS (q:Nat) (a:Int) (r s x y:Nat):Prop where
 hr:r<=q
 hs:s < q
 hx:x < q
 hy:y < q
 cx:Itp.Cg q (x*a) r
 cy:Itp.Cg q (y*a) s
 g:Nat.gcd r s=1
theorem InvS.start(q:Nat)(a:Int)(h2:2<=q)(hg:Nat.gcd q (res q a)=1):InvS q a q (res q a) 0 1 := ⟨Nat.le_refl _,bw q a (by omega),by omega,by omega,⟨-1,by grind⟩,by have:=(jr q a (by omega)).symm;simpa using this,hg⟩
theorem InvS.next{q:Nat}{a:Int}{r s x y:Nat}(h:InvS q a r s x y)(h2:2<=q)(h0:s≠0) :
  InvS q a s (r % s) y (subN q (x:Int) ((mulN q ((r / s:Nat):Int) (y:Int):Nat):Int)):=by
 have f:r % s < s:=Nat.mod_lt _ (by omega);refine⟨by have:=h.hs;omega,by have:=h.hs;omega,h.hy,ltSub _ _ _ (by omega),h.cy,?_,?_⟩
 ·obtain⟨t,e⟩:=zt q (x:Int) ((mulN q ((r / s:Nat):Int) (y:Int):Nat):Int) (by omega);obtain⟨u,d⟩:=zH q ((r / s:Nat):Int) (y:Int) (by omega);obtain⟨v,c⟩:=h.cx;obtain⟨z,b⟩:=h.cy
  have hd:(r:Int)=((r / s:Nat):Int)*s+((r % s:Nat):Int):=by
   have:=Nat.div_add_mod r s;rw[<-Int.natCast_mul,<-Int.natCast_add,Nat.mul_comm];exact congrArg Nat.cast this.symm
  generalize((r / s:Nat):Int)=k at *
  generalize((r % s:Nat):Int)=m at *
  generalize((mulN q k (y:Int):Nat):Int)=p at *
  generalize((subN q (x:Int) p:Nat):Int)=n at *
  exact⟨t*a - u*a+v - k*z,by grind⟩
 ·rw[<-h.g,Nat.gcd_comm r s,Nat.gcd_rec s r,Nat.gcd_comm]
theorem InvS.done{q:Nat}{a:Int}{r x y:Nat}(h:InvS q a r 0 x y):r=1/\Itp.Cg q (x*a) 1:=by
 have hr:r=1:=by have:=h.g;rwa [Nat.gcd_zero_right]at this
 exact⟨hr,by have:=h.cx;rwa [hr]at this⟩
def InvP(q:Nat)(a:Int)(w:World)(e:Ending)(w':World):Prop:=(∃u:Nat,e=.returned (.tuple #[.int .i64 (u:Int),.bool true])/\u < q/\Itp.Cg q (u*a) 1)/\Kept [] w w'
theorem pg(r s:Nat):(r:Int).tdiv (s:Int)=((r / s:Nat):Int):=by
 rw[Int.tdiv_eq_ediv_of_nonneg (by omega)];rfl
theorem kN{x q:Nat}(h:x < q):(x:Int).tmod (q:Int)=(x:Int):=by
 rw[Int.tmod_eq_emod_of_nonneg (by omega),Int.emod_eq_of_lt (by omega) (by omega)]
theorem wX(q:Nat)(a:Int)(w:World)(h2:2<=q)(h3:q < 2305843009213693952)(ha:Wire.I64 a)(hg:Nat.gcd q (res q a)=1) :
  Calls prog 187 #[q,a] w (InvP q a w):=by
 have V:=hid (bI q w (by omega) h3);have R:=hid (br q a w (by omega) h3 ha);have n:=hid (InvS.start q a h2 hg);have t:=bw q a (by omega)
 generalize G:res q a=A at R n t
 have hz':¬(q:Int)=0:=by omega
 clear G hg
 go_enter func187,ntmps187
 go_wp2_with (first
  |(go_at_call 91;refine V.out.mono ?_;rintro e w' ⟨rfl,rfl⟩)
  |(go_at_call 141;with_reducible refine R.out.mono ?_;rintro e w' ⟨rfl,rfl⟩))
 go_loopw [6,7,8,9] (fun vr vs vx vy wr=>∃r s x y:Nat,vr=r/\vs=s/\vx=x/\vy=y/\InvS q a r s x y/\Kept [] w wr) (fun _ vs _ _ _=>(intOf vs).toNat)
 case atStart=>exact⟨q,A,0,1,rfl,rfl,rfl,rfl,n,kr⟩
 case round =>
  obtain⟨r,s,x,y,rfl,rfl,rfl,rfl,c,d⟩:=hrel
  by_cases h0:s=0
  ·subst h0;obtain⟨rfl,i⟩:=c.done;have g:=c.hx;have O:=kN g;have I:=hid i;clear c i;go_wp2_with fail
   go_ret2
   exact⟨⟨x,rfl,g,I⟩,d⟩
  ·have P:=c.hs;have Q:=c.hr;have g:=c.hx;have N:=c.hy;have f:=hid (c.next h2 h0)
   have z:¬(s:Int)=0:=by omega
   have hd:=pg r s;have D:r / s<=r:=Nat.div_le_self _ _
   have h:((r / s:Nat):Int)*(s:Int)=((r / s*s:Nat):Int):=by rw[Int.natCast_mul]
   have b:r / s*s+r % s=r:=Nat.div_add_mod' r s;obtain⟨k,hk'⟩:∃k,r / s=k:=⟨_,rfl⟩;obtain⟨m,hm'⟩:∃m,r % s=m:=⟨_,rfl⟩;rw[hk']at f hd D h b;rw[hm']at f b
   generalize B:k*s=p at h b
   have T:(r:Int) - (p:Int)=(m:Int):=by omega
   have l:=hid fun(w':World)=>iH q k y w' (by omega) h3 ⟨by omega,by omega⟩ ⟨by omega,by omega⟩;have o:=yZ q (k:Int) (y:Int) (by omega)
   generalize F:mulN q (k:Int) (y:Int)=M at l f o
   have j:=hid fun(w':World)=>wU q x M w' (by omega) h3 ⟨by omega,by omega⟩ ⟨by omega,by omega⟩
   generalize E:subN q (x:Int) (M:Int)=S at j f
   have C:m < s:=by rw[<-hm'];exact Nat.mod_lt _ (by omega)
   clear c hk' hm' B F E b;go_wp2_with (go_at_call 90;refine(l _).mono ?_);rintro e L ⟨rfl,v⟩;go_wp2_with (go_at_call 217;refine(j _).mono ?_);rintro e J ⟨rfl,u⟩;go_wp2_with fail
   go_roundw
   case rel=>exact⟨s,m,y,S,rfl,by go_num,rfl,rfl,f,d.trans (v.trans u)⟩
   case measure=>simp[intOf];omega
theorem vH(q:Nat)(a:Int)(w:World)(h2:2<=q)(h3:q < 2305843009213693952)(ha:Wire.I64 a)(hg:Nat.gcd q (res q a)=1) :
  Calls prog 225 #[q,a] w (InvP q a w):=by
 have V:=hid (bP q w (by omega) h3);have R:=hid (bi q a w (by omega) h3 ha);have n:=hid (InvS.start q a h2 hg);have t:=bw q a (by omega)
 generalize F:res q a=A at R n t
 have hz':¬(q:Int)=0:=by omega
 have z:(1:Int).tmod (q:Int)=1:=kN (x:=1) (by omega);clear F hg
 go_enter func225,ntmps225
 go_wp2_with (first
  |(go_at_call 188;refine V.out.mono ?_;rintro e w' ⟨rfl,rfl⟩)
  |(go_at_call 149;with_reducible refine R.out.mono ?_;rintro e w' ⟨rfl,rfl⟩))
 go_loopw [6,7,8,9,10,11,12] (fun vr vs vx vy _ _ _ wr=>∃r s x y:Nat,vr=r/\vs=s/\vx=x/\vy=y/\InvS q a r s x y/\Kept [] w wr) (fun _ vs _ _ _ _ _ _=>(intOf vs).toNat)
 case atStart=>exact⟨q,A,0,1,rfl,rfl,rfl,rfl,n,kr⟩
 case round =>
  obtain⟨r,s,x,y,rfl,rfl,rfl,rfl,c,d⟩:=hrel
  by_cases h0:s=0
  ·subst h0;obtain⟨rfl,i⟩:=c.done;have g:=c.hx;have N:=kN g;have G:=hid i;clear c i;go_wp2_with fail
   go_ret2
   exact⟨⟨x,rfl,g,G⟩,d⟩
  ·have O:=c.hs;have P:=c.hr;have g:=c.hx;have L:=c.hy;have f:=hid (c.next h2 h0)
   have u:¬(s:Int)=0:=by omega
   have hd:=pg r s;have C:r / s<=r:=Nat.div_le_self _ _
   have h:((r / s:Nat):Int)*(s:Int)=((r / s*s:Nat):Int):=by rw[Int.natCast_mul]
   have b:r / s*s+r % s=r:=Nat.div_add_mod' r s;obtain⟨k,hk'⟩:∃k,r / s=k:=⟨_,rfl⟩;obtain⟨m,hm'⟩:∃m,r % s=m:=⟨_,rfl⟩;rw[hk']at f hd C h b;rw[hm']at f b
   generalize v:k*s=p at h b
   have Q:(r:Int) - (p:Int)=(m:Int):=by omega
   have l:=hid fun(w':World)=>dL q k y w' (by omega) h3 ⟨by omega,by omega⟩ ⟨by omega,by omega⟩;have o:=yZ q (k:Int) (y:Int) (by omega)
   generalize E:mulN q (k:Int) (y:Int)=M at l f o
   have j:=hid fun(w':World)=>vB q x M w' (by omega) h3 ⟨by omega,by omega⟩ ⟨by omega,by omega⟩
   generalize D:subN q (x:Int) (M:Int)=S at j f
   have B:m < s:=by rw[<-hm'];exact Nat.mod_lt _ (by omega)
   clear c hk' hm' v E D b
   go_wp2_with (first
    |(go_at_call 150;refine(l _).mono ?_;rintro e J ⟨rfl,rfl⟩)
    |(go_at_call 239;refine(j _).mono ?_;rintro e I ⟨rfl,rfl⟩))
   go_roundw
   case rel=>exact⟨s,m,y,S,rfl,by go_num,rfl,rfl,f,d⟩
   case measure=>simp[intOf];omega
end Go.Proofs.YtcidfldeiklcjaaGreatDoor
namespace Go.Proofs.YtcidfldeiklcjaaGreatDoor
open Go.RowKit
theorem qh(q:Nat)(a:Int){u v:Nat}(hu:u < q)(hv:v < q)(cu:Itp.Cg q (u*a) 1)(cv:Itp.Cg q (v*a) 1):u=v:=by
 obtain⟨s,hs⟩:=cu;obtain⟨t,ht⟩:=cv;have:Itp.Cg q (u:Int) (v:Int):=⟨v*s - u*t,by grind⟩;have:=this.eq_of_lt (by omega) (by omega) (by omega) (by omega);omega
theorem zM(q:Nat)(a:Int)(u:Nat)(w:World)(h2:2<=q)(h3:q < 2305843009213693952)(ha:Wire.I64 a)(hg:Nat.gcd q (res q a)=1)(hu:u < q)(hc:Itp.Cg q (u*a) 1) :
  Calls Tryz.prog 187 #[q,a] w fun e w'=>e=.returned (.tuple #[.int .i64 (u:Int),.bool true])/\Kept [] w w' :=
 (wX q a w h2 h3 ha hg).mono fun e w' ⟨⟨v,he,hv,cv⟩,k⟩=>⟨by rw[qh q a hu hv hc cv];exact he,k⟩
theorem zy(q:Nat)(a:Int)(u:Nat)(w:World)(h2:2<=q)(h3:q < 2305843009213693952)(ha:Wire.I64 a)(hg:Nat.gcd q (res q a)=1)(hu:u < q)(hc:Itp.Cg q (u*a) 1) :
  Calls Tryz.prog 225 #[q,a] w fun e w'=>e=.returned (.tuple #[.int .i64 (u:Int),.bool true])/\Kept [] w w' :=
 (vH q a w h2 h3 ha hg).mono fun e w' ⟨⟨v,he,hv,cv⟩,k⟩=>⟨by rw[qh q a hu hv hc cv];exact he,k⟩
open Go.Proofs.Tryz ShaP
open Lib(hid)
def invN(q:Nat)(b:Int):Nat:=res (2*q+1) b ^ (q - 1) % (2*q+1)
def overN(q:Nat)(a b:Int):Nat:=mulN (2*q+1) a (invN q b)
theorem sE{q:Nat}{b:Int}(hq:1<=q)(h:powN (2*q+1) b q=1):Itp.Cg ((2*q+1:Nat):Int) ((invN q b:Nat)*b) 1:=by
 obtain⟨P,hP⟩:=nm (2*q+1)
 have hP3:3<=P:=by omega
 unfold invN
 unfold powN at h
 rw[hP]at h ⊢;obtain⟨x,hx⟩:=nm (res P b);have hc:=jr P b (by omega);rw[hx]at h hc ⊢
 have h1:Itp.Cg (P:Int) ((x ^ (q - 1) % P:Nat):Int) ((x ^ (q - 1):Nat):Int):=by rw[Int.natCast_emod];exact Itp.Cg.mod _ _
 have h2:Itp.Cg (P:Int) (((x ^ (q - 1)*x:Nat)):Int) 1:=by
  rw[<-Nat.pow_succ,show(q - 1).succ=q by omega]
  have:Itp.Cg (P:Int) ((x ^ q % P:Nat):Int) ((x ^ q:Nat):Int):=by rw[Int.natCast_emod];exact Itp.Cg.mod _ _
  rw[h]at this;exact this.symm
 rw[Int.natCast_mul]at h2;exact(h1.mul hc.symm).trans h2
theorem sM{P x q:Nat}(hq:1<=q)(h:x ^ q % P=1):Nat.gcd P x=1:=by
 have h1:=Nat.gcd_dvd_left P x;have h2:=Nat.gcd_dvd_right P x
 have h3:Nat.gcd P x ∣ x ^ q:=by
  obtain⟨m,rfl⟩:∃m,q=m+1:=⟨q - 1,by omega⟩;rw[Nat.pow_succ];exact Nat.dvd_trans h2 (Nat.dvd_mul_left _ _)
 have h4:=(Nat.dvd_mod_iff h1).2 h3;rw[h]at h4;exact Nat.dvd_one.1 h4
theorem tL(q:Nat)(b:Int)(w:World)(hq:5<=q)(hq2:q < 1152921504606846976)(hb:Wire.I64 b)(h:powN (2*q+1) b q=1) :
  Calls prog 146 #[.int .i64 ((2*q+1:Nat):Int),b,.int .i64 (-1)] w fun e w'=>e=.returned (.int .i64 ((invN q b:Nat):Int))/\Kept [] w w':=by
 have c:=sE (by omega) h;have a:invN q b < 2*q+1:=Nat.mod_lt _ (by omega);have f:Nat.gcd (2*q+1) (res (2*q+1) b)=1:=sM (by omega) (q:=q) h
 generalize m:2*q+1=P at c a f ⊢
 have V:=hid (bI P w (by omega) (by omega));have k:=hid (zM P b (invN q b) w (by omega) (by omega) hb f a c)
 generalize l:invN q b=u at a k ⊢
 have n:Hid (∀w',Calls prog 140 #[P,.int .u64 u,.int .u64 1] w' fun e d=>e=.returned (.int .u64 (u:Int))/\Kept [] w' d):=fun w'=>by
  have:=fQ P u 1 w' (by omega) (by omega) a (by omega);rw[Nat.pow_one,Nat.mod_eq_of_lt a]at this;exact this
 have s:decide ((0:Int)<=-1)=false:=by decide
 have r:IntKind.u64.wrap (u:Int)=(u:Int):=by rw[IntKind.wrap_u64];omega
 have p:IntKind.i64.wrap (u:Int)=(u:Int):=by rw[IntKind.wrap_i64];omega
 have o:IntKind.u64.wrap (-IntKind.u64.wrap (-1))=1:=by decide
 clear c f l m h
 go_enter func146,ntmps146
 go_wp2_with (first
  |(go_at_call 91;((with_reducible refine V.out.mono ?_);rintro e g ⟨rfl,rfl⟩))
  |(go_at_call 187;with_reducible refine k.out.mono ?_))
 first|(rintro e g rfl j)|(rintro e g ⟨rfl,j⟩)
 go_wp2_with (go_at_call 140;with_reducible refine(n.out _).mono ?_)
 first|(rintro e d rfl i)|(rintro e d ⟨rfl,i⟩)
 go_wp2_with fail;go_ret;exact⟨rfl,j.trans i⟩
theorem te(P Q G a b:Int)(q:Nat)(w:World)(hok:GrpOk P Q G q)(ha:Wire.I64 a)(hb:Wire.I64 b) :
  Calls prog 161 #[.agg (grpV P Q G),a,b] w fun e w'=>e=.returned (.int .i64 ((mulN (2*q+1) a b:Nat):Int))/\Kept [] w w':=by
 have l:=hok.hq;have m:=hok.h5;have d:=hok.hP;have h:=hok.hQ
 generalize n:2*q+1=p at d ⊢
 subst d h;obtain⟨W,f⟩:=nm (w.alloc (.cells (grpV p q G) 23));have c:=bn f;have g:=ka (S:=[]) f;obtain⟨v,u⟩:=bc2 c rfl;have s:=hid f;have o:=hid (bI q W (by omega) (by omega));have i:=hid (iH p a b W (by omega) (by omega) ha hb)
 generalize k:mulN p a b=r at i ⊢
 clear f c n hok k
 show Calls _ _ #[.agg #[p,q,G],_,_] _ _
 go_enter func161,ntmps161
 go_upto_region 1 with(fail)
 erw[s.out]
 go_wp2_with (first
  |(go_at_call 91;((with_reducible refine o.out.mono ?_);rintro e w' ⟨rfl,rfl⟩))
  |(go_at_call 90;with_reducible refine i.out.mono ?_;rintro e t ⟨rfl,j⟩))
 go_ret;exact⟨rfl,g.trans j⟩
theorem vQ(P Q G a b:Int)(q:Nat)(w:World)(hok:GrpOk P Q G q)(ha:Wire.I64 a)(hb:Wire.I64 b)(h:powN (2*q+1) b q=1) :
  Calls prog 107 #[.agg (grpV P Q G),a,b] w fun e w'=>e=.returned (.int .i64 ((overN q a b:Nat):Int))/\Kept [] w w':=by
 have i:=hok.hq;have p:=hok.h5;have d:=hok.hP;obtain⟨W,g⟩:=nm (w.alloc (.cells (grpV P Q G) 23));have c:=bn g;have j:=ka (S:=[]) g;have s:invN q b < 2*q+1:=Nat.mod_lt _ (by omega)
 have o:Hid (∀w',Calls prog 146 #[P,b,.int .i64 (-1)] w' fun e f=>e=.returned (.int .i64 ((invN q b:Nat):Int))/\Kept [] w' f):=fun w'=>by
  rw[d];exact tL q b w' (by omega) i hb h
 have l:Hid (∀w',Calls prog 161 #[.agg #[P,Q,G],a,.int .i64 ((invN q b:Nat):Int)] w' fun e f=>e=.returned (.int .i64 ((overN q a b:Nat):Int))/\Kept [] w' f):=fun w' =>
  te P Q G a _ q w' hok ha ⟨by omega,by omega⟩
 obtain⟨u,m⟩:=nm (invN q b);obtain⟨r,n⟩:=nm (overN q a b);rw[m]at o l;rw[n]at l ⊢;obtain⟨A,z,y⟩:=bk3 c rfl;have v:=hid g;clear g c m n h hok d
 show Calls _ _ #[.agg #[P,Q,G],_,_] _ _
 go_enter func107,ntmps107
 go_upto_region 1 with(fail)
 erw[v.out]
 go_region_held3 (fun w'=>Kept [] W w') (first|assumption|exact kr.drew)
  (first
   |(go_at_call 146;with_reducible refine(ai (W:=W) (by assumption) (o.out _)).mono ?_;rintro e f ⟨rfl,t⟩)
   |(go_at_call 161;with_reducible refine(ai (W:=W) (by assumption) (l.out _)).mono ?_;rintro e x ⟨rfl,k⟩))
 go_wp2_with fail;go_ret;exact⟨rfl,j.trans k⟩
def sigN(q:Nat)(G pub:Int)(msg:List UInt8)(c t:Int):Int:=(numN q (chaE msg pub (overN q (pwrN q G t:Nat) (pwrN q pub c:Nat):Nat)):Nat)
def sigB(s:Stp)(pub:Int)(msg:List UInt8)(c t:Int):Bool:=aw s&&(memB s.Q.toNat pub&&(bC s c&&(bC s t&&decide (sigN s.Q.toNat s.G pub msg c t=c))))
theorem mU{q:Nat}{x k:Int}(hm:memB q x=true):powN (2*q+1) (pwrN q x k:Nat) q=1:=by
 unfold memB at hm
 simp only[Bool.and_eq_true,decide_eq_true_eq,beq_iff_eq]at hm;have h:=hm.2.2
 have hq:0 < q:=by
  rcases Nat.eq_zero_or_pos q with rfl|hq
  ·simp[powN]at h
  ·exact hq
 have hlt:pwrN q x k < 2*q+1:=Nat.mod_lt _ (by omega)
 unfold powN at h ⊢
 rw[eD hlt]
 unfold pwrN
 generalize hP:2*q+1=P at h ⊢
 have hP1:1 < P:=by omega
 clear hlt hm hP;rw[<-Nat.pow_mod,<-Nat.pow_mul,Nat.mul_comm,Nat.pow_mul,Nat.pow_mod,h,Nat.one_pow];exact Nat.mod_eq_of_lt hP1
theorem qS(v:Value)(s:Stp)(pub c t:Int)(msg:List UInt8)(w:World)(h:StpV w v s)(ipb:Wire.I64 pub)(ic:Wire.I64 c)(it:Wire.I64 t)(hm:msg.length<=50000000)(hE:Env2 w) :
  Calls prog 71 #[v,pub,msg,.agg #[c,t]] w fun e w'=>e=.returned (.bool (sigB s pub msg c t))/\Kept [] w w':=by
 have h':=h;obtain⟨⟨C,B,rfl,T⟩,ip,iq,ig,ib,il⟩:=h';obtain⟨W,J⟩:=nm (((w.alloc (.cells (stpA s (.slice C s.bases.length B)) 26)).alloc (.cells #[c,t] 50)).alloc (.cells #[s.P,s.Q,s.G] 23));have hb:Blk W w.heap.size 26 (stpA s (.slice C s.bases.length B)):=J▸((Blk.new _ _ _).alloc _).alloc _
 have hz:Blk W (w.heap.size+1) 50 #[c,t]:=by
  have:=(Blk.new (w.alloc (.cells (stpA s (.slice C s.bases.length B)) 26)) 50 #[c,t]).alloc (.cells #[s.P,s.Q,s.G] 23);rw[J,World.size_alloc]at this;exact this
 have hg:Blk W (w.heap.size+1+1) 23 #[s.P,s.Q,s.G]:=by
  have:=Blk.new ((w.alloc (.cells (stpA s (.slice C s.bases.length B)) 26)).alloc (.cells #[c,t] 50)) 23 #[s.P,s.Q,s.G];rw[J,World.size_alloc,World.size_alloc]at this;exact this
 have d:Kept [] w W:=J▸((kr.alloc _).alloc _).alloc _;have VS:=hid (bY _ s W (h.kept d) (hE.kept0 d))
 have EL:Hid (aw s=true->∀w',Kept [] W w'->Calls prog 96 #[.agg #[s.P,s.Q,s.G],pub] w' fun e f=>e=.returned (.bool (memB s.Q.toNat pub))/\Kept [] w' f):=fun h1 w' k=>by
  obtain⟨q,b,U⟩:=bS h1
  have l:s.Q.toNat=q:=by have:=b.hQ;omega
  rw[l];exact fE s.P s.Q s.G pub q w' b U ipb (hE.kept0 (d.trans k))
 have X1:=hid fun(w':World) (kk:Kept [] W w')=>dE _ s c w' (h.kept (d.trans kk));have X2:=hid fun(w':World) (kk:Kept [] W w')=>dE _ s t w' (h.kept (d.trans kk))
 have g:Hid (aw s=true->memB s.Q.toNat pub=true->∃q:Nat,s.Q.toNat=q/\(sigN s.Q.toNat s.G pub msg c t=(numN q (chaE msg pub (overN q (pwrN q s.G t:Nat) (pwrN q pub c:Nat):Nat)):Nat)) /\
   (∀w',Calls prog 88 #[.agg #[s.P,s.Q,s.G],s.G,t] w' fun e f=>e=.returned (.int .i64 ((pwrN q s.G t:Nat):Int))/\Kept [] w' f) /\
   (∀w',Calls prog 88 #[.agg #[s.P,s.Q,s.G],pub,c] w' fun e f=>e=.returned (.int .i64 ((pwrN q pub c:Nat):Int))/\Kept [] w' f) /\
   (∀w',Calls prog 107 #[.agg #[s.P,s.Q,s.G],.int .i64 (pwrN q s.G t:Nat),.int .i64 (pwrN q pub c:Nat)] w' fun e f=>e=.returned (.int .i64 ((overN q (pwrN q s.G t:Nat) (pwrN q pub c:Nat):Nat):Int))/\Kept [] w' f) /\
   (∀w',Kept [] W w'->Calls prog 87 #[.agg #[s.P,s.Q,s.G,.slice C s.bases.length B,s.blind],pub,.int .i64 (overN q (pwrN q s.G t:Nat) (pwrN q pub c:Nat):Nat),msg] w' fun e f=>e=.returned (.int .i64 (numN q (chaE msg pub (overN q (pwrN q s.G t:Nat) (pwrN q pub c:Nat):Nat)):Nat))/\Kept [] w' f)):=fun h1 h2=>by
  obtain⟨q,b,U⟩:=bS h1
  have l:s.Q.toNat=q:=by have:=b.hQ;omega
  have a7:=b.hq;have a9:=b.h5;rw[l]at h2;refine⟨q,l,by rw[l];rfl,fun w'=>eF s.P s.Q s.G s.G t q w' b ig it,fun w'=>eF s.P s.Q s.G pub c q w' b ipb ic,fun w'=>?_,fun w' kk=>?_⟩
  ·exact vQ s.P s.Q s.G _ _ q w' b (jk _ _ _ (by omega)) (jk _ _ _ (by omega)) (mU h2)
  ·have aa:overN q (pwrN q s.G t:Nat) (pwrN q pub c:Nat) < 2*q+1:=Nat.mod_lt _ (by omega);exact gx _ s q pub _ msg w' (h.kept (d.trans kk)) b.hQ (by omega) (by omega) ipb ⟨by omega,by omega⟩ hm (hE.kept0 (d.trans kk)).toEnv
 obtain⟨S0,S1,S2,S3,S4⟩:=bH5 hb rfl;obtain⟨Z0,Z1⟩:=bH2 hz rfl;obtain⟨G0,G1,G2⟩:=bH3 hg rfl;have HW:=hid J;have n:=hid d;have a:Hid (sigB s pub msg c t=(aw s&&(memB s.Q.toNat pub&&(bC s c&&(bC s t&&decide (sigN s.Q.toNat s.G pub msg c t=c)))))):=rfl
 generalize i:sigB s pub msg c t=R at a ⊢
 generalize j:sigN s.Q.toNat s.G pub msg c t=sg at a g
 obtain⟨b1,Z⟩:=nm (aw s);obtain⟨b2,Y⟩:=nm (memB s.Q.toNat pub);obtain⟨b3,X⟩:=nm (bC s c);obtain⟨b4,V⟩:=nm (bC s t);rw[Z]at VS EL a g;rw[Y]at EL a g;rw[X]at X1 a;rw[V]at X2 a;clear J hb hz hg T i j Z Y X V d h hE ib
 show Calls _ _ #[.agg #[s.P,s.Q,s.G,.slice C s.bases.length B,s.blind],_,_,_] _ _
 go_enter func71,ntmps71
 go_upto_region 2 with(fail);have hW':((w.alloc (.cells #[s.P,s.Q,s.G,.slice C s.bases.length B,s.blind] 26)).alloc (.cells #[c,t] 50)).alloc (.cells #[s.P,s.Q,s.G] 23)=W:=HW.out;rw[hW'];clear hW' HW;have x:=S0.out W kr;have I:=S1.out W kr;have F:=S2.out W kr;have E:=S3.out W kr;have D:=S4.out W kr;go_wp2_with (go_at_call 58;with_reducible refine VS.out.mono ?_)
 first|(rintro e1 M rfl A)|(rintro e1 M ⟨rfl,A⟩)
 clear x I F E D
 cases b1
 ·have i:=a.out;simp only[Bool.false_and]at i;subst i;go_wp2_with fail;go_ret;exact⟨rfl,n.trans A⟩
 have g0:=G0.out M A;have g1:=G1.out M A;have g2:=G2.out M A;go_wp2_with (go_at_call 96;with_reducible refine(EL.out (by trivial) M A).mono ?_)
 first|(rintro e2 f rfl k2')|(rintro e2 f ⟨rfl,k2'⟩)
 have p:=A.trans k2';clear k2' g0 g1 g2
 cases b2
 ·have i:=a.out;simp only[Bool.false_and,Bool.true_and]at i;subst i;go_wp2_with fail;go_ret;exact⟨rfl,n.trans p⟩
 have x:=S0.out f p;have I:=S1.out f p;have F:=S2.out f p;have E:=S3.out f p;have D:=S4.out f p;have z0:=Z0.out f p;go_wp2_with (go_at_call 86;with_reducible refine(X1.out f p).mono ?_)
 first|(rintro e3 u rfl k3')|(rintro e3 u ⟨rfl,k3'⟩)
 have o:=p.trans k3';clear k3' x I F E D z0
 cases b3
 ·have i:=a.out;simp only[Bool.false_and,Bool.true_and]at i;subst i;go_wp2_with fail;go_ret;exact⟨rfl,n.trans o⟩
 have x:=S0.out u o;have I:=S1.out u o;have F:=S2.out u o;have E:=S3.out u o;have D:=S4.out u o;have z1:=Z1.out u o;go_wp2_with (go_at_call 86;with_reducible refine(X2.out u o).mono ?_)
 first|(rintro e4 m rfl k4')|(rintro e4 m ⟨rfl,k4'⟩)
 have z:=o.trans k4';clear k4' x I F E D z1
 cases b4
 ·have i:=a.out;simp only[Bool.false_and,Bool.true_and]at i;subst i;go_wp2_with fail;go_ret;exact⟨rfl,n.trans z⟩
 have i:=a.out;simp only[Bool.true_and]at i;subst i;obtain⟨q,l,j,P1,P2,O1,L⟩:=g (by trivial) (by trivial);obtain⟨x1,O⟩:=nm (pwrN q s.G t);obtain⟨x2,N⟩:=nm (pwrN q pub c);rw[O]at P1 O1 L j;rw[N]at P2 O1 L j
 generalize a0:overN q (x1:Int) (x2:Int)=x3 at O1 L j
 rw[<-j]at L;have a4:=hid P1;have a3:=hid P2;have a5:=hid O1;have a6:=hid L;clear P1 P2 O1 L j l O N a0 a g;go_upto_region 4 with(fail);have x:=fun(w':World) (k:Kept [] m w')=>S0.out w' (z.trans k);have z0:=fun(w':World) (k:Kept [] m w')=>Z0.out w' (z.trans k);have z1:=fun(w':World) (k:Kept [] m w')=>Z1.out w' (z.trans k);have g0:=fun(w':World) (k:Kept [] m w')=>G0.out w' (z.trans k);have g1:=fun(w':World) (k:Kept [] m w')=>G1.out w' (z.trans k);have g2:=fun(w':World) (k:Kept [] m w')=>G2.out w' (z.trans k)
 go_region_held3 (fun w'=>Kept [] m w') (first|assumption|exact kr.drew)
  (first
   |(go_at_call 88;with_reducible refine(ai (W:=m) (by assumption) (a4.out _)).mono ?_;rintro e5 w5 ⟨rfl,a2⟩)
   |(go_at_call 88;with_reducible refine(ai (W:=m) (by assumption) (a3.out _)).mono ?_;rintro e5 w5 ⟨rfl,a2⟩)
   |(go_at_call 107;with_reducible refine(ai (W:=m) (by assumption) (a5.out _)).mono ?_;rintro e6 r ⟨rfl,a1⟩))
 clear x z0 z1 g0 g1 g2;have y:=z.trans a1;go_upto_region 5 with(fail);have x:=fun(w':World) (k:Kept [] r w')=>S0.out w' (y.trans k);have I:=fun(w':World) (k:Kept [] r w')=>S1.out w' (y.trans k);have F:=fun(w':World) (k:Kept [] r w')=>S2.out w' (y.trans k);have E:=fun(w':World) (k:Kept [] r w')=>S3.out w' (y.trans k);have D:=fun(w':World) (k:Kept [] r w')=>S4.out w' (y.trans k);have z0:=fun(w':World) (k:Kept [] r w')=>Z0.out w' (y.trans k)
 go_region_held3 (fun w'=>Kept [] r w') (first|assumption|exact kr.drew)
  (first
   |(go_at_call 87;with_reducible refine(ai (W:=r) (by assumption) (a6.out _ (y.trans (by assumption)))).mono ?_;rintro e7 w7 ⟨rfl,ab⟩)
   |fail)
 all_goals go_wp2_with fail
 all_goals (
  go_ret
  exact⟨rfl,n.trans (y.trans (by assumption))⟩)
end Go.Proofs.YtcidfldeiklcjaaGreatDoor
