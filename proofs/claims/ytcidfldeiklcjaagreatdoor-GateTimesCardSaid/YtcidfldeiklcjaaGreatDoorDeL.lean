import Derived.Test.YtcidfldeiklcjaaGreatDoorDeS
set_option maxRecDepth 100000
set_option maxHeartbeats 32000000
namespace Go.Proofs.YtcidfldeiklcjaaGreatDoor
open Go.RowKit
open Go.Proofs.Tryz
theorem nG(u:Nat)(h:u < 10):Lib.decDigits u=[UInt8.ofNat (48+u)]:=by
 unfold Lib.decDigits
 simp[h]
theorem yH(u:Nat)(h:¬u < 10):Lib.decDigits u=Lib.decDigits (u / 10)++[UInt8.ofNat (48+u % 10)]:=by
 rw[Lib.decDigits]
 simp[h]
theorem kH(u:Nat)(h:u<=9223372036854775808):(Lib.decDigits u).length<=20:=by
 by_cases h1:1<=u
 ·have:=Wire.iE (-(u:Int)) ⟨by omega,by omega⟩
  unfold Lib.itoa at this
  rw[if_pos (by omega)]at this;simp at this;omega
 ·obtain rfl:u=0:=by omega
  rw[nG 0 (by omega)]
  simp
theorem fq(m:Nat)(w:World)(hm:m<=9223372036854775808) :
  Calls prog 206 #[.int .i64 (-(m:Int))] w fun e w'=>e=.returned (.string ⟨(Lib.decDigits m).toArray⟩)/\Kept [] w w':=by
 induction m using Nat.strongRecOn generalizing w with
 |ind m ih =>
 obtain⟨n,k⟩:∃n:Int,-(m:Int)=n:=⟨_,rfl⟩;obtain⟨r,p⟩:=nm (m % 10);obtain⟨b,i⟩:∃x:Int,-(r:Int)=x:=⟨_,rfl⟩;obtain⟨q,t⟩:=nm (m / 10);obtain⟨nq,g⟩:∃x:Int,-(q:Int)=x:=⟨_,rfl⟩;rw[k]
 have u:r < 10:=by omega
 have D:n.tmod 10=b:=by rw[<-k,Int.neg_tmod,Int.tmod_eq_emod_of_nonneg (by omega)];omega
 have C:n.tdiv 10=nq:=by rw[<-k,Int.neg_tdiv,Int.tdiv_eq_ediv_of_nonneg (by omega)];omega
 have F:IntKind.i64.wrap (48 - b)=48 - b:=by rw[IntKind.wrap_i64];omega
 have I:IntKind.i64.wrap nq=nq:=by rw[IntKind.wrap_i64];omega
 have G:IntKind.i64.wrap b=b:=by rw[IntKind.wrap_i64];omega
 have s:((UInt8.ofNat (48+r)).toNat:Int)=48 - b:=by
  rw[UInt8.toNat_ofNat',Nat.mod_eq_of_lt (by omega)];omega
 have J:IntKind.u8.wrap (48 - b)=48 - b:=by
  have:=jC (48+r);rw[s]at this;rw[<-this]
  congr 1
  omega
 have f:=jy (w.alloc (.cells #[.int .u8 (48 - b)] 5)) w.heap.size 1 [UInt8.ofNat (48+r)] (fun j hj=>by
  obtain rfl:j=0:=by simpa using hj
  rw[World.cell?_alloc_new]
  show some (Value.int .u8 (48 - b))=some (Value.int .u8 ((UInt8.ofNat (48+r)).toNat:Int))
  rw[s])
 obtain⟨c,d⟩:=nm (UInt8.ofNat (48+r));have o:Kept [] w (w.alloc (.cells #[.int .u8 (48 - b)] 5)):=kr.alloc _;rw[d]at f;have hcv':(convert 144 9 (.slice (some ⟨w.heap.size,0,none⟩) 1 1)).run prog (w.alloc (.cells #[.int .u8 (48 - b)] 5))=.ok (.string ⟨[c].toArray⟩) (w.alloc (.cells #[.int .u8 (48 - b)] 5)):=f
 by_cases h:m < 10
 ·have a:Lib.decDigits m=[c]:=by rw[nG m h,<-d,<-p,Nat.mod_eq_of_lt h]
  have A:decide ((-10:Int) < n)=true:=by simp;omega
  rw[a];clear k p i t g s f d a
  go_enter func206,ntmps206
  go_wp2_with fail;go_ret;exact⟨rfl,o⟩
 ·have a:Lib.decDigits m=Lib.decDigits q++[c]:=by rw[yH m h,p,t,d]
  have A:decide ((-10:Int) < n)=false:=by simp;omega
  have y:=Lib.hid (fun w=>ih q (by omega) w (by omega));rw[g]at y;have l:=kH q (by omega)
  have E:¬9223372036854775807 < (Lib.decDigits q).length+1:=by omega
  have v:=bcat;rw[a];clear k p i t g s f d a ih l
  go_enter func206,ntmps206
  go_wp2_with (go_at_call 206;refine(y _).mono ?_;rintro e B ⟨rfl,z⟩);go_ret;exact⟨rfl,o.trans z⟩
theorem gQ(n:Int)(w:World)(hn:Wire.I64 n) :
  Calls prog 207 #[n] w fun e w'=>e=.returned (.string ⟨(Wire.intE n).toArray⟩)/\Kept [] w w':=by
 obtain⟨r,q⟩:=hn;have g:=bcat;obtain⟨m,f⟩:=nm n.natAbs;have b:=kH m (by omega);have H:=Lib.hid (fun w=>fq m w (by omega))
 by_cases h:n < 0
 ·have a:Wire.intE n=[45]++Lib.decDigits m++[59]:=by unfold Wire.intE Lib.itoa;rw[if_pos h,f];rfl
  have c:-(m:Int)=n:=by omega
  rw[c]at H
  have j:¬9223372036854775807 < 1+(Lib.decDigits m).length:=by omega
  have o:¬9223372036854775807 < 1+(Lib.decDigits m).length+1:=by omega
  have l:¬9223372036854775807 < (Lib.decDigits m).length+1+1:=by omega
  have k:decide (n < 0)=true:=by simpa using h
  rw[a];clear a f c b
  go_enter func207,ntmps207
  go_wp2_with (go_at_call 206;refine(H.out _).mono ?_;rintro e i ⟨rfl,d⟩);go_ret;exact⟨by simp,d⟩
 ·have a:Wire.intE n=Lib.decDigits m++[59]:=by unfold Wire.intE Lib.itoa;rw[if_neg h,show n.toNat=m by omega]
  have c:-(m:Int)=-n:=by omega
  rw[c]at H
  have j:¬9223372036854775807 < (Lib.decDigits m).length+1:=by omega
  have k:decide (n < 0)=false:=by simpa using h
  have p:IntKind.i64.wrap (-n)=-n:=by rw[IntKind.wrap_i64];omega
  rw[a];clear a f c b
  go_enter func207,ntmps207
  go_wp2_with (go_at_call 206;refine(H.out _).mono ?_;rintro e i ⟨rfl,d⟩);go_ret;exact⟨by simp,d⟩
theorem mN(s:List UInt8)(w:World)(hs:s.length<=100000000) :
  Calls prog 160 #[s] w fun e w'=>e=.returned (.string ⟨(Wire.kO s).toArray⟩)/\Kept [] w w':=by
 have c:=bcat;have b:=kH s.length (by omega);have H:=Lib.hid (fun w=>fq s.length w (by omega))
 have a:Wire.kO s=Lib.decDigits s.length++[58]++s++[44]:=by unfold Wire.kO Lib.itoa;rw[if_neg (by omega)];rfl
 have k:IntKind.i64.wrap (-(s.length:Int))=-(s.length:Int):=by rw[IntKind.wrap_i64];omega
 generalize f:Lib.decDigits s.length=D at H a b
 have j:¬9223372036854775807 < D.length+1:=by omega
 have i:¬9223372036854775807 < D.length+(1+s.length):=by omega
 have s2':¬9223372036854775807 < D.length+1+s.length:=by omega
 have h:¬9223372036854775807 < D.length+(1+(s.length+1)):=by omega
 have s3':¬9223372036854775807 < D.length+1+s.length+1:=by omega
 have s3'':¬9223372036854775807 < D.length+(s.length+1)+1:=by omega
 rw[a];clear a f b
 go_enter func160,ntmps160
 go_wp2_with (go_at_call 206;refine(H.out _).mono ?_;rintro e g ⟨rfl,d⟩);go_ret;exact⟨by simp,d⟩
end Go.Proofs.YtcidfldeiklcjaaGreatDoor
namespace Go.Proofs.YtcidfldeiklcjaaGreatDoor
open Go.RowKit
open Lib(hid)
theorem fO(v:Value)(l:List Int)(w:World)(hv:Row w 1 v l.length (ints l))(hl:l.length<=100000001)(hi:∀x∈l,Wire.I64 x) :
  Calls Tryz.prog 159 #[v] w fun e w'=>e=.returned (.string ⟨(Wire.yX l).toArray⟩)/\Kept [] w w':=by
 have t:=hv;obtain⟨_,p,a,c,rfl,_,_⟩:=t;have C:=bcat;have u:=kH l.length (by omega);have H:=hid (fun w=>fq l.length w (by omega))
 have d:Wire.yX l=Lib.decDigits l.length++[91]++l.flatMap Wire.intE++[93]:=by unfold Wire.yX Wire.listE Lib.itoa;rw[if_neg (by omega)];rfl
 have O:IntKind.i64.wrap (-(l.length:Int))=-(l.length:Int):=by rw[IntKind.wrap_i64];omega
 obtain⟨D,G⟩:=nm (Lib.decDigits l.length);obtain⟨n,P⟩:=nm l.length;rw[G]at H d u;rw[P]at H O hl p hv ⊢
 have X:¬9223372036854775807 < D.length+1:=by omega
 have T:=hid hv;have B:=hid hi;rw[d];clear d G hv hi
 go_enter Tryz.func159,Tryz.ntmps159
 go_upto_region 3 with(go_at_call 206;refine(H.out _).mono ?_;rintro e J ⟨rfl,N⟩);have I:=hid N
 go_loopw [3,4] (fun v3 v4 wr=>∃k:Nat,k<=n/\v4=k/\v3=.string ⟨(D++[91]++(l.take k).flatMap Wire.intE).toArray⟩/\Kept [] J wr) (fun _ v4 _=>n - (intOf v4).toNat)
 case atStart=>exact⟨0,by omega,rfl,by simp,kr⟩
 case round =>
  obtain⟨k,Y,rfl,rfl,i⟩:=hrel;have o:=T.kept (I.trans i)
  by_cases hlt:k < n
  ·obtain⟨Z,off,rfl,F⟩:=o.at_ (by omega)
   have g:k < l.length:=by omega
   have s:=F k (.int .i64 l[k]) (by simp[ints,g]);have z:=B l[k] (List.getElem_mem g);have q:=eL l[k] z;have j:=flat_len (l.take k) (fun x s=>B x (List.mem_of_mem_take s))
   have f:(l.take k).length<=100000001:=by rw[List.length_take];omega
   have b:D++[91]++(l.take (k+1)).flatMap Wire.intE=(D++[91]++(l.take k).flatMap Wire.intE)++Wire.intE l[k]:=by
    rw[List.take_succ_eq_append_getElem g,List.flatMap_append];simp only[List.flatMap_cons,List.flatMap_nil,List.append_nil,List.append_assoc]
   have m:=hid (fun w=>gQ l[k] w z)
   generalize r:l[k]=x at s z q b m
   obtain⟨S,h⟩:=nm (D++[91]++(l.take k).flatMap Wire.intE)
   have y:S.length<=2100000100:=by rw[<-h];simp only[List.length_append,List.length_singleton];omega
   rw[h]at b ⊢
   generalize R:Wire.intE x=E at q b m
   have L:¬9223372036854775807 < S.length+E.length:=by omega
   have hd:decide ((k:Int) < (n:Int))=true:=by simp;omega
   have A:=hid b
   have Q:(k:Int) < (n:Int):=by omega
   clear F r h R b g j f;go_wp2_with (go_at_call 207;refine(m.out _).mono ?_;rintro e V ⟨rfl,M⟩)
   go_roundw
   case rel=>exact⟨k+1,by omega,by go_num,by rw[A.out],i.trans M⟩
   case measure=>simp[intOf];omega
  ·obtain rfl:k=n:=by omega
   have j:=flat_len l B;have f:l.take k=l:=List.take_of_length_le (by omega);rw[f];obtain⟨S,h⟩:=nm (D++[91]++l.flatMap Wire.intE)
   have y:S.length<=2100000100:=by rw[<-h];simp only[List.length_append,List.length_singleton];omega
   rw[h]
   have L:¬9223372036854775807 < S.length+1:=by omega
   have hd:decide ((k:Int) < (k:Int))=false:=by simp
   have U:=hid h;clear h j f;go_wp2_with fail;go_ret;exact⟨by rw[<-U.out];simp,I.out.trans i⟩
end Go.Proofs.YtcidfldeiklcjaaGreatDoor
namespace Go.Proofs.YtcidfldeiklcjaaGreatDoor
open Go.RowKit ShaP
theorem qU(v:Value)(s:Stp)(q:Nat)(pub a:Int)(msg:List UInt8)(w:World)(h:StpV w v s)(hq:s.Q=q)(h1:1<=q)(h2:q < 2305843009213693952)
  (hp:Wire.I64 pub) (ha:Wire.I64 a) (hm:msg.length<=50000000) :
  Calls Tryz.prog 158 #[v,pub,a,msg] w fun e w'=>e=.returned (.int .i64 (numN q (chaE msg pub a):Nat))/\Kept [] w w':=by
 obtain⟨⟨m,c,rfl,d⟩,I,G,L,z,J⟩:=h;obtain⟨W,f⟩:=nm (w.alloc (.cells (stpA s (.slice m s.bases.length c)) 26));have l:=bn f;have g:=ka (S:=[]) f;have y:∀w',Kept [] W w'->w'.cell? ⟨w.heap.size,1,none⟩=some (.int .i64 s.Q):=Kept.cellOf (l.cell 1);rw[hq]at y;have o:=Lib.hid f
 have C:∀x∈[pub,a],Wire.I64 x:=by
  intro x j;simp only[List.mem_cons,List.not_mem_nil,or_false]at j
  rcases j with rfl|rfl
  ·exact hp
  ·exact ha
 have u:=fS pub a hp ha;have t:=Wire.iE msg.length ⟨by omega,by omega⟩
 have r:(Wire.kO msg).length<=50000030:=by simp only[Wire.kO,List.length_append,List.length_singleton];omega
 have F:¬9223372036854775807 < (Wire.kO msg).length+(Wire.yX [pub,a]).length:=by omega
 have n:=fun w=>Lib.hid (pI q (chaE msg pub a) w h1 h2 (by unfold chaE;rw[List.length_append];omega))
 unfold chaE at n ⊢
 clear u t r l f d z;have k:=bcat
 go_enter Tryz.func158,Tryz.ntmps158
 go_upto_region 1 with(fail);have hW':w.alloc (.cells (stpA s (.slice m s.bases.length c)) 26)=W:=o.out;rw[hW'];clear hW' o
 go_region_held3 (fun w'=>Kept [] W w') (first|assumption|exact kr.drew|exact Kept.alloc (by assumption) _)
  (first
   |(go_at_call 160;refine(mN msg _ (by omega)).mono ?_;rintro e p ⟨rfl,b⟩;have B:Kept [] W p:=Kept.trans (by assumption) b)
   |(go_at_call 159;refine(ai (W:=W) (by assumption) (fO _ [pub,a] _ (by first|exact row2 _ _ _ _|exact(row2 _ _ _ _).drew|exact(row2 _ _ _ _).kept b|exact(row2 _ _ _ _).drew.kept b) (by simp) (by exact C))).mono ?_;rintro e E ⟨rfl,A⟩)
   |(go_at_call 205;refine(ai (W:=W) (by assumption) (n _).out).mono ?_;rintro e D ⟨rfl,i⟩))
 all_goals go_wp2_with fail
 all_goals (
  go_ret
  exact⟨rfl,g.trans i⟩)
open Go.Proofs.Tryz
open Lib(hid)
def dx(s:Stp)(x k:Int)(msg:List UInt8):Int × Int × Bool :=
 if(aw s&&(bC s x&&bC s k))=true then
  (((numN s.Q.toNat (chaE msg (pwrN s.Q.toNat s.G x:Nat) (pwrN s.Q.toNat s.G k:Nat)):Nat):Int),
   ((addN s.Q.toNat k (mulN s.Q.toNat (numN s.Q.toNat (chaE msg (pwrN s.Q.toNat s.G x:Nat) (pwrN s.Q.toNat s.G k:Nat)):Nat) x:Nat):Nat):Int),true)
 else(0,0,false)
theorem vu(s:Stp)(x k:Int)(msg:List UInt8):dx s x k msg=if(aw s&&(bC s x&&bC s k))=true then
  (((numN s.Q.toNat (chaE msg (pwrN s.Q.toNat s.G x:Nat) (pwrN s.Q.toNat s.G k:Nat)):Nat):Int),
   ((addN s.Q.toNat k (mulN s.Q.toNat (numN s.Q.toNat (chaE msg (pwrN s.Q.toNat s.G x:Nat) (pwrN s.Q.toNat s.G k:Nat)):Nat) x:Nat):Nat):Int),true)
 else(0,0,false):=rfl
def sigV(t:Int × Int × Bool):Value:=.tuple #[.agg #[t.1,t.2.1],.bool t.2.2]
theorem jk(q:Nat)(x k:Int)(h:q < 1152921504606846976):Wire.I64 ((pwrN q x k:Nat):Int):=by
 have:pwrN q x k < 2*q+1:=Nat.mod_lt _ (by omega)
 constructor <;> omega
theorem bS{s:Stp}(h:aw s=true):∃q,GrpOk s.P s.Q s.G q/\cH q s.G=true:=by
 unfold aw at h
 rw[Bool.and_eq_true]at h;exact fY h.1
def zn:Array Value:=#[.int .i64 0,.int .i64 0]
theorem vp(v:Value)(s:Stp)(x k:Int)(msg:List UInt8)(w:World)(h:StpV w v s)(ix:Wire.I64 x)(ik:Wire.I64 k)(hm:msg.length<=50000000)(hE:Env2 w) :
  Calls prog 55 #[v,x,k,msg] w fun e w'=>e=.returned (sigV (dx s x k msg))/\Kept [] w w':=by
 have h':=h;obtain⟨⟨ad,c,rfl,N⟩,ip,iq,ig,ib,il⟩:=h';obtain⟨W,hW⟩:=nm ((w.alloc (.cells (stpA s (.slice ad s.bases.length c)) 26)).alloc (.cells zn 50));have hb:=bp hW;have y:=bz hW;have b:=kb (S:=[]) hW;have HB:=hid hb;have O:=hid y;have HV:=hid fun(w':World) (kk:Kept [] W w')=>bY _ s w' (h.kept (b.trans kk)) (hE.kept0 (b.trans kk));have HX:=hid fun(w':World) (kk:Kept [] W w')=>dE _ s x w' (h.kept (b.trans kk));have HK:=hid fun(w':World) (kk:Kept [] W w')=>dE _ s k w' (h.kept (b.trans kk));obtain⟨J,I,F,E,D⟩:=bH5 hb rfl;have HW:=hid hW;have t:=hid (vu s x k msg)
 generalize hR:dx s x k msg=R at t ⊢
 obtain⟨b1,A⟩:=nm (aw s);obtain⟨b2,a3⟩:=nm (bC s x);obtain⟨b3,a2⟩:=nm (bC s k);rw[A]at HV t;rw[a3]at HX t;rw[a2]at HK t;have b5:=hid A
 by_cases hall:(b1&&(b2&&b3))=true
 ·obtain⟨rfl,rfl,rfl⟩:b1=true/\b2=true/\b3=true:=by simpa using hall
  have HR:=t.out;rw[if_pos hall]at HR;have a:=hid HR;obtain⟨q,r,am⟩:=bS A;have b0:=r.h5;have av:=r.hq;have B:s.Q=q:=r.hQ
  have a5:s.Q.toNat=q:=by omega
  rw[a5]at a;have PX:=hid fun(w':World)=>eF s.P s.Q s.G s.G x q w' r ig ix;have PK:=hid fun(w':World)=>eF s.P s.Q s.G s.G k q w' r ig ik
  have CH:Hid (∀w',Kept [] W w'->Calls prog 87 #[.agg #[s.P,s.Q,s.G,.slice ad s.bases.length c,s.blind],.int .i64 ((pwrN q s.G x:Nat):Int),.int .i64 ((pwrN q s.G k:Nat):Int),msg] w' fun e u=>e=.returned (.int .i64 (numN q (chaE msg (pwrN q s.G x:Nat) (pwrN q s.G k:Nat)):Nat))/\Kept [] w' u) :=
   fun w' kk=>gx _ s q _ _ msg w' (h.kept (b.trans kk)) B (by omega) (by omega) (jk _ _ _ (by omega)) (jk _ _ _ (by omega)) hm (hE.kept0 (b.trans kk)).toEnv
  have an:numN q (chaE msg (pwrN q s.G x:Nat) (pwrN q s.G k:Nat)) < q:=eZ _ _ _ (by omega)
  generalize hC:numN q (chaE msg (pwrN q s.G x:Nat) (pwrN q s.G k:Nat))=C at CH a an
  obtain⟨X,hX⟩:=nm (pwrN q s.G x);obtain⟨Y,hY⟩:=nm (pwrN q s.G k);rw[hX]at PX CH;rw[hY]at PK CH;have ah:=jq q (C:Int) x (by omega)
  have MU:Hid (∀w',Calls prog 90 #[s.Q,.int .i64 (C:Int),x] w' fun e u=>e=.returned (.int .i64 ((mulN q C x:Nat):Int))/\Kept [] w' u):=by
   rw[B];exact fun w'=>iH q (C:Int) x w' (by omega) (by omega) ⟨by omega,by omega⟩ ix
  generalize hM:mulN q (C:Int) x=M at MU a ah
  have AD:Hid (∀w',Calls prog 89 #[s.Q,k,.int .i64 (M:Int)] w' fun e u=>e=.returned (.int .i64 ((addN q k M:Nat):Int))/\Kept [] w' u):=by
   rw[B];exact fun w'=>qs q k (M:Int) w' (by omega) (by omega) ik ⟨by omega,by omega⟩
  generalize hS:addN q k (M:Int)=S at AD a
  have b4:=hid B;clear ib HR hR A a3 a2 r am a5 hC hX hY hM hS hall hb y hW N h B
  show Calls _ _ #[.agg #[s.P,s.Q,s.G,.slice ad s.bases.length c,s.blind],x,k,msg] _ _
  go_enter func55,ntmps55
  go_wp2_with fail
  erw[HW.out]
  have l:=J W kr;have j:=I W kr;have i:=F W kr;have g:=E W kr;have f:=D W kr;go_wp2_with (go_at_call 58;with_reducible refine(HV.out W kr).mono ?_);rintro e w1 ⟨rfl,k1⟩;clear l j i g f;have l:=J w1 k1;have j:=I w1 k1;have i:=F w1 k1;have g:=E w1 k1;have f:=D w1 k1;go_wp2_with (go_at_call 86;with_reducible refine(HX.out w1 k1).mono ?_);rintro e u ⟨rfl,z⟩;have Z:=k1.trans z;clear l j i g f;have l:=J u Z;have j:=I u Z;have i:=F u Z;have g:=E u Z;have f:=D u Z;go_wp2_with (go_at_call 86;with_reducible refine(HK.out u Z).mono ?_);rintro e m ⟨rfl,ky⟩;have U:=Z.trans ky;clear z ky;clear l j i g f;have l:=J m U;have j:=I m U;have i:=F m U;have g:=E m U;have f:=D m U;go_upto_region 4 with(fail);obtain⟨V,hV⟩:=nm (m.alloc (.cells #[s.P,s.Q,s.G] 23));have al:Kept [] m V:=hV▸(Kept.refl [] m).alloc _;have aa:Blk V m.heap.size 23 #[s.P,s.Q,s.G]:=hV▸Blk.new m _ _;rw[hV];have T:=U.trans al;have ab:=hid aa;clear hV aa l j i g f;have d0:=fun(w':World) (kk:Kept [] V w')=>J w' (T.trans kk);have d1:=fun(w':World) (kk:Kept [] V w')=>I w' (T.trans kk);have d2:=fun(w':World) (kk:Kept [] V w')=>F w' (T.trans kk);have d3:=fun(w':World) (kk:Kept [] V w')=>E w' (T.trans kk);have d4:=fun(w':World) (kk:Kept [] V w')=>D w' (T.trans kk);obtain⟨g0,g1,g2⟩:=bk3 ab rfl
  go_region_held3 (fun w'=>Kept [] V w') (first|assumption|exact kr.drew)
   (first
    |(go_at_call 88;with_reducible refine(ai (W:=V) (by assumption) (PX.out _)).mono ?_;rintro e w4 ⟨rfl,a9⟩)
    |(go_at_call 88;with_reducible refine(ai (W:=V) (by assumption) (PK.out _)).mono ?_;rintro e w4 ⟨rfl,a9⟩)
    |(go_at_call 87;with_reducible refine(ai (W:=V) (by assumption) (CH.out _ (T.trans (by assumption)))).mono ?_;rintro e o ⟨rfl,a7⟩))
  rename_i d;clear d0 d1 d2 d3 d4 g0 g1 g2;have k5:=T.trans a7
  have ac:m.heap.size≠w.heap.size+1:=by have:=U.size;have:=O.out.lt;omega
  have g1:∀w',Kept [w.heap.size+1] o w'->w'.cell? ⟨m.heap.size,1,none⟩=some (.int .i64 s.Q):=fun w' kk=>by
   have hc:o.cell? ⟨m.heap.size,1,none⟩=some (.int .i64 s.Q):=(ab.out.kept a7 (by simp)).cell 1;exact(kk.cell (p:=⟨m.heap.size,1,none⟩) (World.block_lt_of_cell? o _ hc) (by simpa using ac)).trans hc
  have z0:∀w',Kept [] o w'->w'.cell? ⟨w.heap.size+1,0,none⟩=some (.int .i64 0):=fun w' kk=>(O.out.kept (k5.trans kk) (by simp)).cell 0;have z1:∀w',Kept [] o w'->w'.cell? ⟨w.heap.size+1,1,none⟩=some (.int .i64 0):=fun w' kk=>(O.out.kept (k5.trans kk) (by simp)).cell 1;have y0:=fun(w':World) (kk:Kept [] o w')=>(O.out.kept (k5.trans kk) (by simp)).frozen 0;have y1:=fun(w':World) (kk:Kept [] o w')=>(O.out.kept (k5.trans kk) (by simp)).frozen 1;clear a9 d;go_upto_region 5 with(fail)
  go_region_held3 (fun w'=>Kept [w.heap.size+1] o w') (repeat (first|(with_reducible assumption)|(with_reducible exact kr)|(with_reducible refine Kept.drew ?_)|(with_reducible refine Kept.setCell ?_ (Or.inl (by simp)) _)))
   (first
    |(go_at_call 90;with_reducible refine(MU.out _).mono ?_;rintro e w6 ⟨rfl,hk6'⟩;have a6:Kept [] o w6:=(Kept.refl [] o).drew.trans hk6';have ap:Kept [w.heap.size+1] o w6:=a6.mono (by simp))
    |(go_at_call 89;with_reducible refine(AD.out _).mono ?_;rintro e w7 ⟨rfl,hk7'⟩;have a0:Kept [] o w7:=a6.trans hk7';have ao:Kept [w.heap.size+1] o w7:=a0.mono (by simp))
    |fail)
  rename_i d;have c0:=z0 w7 a0;have c1:=z1 w7 a0;clear z0 z1 y0 y1 g1;go_wp2;refine bodyPost_ret (v:=.tuple #[.agg #[C,S],.bool true]) (by simp[results,results55,go_sem,c0,c1]) rfl ⟨by rw[a.out];rfl,?_⟩;exact(b.trans k5).fresh d (by simp)
 ·have HR:=t.out;rw[if_neg hall]at HR;have a:=hid HR
  have a1:b1=false\/(b1=true/\b2=false)\/(b1=true/\b2=true/\b3=false):=by
   cases b1 <;> cases b2 <;> cases b3 <;> simp at hall ⊢
  have a4:Hid (∀w',Kept [] W w'->Kept [] w ((w'.setCell ⟨w.heap.size+1,0,none⟩ (.int .i64 0)).setCell ⟨w.heap.size+1,1,none⟩ (.int .i64 0))):=fun w' kk =>
   (((b.trans kk).setCell (Or.inr (by simp)) _).setCell (Or.inr (by simp)) _)
  clear ib HR hR A a3 a2 hall hb y hW N h
  show Calls _ _ #[.agg #[s.P,s.Q,s.G,.slice ad s.bases.length c,s.blind],x,k,msg] _ _
  rcases a1 with rfl|⟨rfl,rfl⟩|⟨rfl,rfl,rfl⟩
  all_goals
   go_enter func55,ntmps55
   go_wp2_with fail
   erw[HW.out]
   have l:=J W kr;have j:=I W kr;have i:=F W kr;have g:=E W kr;have f:=D W kr;go_wp2_with (go_at_call 58;with_reducible refine(HV.out W kr).mono ?_);rintro e L ⟨rfl,ka⟩;clear l j i g f;have l:=J L ka;have j:=I L ka;have i:=F L ka;have g:=E L ka;have f:=D L ka
  ·skip
   have y:=O.out.kept ka (by simp);obtain⟨c0,c1⟩:=bc2 y rfl;obtain⟨y0,y1⟩:=bf2 y;go_wp2_with fail;exact bodyPost_ret (v:=.tuple #[.agg #[.int .i64 0,.int .i64 0],.bool false]) (by simp[results,results55,go_sem,c0,c1]) rfl ⟨by rw[a.out];rfl,a4.out L ka⟩
  ·go_wp2_with (go_at_call 86;with_reducible refine(HX.out L ka).mono ?_);rintro e n ⟨rfl,z⟩;have kb:=ka.trans z;clear l j i g f z;have l:=J n kb;have j:=I n kb;have i:=F n kb;have g:=E n kb;have f:=D n kb;have y:=O.out.kept kb (by simp);obtain⟨c0,c1⟩:=bc2 y rfl;obtain⟨y0,y1⟩:=bf2 y;go_wp2_with fail;exact bodyPost_ret (v:=.tuple #[.agg #[.int .i64 0,.int .i64 0],.bool false]) (by simp[results,results55,go_sem,c0,c1]) rfl ⟨by rw[a.out];rfl,a4.out n kb⟩
  ·go_wp2_with (go_at_call 86;with_reducible refine(HX.out L ka).mono ?_);rintro e n ⟨rfl,z⟩;have kb:=ka.trans z;clear l j i g f z;have l:=J n kb;have j:=I n kb;have i:=F n kb;have g:=E n kb;have f:=D n kb;go_wp2_with (go_at_call 86;with_reducible refine(HK.out n kb).mono ?_);rintro e wc ⟨rfl,z⟩;have kc:=kb.trans z;clear l j i g f z;have y:=O.out.kept kc (by simp);obtain⟨c0,c1⟩:=bc2 y rfl;obtain⟨y0,y1⟩:=bf2 y;go_wp2_with fail;exact bodyPost_ret (v:=.tuple #[.agg #[.int .i64 0,.int .i64 0],.bool false]) (by simp[results,results55,go_sem,c0,c1]) rfl ⟨by rw[a.out];rfl,a4.out wc kc⟩
end Go.Proofs.YtcidfldeiklcjaaGreatDoor
namespace Go.Proofs.YtcidfldeiklcjaaGreatDoor
open Go.RowKit Tape
theorem Row.tail{w:World}{a:Option Addr}{n c:Nat}{t:List UInt8}{tl:List (List UInt8)}(h:Row w 1 (.slice a n c) (t::tl).length (strs (t::tl))){b off:Nat}(ha:a=some ⟨b,off,none⟩):Row w 1 (.slice (some ⟨b,off+1,none⟩) tl.length (c - 1)) tl.length (strs tl):=by
 obtain⟨h1,h2,a',c',hv,hcc,hc⟩:=h;injection hv with e1 e2 e3;subst e1 e3 ha;simp only[List.length_cons]at h2 hcc hc;refine⟨by simp[strs],by omega,_,_,rfl,by omega,fun hp=>?_⟩;obtain⟨b1,o1,hb,hcell⟩:=hc (by omega);injection hb with hb;injection hb with hb ho;subst hb ho;refine⟨b,off+1,rfl,fun k u hu=>?_⟩;rw[show off+1+k=off+(k+1)from by omega];exact hcell (k+1) u (by simpa [strs]using hu)
theorem Row.none1(w:World)(a:Option Addr):Row w 1 (.slice a 0 0) ([]:List (List UInt8)).length (strs []):=⟨rfl,by simp,a,0,rfl,by simp,fun h=>absurd h (by simp)⟩
structure Li (w wo wr:World) (b g po B:Nat) (X:List Nat) (Fin:World->Prop) (cs:Array Value) (a:Option Addr) (n c:Nat) (accL:List (List (Lnk × List UInt8))) (ro r:Tp) (a10:Option Addr) (n10 c10:Nat) (acc2:List (Lnk × List UInt8)) (ta:Option Addr) (nt tc:Nat) (tsl:List (List UInt8)):Prop where
 do_:Dg cr 1 183 2 w wo b g po B X Fin cs a n c accL ro
 kb:Kept [b] wo wr
 tp:TpAt 174 wr b g r
 e10:n10=acc2.length
 et:nt=tsl.length
 gr:∃X2,(∀z∈X,z∈X2)/\(∀z∈X2,z < wr.heap.size)/\(∀z∈obl (.slice a10 n10 c10),z∈X2)/\Grow LnkR 9 185 wo.heap.size X2 wr (.slice a10 n10 c10) acc2/\ae X2 (fun w=>Row w 1 (.slice ta nt tc) tsl.length (strs tsl)) wr
section
variable {w wo wr w1 u y:World} {b g po B:Nat} {X X2:List Nat} {Fin:World->Prop} {cs:Array Value} {a a10 p ta ta':Option Addr} {n c n10 c10 nt tc nt' tc' q:Nat} {accL:List (List (Lnk × List UInt8))} {ro r r':Tp} {acc2:List (Lnk × List UInt8)} {tsl tsl':List (List UInt8)} {d:Lnk × List UInt8}
theorem Li.dg(h:Li w wo wr b g po B X Fin cs a n c accL ro r a10 n10 c10 acc2 ta nt tc tsl):Dg cr 1 183 2 w wr b g po B X Fin cs a n c accL r:=h.do_.read h.kb h.tp
theorem Li.ge(h:Li w wo wr b g po B X Fin cs a n c accL ro r a10 n10 c10 acc2 ta nt tc tsl):∀z∈obl (.slice a10 n10 c10),wo.heap.size<=z/\z < wr.heap.size:=by
 obtain⟨X2,_,_,_,G,_⟩:=h.gr;exact G.ge
theorem Li.read(h:Li w wo wr b g po B X Fin cs a n c accL ro r a10 n10 c10 acc2 ta nt tc tsl)(k:Kept [b] wr w1)(tp:TpAt 174 w1 b g r'):Li w wo w1 b g po B X Fin cs a n c accL ro r' a10 n10 c10 acc2 ta nt tc tsl:=by
 obtain⟨X2,x1,x2,x3,G,T⟩:=h.gr;have hb:=h.do_.de.bl;have hge:=h.ge
 have hS:∀z∈[b],z < wr.heap.size->z∈X2:=fun z hz _=>by obtain rfl:=ms hz;exact x1 _ h.do_.de.bX
 exact⟨h.do_,h.kb.trans k,tp,h.e10,h.et,⟨X2,x1,fun z hz=>Nat.lt_of_lt_of_le (x2 z hz) k.size,x3,G.step k (fun z hz hm=>by have:=hge z hz;rw[List.mem_singleton]at hm;omega) hS (fun z hz=>Or.inl hz),T.step k hS (fun z hz=>Or.inl hz)⟩⟩
theorem Li.keep(h:Li w wo wr b g po B X Fin cs a n c accL ro r a10 n10 c10 acc2 ta nt tc tsl)(k:Kept [] wr w1):Li w wo w1 b g po B X Fin cs a n c accL ro r a10 n10 c10 acc2 ta nt tc tsl:=by
 obtain⟨X2,x1,x2,x3,G,T⟩:=h.gr;exact⟨h.do_,h.kb.trans (k.mono (by simp)),h.tp.keep k (by simp) (by simp),h.e10,h.et,⟨X2,x1,fun z hz=>Nat.lt_of_lt_of_le (x2 z hz) k.size,x3,G.step k (by simp) (by simp) (fun z hz=>Or.inl hz),T.step k (by simp) (fun z hz=>Or.inl hz)⟩⟩
theorem Li.row(h:Li w wo wr b g po B X Fin cs a n c accL ro r a10 n10 c10 acc2 ta nt tc tsl):Row wr 1 (.slice ta nt tc) tsl.length (strs tsl):=by
 obtain⟨X2,x1,x2,x3,G,T⟩:=h.gr;exact T.get
theorem Li.terms(h:Li w wo wr b g po B X Fin cs a n c accL ro r a10 n10 c10 acc2 ta nt tc tsl)(hn:nt'=tsl'.length)(hi:∀w,Row w 1 (.slice ta nt tc) tsl.length (strs tsl)->Row w 1 (.slice ta' nt' tc') tsl'.length (strs tsl')):Li w wo wr b g po B X Fin cs a n c accL ro r a10 n10 c10 acc2 ta' nt' tc' tsl':=by
 obtain⟨X2,x1,x2,x3,G,T⟩:=h.gr;exact⟨h.do_,h.kb,h.tp,h.e10,hn,⟨X2,x1,x2,x3,G,T.imp hi⟩⟩
theorem Li.push(h:Li w wo wr b g po B X Fin cs a n c accL ro r a10 n10 c10 acc2 ta nt tc tsl)(x1:∀z∈X,z∈X2)(x2:∀z∈X2,z < wr.heap.size)(T:ae X2 (fun w=>Row w 1 (.slice ta nt tc) tsl.length (strs tsl)) wr)(x3:∀z∈obl (.slice a10 n10 c10),z∈X2)(k:Kept (obl (.slice a10 n10 c10)) wr y)(hn:nt'=n10+1)
  (G:Grow LnkR 9 185 wo.heap.size (X2++obl (.slice p nt' q)) y (.slice p nt' q) (acc2++[d])) (t:∀z∈obl (.slice p nt' q),z∈obl (.slice a10 n10 c10)\/z=wr.heap.size):Li w wo y b g po B X Fin cs a n c accL ro r p nt' q (acc2++[d]) ta nt tc tsl:=by
 have f:=h.ge;have j:=k.size;have m:=h.do_.de.bl;have l:=h.do_.de.gl
 have i:∀z∈X2++obl (.slice p nt' q),z∈X2\/wr.heap.size<=z:=fun z hz=>by
  rcases List.mem_append.1 hz with e|e
  ·exact Or.inl e
  ·rcases t z e with e|e
   ·exact Or.inl (x3 z e)
   ·exact Or.inr (by omega)
 refine⟨h.do_,h.kb.then_ k (fun z hz hm=>by have:=f z hm;omega),h.tp.keep k (fun hm=>by have:=f _ hm;omega) (fun hm=>by have:=f _ hm;omega),by rw[hn,h.e10];simp,h.et, ⟨X2++obl (.slice p nt' q),fun z hz=>List.mem_append_left _ (x1 z hz),fun z hz=>?_,fun z hz=>List.mem_append_right _ hz,G,T.step k (fun z hz _=>x3 z hz) i⟩⟩
 rcases List.mem_append.1 hz with e|e
 ·have:=x2 z e;omega
 ·exact(G.ge z e).2
theorem Li.done(h:Li w wo wr b g po B X Fin cs a n c accL ro r a10 n10 c10 acc2 ta nt tc tsl)(hl:acc2.length<=9223372036854775807):ae X (fun w=>cr w [.slice a10 n10 c10] acc2) wr:=by
 obtain⟨X2,x1,x2,x3,G,T⟩:=h.gr;have hge:=h.ge;have hX:=h.do_.de.hX
 exact(G.done (X':=X) (fun z hz=>Or.inl (x1 z hz)) (fun z hz hm=>by have:=hge z hz;have:=hX z hm;omega) hl).imp fun _ h=>⟨_,rfl,h⟩
end
def LRel(w:World)(b g po B:Nat)(Fin:World->Prop)(cs:Array Value)(fin:List (List Lnk) × Tp)(N:Nat)(ts:List (List UInt8))(vt vi:Value)(wr:World):Prop :=
 ∃(k:Nat) (r:Tp) (acc:List (List (Lnk × List UInt8))) (X:List Nat) (a:Option Addr) (n c:Nat) (tsl:List (List UInt8)) (ta:Option Addr) (nt tc:Nat),vt=.slice ta nt tc/\vi=acc.length/\acc.length+k=N/\aC (many lnk) k r (cA acc)=fin/\terms acc++tsl=ts/\r.left.length<=100000001/\nt=tsl.length /\
  Dg cr 1 183 2 w wr b g po B X Fin cs a n c acc r/\ae X (fun w=>Row w 1 (.slice ta nt tc) tsl.length (strs tsl)) wr
def InL(w wo:World)(b g po B:Nat)(X:List Nat)(Fin:World->Prop)(cs:Array Value)(a:Option Addr)(n c:Nat)(accL:List (List (Lnk × List UInt8)))(ro:Tp)(fin:List Lnk × Tp)(N:Nat)(ts:List (List UInt8))(vt v10 vi:Value)(wr:World):Prop :=
 ∃(k:Nat) (r:Tp) (acc2:List (Lnk × List UInt8)) (a10:Option Addr) (n10 c10:Nat) (tsl:List (List UInt8)) (ta:Option Addr) (nt tc:Nat),vt=.slice ta nt tc/\v10=.slice a10 n10 c10/\vi=acc2.length/\acc2.length+k=N/\aC lnk k r (acc2.map Prod.fst)=fin/\terms accL++(acc2.map Prod.snd++tsl)=ts/\r.left.length<=100000001 /\
  Li w wo wr b g po B X Fin cs a n c accL ro r a10 n10 c10 acc2 ta nt tc tsl
theorem LRel.next{w wf:World}{b g po B:Nat}{Fin:World->Prop}{cs:Array Value}{fin:List (List Lnk) × Tp}{N k:Nat}{ts tsl:List (List UInt8)}{acc:List (List (Lnk × List UInt8))}{d:List (Lnk × List UInt8)}{p ta:Option Addr}{q nt tc:Nat}{r:Tp}
  (h:∃X',Dg cr 1 183 2 w wf b g po B X' Fin cs p (acc.length+1) q (acc++[d]) r/\ae X' (fun w=>Row w 1 (.slice ta nt tc) tsl.length (strs tsl)) wf) (hN:acc.length+(k+1)=N) (hf:aC (many lnk) k r (cA (acc++[d]))=fin) (ht:terms acc++(d.map Prod.snd++tsl)=ts)
  (hr:r.left.length<=100000001) (hnt:nt=tsl.length):LRel w b g po B Fin cs fin N ts (.slice ta nt tc) (.int .i64 ((acc.length:Int)+1)) wf:=by
 obtain⟨X',D,T⟩:=h;exact⟨k,r,acc++[d],X',p,acc.length+1,q,tsl,ta,nt,tc,rfl,by simp,by simp;omega,hf,by rw[kP,List.append_assoc];exact ht,hr,hnt,D,T⟩
end Go.Proofs.YtcidfldeiklcjaaGreatDoor
