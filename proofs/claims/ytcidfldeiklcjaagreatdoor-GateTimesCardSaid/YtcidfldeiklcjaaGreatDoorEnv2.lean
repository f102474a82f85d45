import Derived.Test.YtcidfldeiklcjaaGreatDoorKnu
import Derived.Laws.Bits64b
import Derived.Lib.TrailingZeros
import Derived.Shelf.Spec.TrailingZeros
set_option maxRecDepth 100000
set_option maxHeartbeats 32000000
namespace Go.Proofs.YtcidfldeiklcjaaGreatDoor
open Go.RowKit
open Go.Proofs.Tryz
open Lib(hid)
theorem bI(N:Nat)(w:World)(h1:1<=N)(h2:N < 2305843009213693952) :
  Calls prog 91 #[N] w fun e w'=>e=.returned true/\w=w':=by
 go_enter func91,ntmps91
 go_wp2;go_ret;exact⟨by simp;omega,rfl⟩
theorem mG(a n:Int)(h:1<=n):(a.tmod n < 0->a.tmod n+n=a % n)/\(¬a.tmod n < 0->a.tmod n=a % n):=by
 rw[Int.tmod_eq_emod];have h1:=Int.emod_nonneg a (show n≠0 by omega);have h2:=Int.emod_lt_of_pos a (show 0 < n by omega)
 have h3:(n.natAbs:Int)=n:=by omega
 split
 ·exact⟨fun h=>by omega,fun _=>by omega⟩
 ·exact⟨fun _=>by omega,fun h=>by omega⟩
def res(N:Nat)(a:Int):Nat:=(a % (N:Int)).toNat
theorem oq(N:Nat)(a:Int)(h1:1<=N):((res N a:Nat):Int)=a % (N:Int):=Int.toNat_of_nonneg (Int.emod_nonneg a (by omega))
theorem bw(N:Nat)(a:Int)(h1:1<=N):res N a < N:=by
 have:=Int.emod_lt_of_pos a (show(0:Int) < N by omega);have:=oq N a h1;omega
theorem br(N:Nat)(a:Int)(w:World)(h1:1<=N)(h2:N < 2305843009213693952)(ha:Wire.I64 a) :
  Calls prog 141 #[N,a] w fun e w'=>e=.returned (.int .u64 ((res N a:Nat):Int))/\w=w':=by
 obtain⟨a1,a2⟩:=ha;obtain⟨t1,t2⟩:=mG a N (by omega);have e0:=oq N a h1;have e1:=bw N a h1
 have hn0:((N:Int)==0)=false:=by simp;omega
 generalize hr:res N a=r at e0 e1 ⊢
 rw[<-e0]at t1 t2
 generalize ht:a.tmod N=t at t1 t2
 by_cases hneg:t < 0
 ·have e2:=t1 hneg
  have hd:decide (t < 0)=true:=by simpa using hneg
  go_enter func141,ntmps141
  go_wp2;go_ret;exact⟨rfl,rfl⟩
 ·have e2:=t2 hneg
  have hd:decide (t < 0)=false:=by simpa using hneg
  go_enter func141,ntmps141
  go_wp2;go_ret;exact⟨rfl,rfl⟩
theorem uy(x y:Nat)(w:World)(hx:x < 18446744073709551616)(hy:y < 18446744073709551616)(h0:0 < y) :
  Calls prog 215 #[.int .u64 0,.int .u64 x,.int .u64 y] w fun e w'=>e=.returned (.tuple #[.int .u64 ((x / y:Nat):Int),.int .u64 ((x % y:Nat):Int)])/\Kept [] w w':=by
 have g:((y:Int)==0)=false:=by simp;omega
 have a:decide ((y:Int)<=0)=false:=by simp;omega
 have hz':¬(y:Int)=0:=by omega
 have f:(x:Int) / (y:Int)<=x:=Int.ediv_le_self _ (by omega);have c:0<=(x:Int) / (y:Int):=Int.ediv_nonneg (by omega) (by omega);have d:(x:Int) % (y:Int) < y:=Int.emod_lt_of_pos _ (by omega);have b:0<=(x:Int) % (y:Int):=Int.emod_nonneg _ (by omega)
 go_enter func215,ntmps215
 go_wp2_with fail
 go_region
 go_wp2_with fail
 go_ret2
 exact⟨rfl,kr.drewN _⟩
theorem tE(x y:Nat)(w:World)(hx:x < 18446744073709551616)(hy:y < 18446744073709551616)(h0:0 < y) :
  Calls prog 182 #[.int .u64 0,.int .u64 x,.int .u64 y] w fun e w'=>e=.returned (.int .u64 ((x % y:Nat):Int))/\Kept [] w w':=by
 have hz':¬(y:Int)=0:=by omega
 have hm:(0:Int) % (y:Int)=0:=Int.zero_emod _;have H:=hid (uy x y w hx hy h0)
 go_enter func182,ntmps182
 go_wp2_with (go_at_call 215;refine H.out.mono ?_;rintro e w1 ⟨rfl,hk⟩);go_ret;exact⟨rfl,hk⟩
def DivP(r:Nat)(w:World)(e:Ending)(w':World):Prop:=(∃q:Int,e=.returned (.tuple #[.int .u64 q,.int .u64 (r:Int)]))/\Kept [] w w'
theorem rQ(hi lo y:Nat)(w:World)(h0:0 < hi)(hh:hi < y)(hy:y < 18446744073709551616)(hl:lo < 18446744073709551616) :
  Calls prog 215 #[.int .u64 hi,.int .u64 lo,.int .u64 y] w (DivP ((hi*18446744073709551616+lo) % y) w):=by
 obtain⟨b1,b2,b3⟩:=Lib.bitLenAux_bounds 64 y hy (by omega);have b4:=Lib.bitLen_le y 64 (by omega) hy;have LZ:=hid (Tryz.bits_LeadingZeros64 y w (by omega) (by omega));obtain⟨L,hL⟩:=nm (Lib.bitLen y);have hL':Lib.bitLenAux 64 y=L:=hL;rw[hL']at b1 b2 b3
 have c2:((y:Int)).toNat=y:=by omega
 rw[c2,hL]at LZ;rw[hL]at b4;obtain⟨s,hs⟩:∃s,L+s=64:=⟨64 - L,by omega⟩
 have c5:(64:Int) - (L:Int)=(s:Int):=by omega
 rw[c5]at LZ
 have hz:((y:Int)==0)=false:=by simp;omega
 have d4:decide ((y:Int)<=(hi:Int))=false:=by simp;omega
 have d5:((hi:Int)==0)=false:=by simp;omega
 have av:s<=64:=by omega
 have c6:2 ^ L*2 ^ s=18446744073709551616:=by rw[<-Nat.pow_add,hs]
 have bl:2 ^ (L - 1)*2 ^ s=9223372036854775808:=by rw[<-Nat.pow_add,show L - 1+s=63 by omega]
 have Y1:y*2 ^ s < 18446744073709551616:=by rw[<-c6];exact(Nat.mul_lt_mul_right (Nat.two_pow_pos s)).2 b3
 have Y2:9223372036854775808<=y*2 ^ s:=by rw[<-bl];exact Nat.mul_le_mul_right _ b2
 have U1:=Knu.un_lt hh hl av;have U2:=Knu.zO hl av;have SH:=hid (Knu.shifted (hi:=hi) (lo:=lo) av);have OR:=hid (Knu.or_add (a:=hi) U2);have TW:=hid (fun un21 e1 e2=>@Knu.two hi lo y s (hi*2 ^ s+lo / 2 ^ (64 - s)) (lo*2 ^ s % 18446744073709551616) un21 e1 e2);obtain⟨A,hA⟩:=nm (hi*2 ^ s);obtain⟨C,hC⟩:=nm (lo / 2 ^ (64 - s));obtain⟨B,hB⟩:=nm (lo*2 ^ s);obtain⟨Y,hY⟩:=nm (y*2 ^ s);rw[hA,hC,hB]at SH;rw[hA,hC]at OR U1;rw[hC]at U2;rw[hA,hC,hB,hY]at TW;rw[hY]at Y1 Y2 U1
 have iA:(hi:Int)*2 ^ s=(A:Int):=by rw[<-hA];simp
 have iB:(lo:Int)*2 ^ s=(B:Int):=by rw[<-hB];simp
 have iY:(y:Int)*2 ^ s=(Y:Int):=by rw[<-hY];simp
 have iC:(lo:Int) / 2 ^ (64 - s)=(C:Int):=by rw[<-hC];simp
 have T0:B % 18446744073709551616 < 18446744073709551616:=Nat.mod_lt _ (by omega)
 have iU:IntKind.u64.wrap (B:Int)=((B % 18446744073709551616:Nat):Int):=by rw[IntKind.wrap_u64];omega
 have iO:bits .or .u64 (A:Int) (C:Int)=((A+C:Nat):Int):=by rw[bits_or_u64_nat A C (by omega) (by omega),OR.out]
 obtain⟨T,hT⟩:=nm (B % 18446744073709551616);obtain⟨U,hU⟩:=nm (A+C);rw[hT]at iU SH TW T0;rw[hU]at iO SH TW U1
 have a3:Y / 4294967296 < 4294967296:=by omega
 have a4:2147483648<=Y / 4294967296:=by omega
 have a5:Y % 4294967296 < 4294967296:=by omega
 have eY:Y=Y / 4294967296*4294967296+Y % 4294967296:=by omega
 have i1:(Y:Int) / 4294967296=((Y / 4294967296:Nat):Int):=by omega
 have i0:=Mul64.maskN Y Y1
 have bc:T / 4294967296 < 4294967296:=by omega
 have am:T % 4294967296 < 4294967296:=by omega
 have j1:(T:Int) / 4294967296=((T / 4294967296:Nat):Int):=by omega
 have j0:=Mul64.maskN T T0;obtain⟨i,c7⟩:=nm (Y / 4294967296);obtain⟨n0,c9⟩:=nm (Y % 4294967296);obtain⟨u1,c3⟩:=nm (T / 4294967296);obtain⟨k,c4⟩:=nm (T % 4294967296);rw[c7]at i1 a3 a4 eY;rw[c9]at i0 a5 eY;rw[c3]at j1 bc TW;rw[c4]at j0 am TW;have an:=Knu.St.start eY a4 a3 a5 U1 bc;have cc:=an.q_lt;have er:=an.hr;have cb:U % i < i:=Nat.mod_lt _ (by omega)
 have k1:(U:Int) / (i:Int)=((U / i:Nat):Int):=by simp
 obtain⟨Q,hQ⟩:=nm (U / i);obtain⟨R,hR⟩:=nm (U % i);rw[hQ]at an cc er k1;rw[hR]at an er cb
 have k2:(Q:Int)*(i:Int)=((Q*i:Nat):Int):=by simp
 generalize hM:Q*i=M at er k2
 have k3:(U:Int) - (M:Int)=(R:Int):=by omega
 have cm:=hid an
 have NZ:¬(i:Int)=0:=by omega
 have EY:=hid eY
 have m:0 < Y:=by omega
 have rlt':R < 4294967296:=by omega
 have cv:A < 18446744073709551616:=by omega
 have cu:C < 18446744073709551616:=by omega
 have cs:U < 18446744073709551616:=by omega
 have ct:M<=U:=by omega
 clear c2 hL hL' c5 b1 b2 b3 b4 hA hB hC hY c6 bl hT hU c7 c9 c3 c4 hQ hR hM an er eY
 go_enter func215,ntmps215
 go_upto_region 8 with(go_at_call 237;refine LZ.mono ?_;rintro e w1 ⟨rfl,rfl⟩);go_upto_region 17 with(fail)
 go_loop [15,16] (fun vq vr=>∃q O:Nat,vq=.int .u64 q/\vr=.int .u64 O/\Knu.St Y i n0 U u1 q O/\O < 4294967296) (fun vq _=>(intOf vq).toNat)
 case atStart=>exact⟨Q,R,rfl,rfl,cm,rlt'⟩
 case round =>
  obtain⟨q,O,rfl,rfl,a7,co⟩:=hrel;have cp:=a7.q_lt;obtain⟨p1,ba⟩:=nm (q*n0)
  have cd:(q:Int)*(n0:Int)=(p1:Int):=by rw[<-ba];simp
  have a2:q < 4294967296->p1 < 18446744073709551616:=fun h=>by
   have:=Nat.mul_le_mul (show q<=4294967295 by omega) (show n0<=4294967295 by omega);omega
  by_cases a9:4294967296<=q\/O*4294967296+u1 < q*n0
  ·obtain⟨cq,ad⟩:=a7.step a9;obtain⟨q',hq'⟩:∃q',q=q'+1:=⟨q - 1,by omega⟩;rw[show q - 1=q' by omega]at ad;have c:=hid ad;rw[ba]at a9
   have lq':q'<=4294967297:=by omega
   clear ad a7 ba;subst hq';rw[Int.natCast_add,Int.natCast_one]at cd;obtain⟨H1,cl⟩:=nm (4294967296*O);obtain⟨S1,cg⟩:=nm (H1+u1);obtain⟨T1,ca⟩:=nm (O+i)
   have d3:4294967296*(O:Int)=(H1:Int):=by omega
   have d2:(H1:Int)+(u1:Int)=(S1:Int):=by omega
   have d1:(O:Int)+(i:Int)=(T1:Int):=by omega
   have d0:H1 < 18446744073709551616:=by omega
   have cy:S1 < 18446744073709551616:=by omega
   have cx:T1 < 18446744073709551616:=by omega
   replace a9:4294967296<=q'+1\/S1 < p1:=by omega
   rw[ca]at c;clear cl cg ca
   by_cases hb1:4294967296<=T1
   ·have b0:=c.broke hb1;have bb:=hid b0
    have ah:decide (4294967296<=(T1:Int))=true:=by simp;omega
    clear b0
    by_cases hbig:4294967296<=q'+1
    ·have hd:decide (4294967296<=(q':Int)+1)=true:=by simp;omega
     clear a9 a2;obtain⟨r1,r2⟩:=Knu.rest bb;have a0:(U*4294967296+u1) % Y < Y:=Nat.mod_lt _ m;obtain⟨V,hV⟩:=nm ((U*4294967296+u1) % Y);obtain⟨P,hP⟩:=nm (q'*Y)
     have iP:(q':Int)*(Y:Int)=(P:Int):=by rw[<-hP];simp
     rw[hP]at r1 r2;rw[hV]at r2 a0
     have iV:IntKind.u64.wrap (IntKind.u64.wrap (IntKind.u64.wrap ((U:Int)*4294967296)+(u1:Int)) - IntKind.u64.wrap (P:Int))=(V:Int):=by simp only[IntKind.wrap_u64];omega
     have HV:=hid hV;have l:=Knu.St.start EY a4 a3 a5 a0 am;have ao:=l.q_lt;have u:=l.hr;have a1:V % i < i:=Nat.mod_lt _ (by omega)
     have m1:(V:Int) / (i:Int)=((V / i:Nat):Int):=by simp
     obtain⟨Q2,ac⟩:=nm (V / i);obtain⟨R2,ab⟩:=nm (V % i);rw[ac]at l ao u m1;rw[ab]at l u a1
     have m2:(Q2:Int)*(i:Int)=((Q2*i:Nat):Int):=by simp
     generalize b6:Q2*i=M2 at u m2
     have m3:(V:Int) - (M2:Int)=(R2:Int):=by omega
     have b9:=hid l
     have bm:M2<=V:=by omega
     have rlt2':R2 < 4294967296:=by omega
     clear hV hP ac ab b6 l u r1 r2;go_wp2_with fail
     go_loop [18,16] (fun vq vr=>∃q O:Nat,vq=.int .u64 q/\vr=.int .u64 O/\Knu.St Y i n0 V k q O/\O < 4294967296) (fun vq _=>(intOf vq).toNat)
     case atStart=>exact⟨Q2,R2,rfl,rfl,b9,rlt2'⟩
     case round =>
      obtain⟨z,Z,rfl,rfl,f,bd⟩:=hrel;have bh:=f.q_lt;obtain⟨p2,t⟩:=nm (z*n0)
      have ap:(z:Int)*(n0:Int)=(p2:Int):=by rw[<-t];simp
      have d:z < 4294967296->p2 < 18446744073709551616:=fun h=>by
       have:=Nat.mul_le_mul (show z<=4294967295 by omega) (show n0<=4294967295 by omega);omega
      by_cases g:4294967296<=z\/Z*4294967296+k < z*n0
      ·obtain⟨bk,j⟩:=f.step g;obtain⟨q',hq'⟩:∃q',z=q'+1:=⟨z - 1,by omega⟩;rw[show z - 1=q' by omega]at j;have c:=hid j;rw[t]at g
       have lq':q'<=4294967297:=by omega
       clear j f t;subst hq';rw[Int.natCast_add,Int.natCast_one]at ap;obtain⟨H2,b7⟩:=nm (4294967296*Z);obtain⟨S2,b5⟩:=nm (H2+k);obtain⟨I,aa⟩:=nm (Z+i)
       have c1:4294967296*(Z:Int)=(H2:Int):=by omega
       have c0:(H2:Int)+(k:Int)=(S2:Int):=by omega
       have bx:(Z:Int)+(i:Int)=(I:Int):=by omega
       have bv:H2 < 18446744073709551616:=by omega
       have bt:S2 < 18446744073709551616:=by omega
       have bs:I < 18446744073709551616:=by omega
       replace g:4294967296<=q'+1\/S2 < p2:=by omega
       rw[aa]at c;clear b7 b5 aa
       by_cases hb2:4294967296<=I
       ·have r:=c.broke hb2;have x:=hid r
        have ah:decide (4294967296<=(I:Int))=true:=by simp;omega
        clear r
        by_cases hbig:4294967296<=q'+1
        ·have hd:decide (4294967296<=(q':Int)+1)=true:=by simp;omega
         clear g d;obtain⟨D,p⟩:=Knu.rest x;have n:(V*4294967296+k) % Y < Y:=Nat.mod_lt _ m;have o:=TW V SH HV.symm;obtain⟨X,E⟩:=nm ((V*4294967296+k) % Y);obtain⟨J,b⟩:=nm (q'*Y)
         have a6:(q':Int)*(Y:Int)=(J:Int):=by rw[<-b];simp
         rw[b]at D p;rw[E]at p n o
         have iX:IntKind.u64.wrap (IntKind.u64.wrap (IntKind.u64.wrap ((V:Int)*4294967296)+(k:Int)) - IntKind.u64.wrap (J:Int))=(X:Int):=by simp only[IntKind.wrap_u64];omega
         have iS:(X:Int) / 2 ^ s=(((hi*18446744073709551616+lo) % y:Nat):Int):=by rw[<-o];simp
         generalize G:(hi*18446744073709551616+lo) % y=F at iS
         have HF:=hid G;clear E b D p o G;go_wp2_with fail;refine bodyPost_ret (v:=.tuple #[.int .u64 _,.int .u64 F]) (by first|(simp[results,results215,go_sem];rfl)) rfl ⟨⟨_,by rw[HF.out]⟩,kr⟩
        ·have hd:decide (4294967296<=(q':Int)+1)=false:=by simp;omega
         have N:=d (by omega)
         have al:S2 < p2:=by omega
         clear g d;obtain⟨D,p⟩:=Knu.rest x;have n:(V*4294967296+k) % Y < Y:=Nat.mod_lt _ m;have o:=TW V SH HV.symm;obtain⟨X,E⟩:=nm ((V*4294967296+k) % Y);obtain⟨J,b⟩:=nm (q'*Y)
         have a6:(q':Int)*(Y:Int)=(J:Int):=by rw[<-b];simp
         rw[b]at D p;rw[E]at p n o
         have iX:IntKind.u64.wrap (IntKind.u64.wrap (IntKind.u64.wrap ((V:Int)*4294967296)+(k:Int)) - IntKind.u64.wrap (J:Int))=(X:Int):=by simp only[IntKind.wrap_u64];omega
         have iS:(X:Int) / 2 ^ s=(((hi*18446744073709551616+lo) % y:Nat):Int):=by rw[<-o];simp
         generalize G:(hi*18446744073709551616+lo) % y=F at iS
         have HF:=hid G;clear E b D p o G;go_wp2_with fail;refine bodyPost_ret (v:=.tuple #[.int .u64 _,.int .u64 F]) (by first|(simp[results,results215,go_sem];rfl)) rfl ⟨⟨_,by rw[HF.out]⟩,kr⟩
       ·have hb':I < 4294967296:=by omega
        have ah:decide (4294967296<=(I:Int))=false:=by simp;omega
        clear hb2
        by_cases hbig:4294967296<=q'+1
        ·have hd:decide (4294967296<=(q':Int)+1)=true:=by simp;omega
         clear g d;go_wp2_with fail
         go_round
         case rel=>exact⟨q',I,rfl,rfl,c,hb'⟩
         case measure=>simp[intOf]
        ·have hd:decide (4294967296<=(q':Int)+1)=false:=by simp;omega
         have N:=d (by omega)
         have al:S2 < p2:=by omega
         clear g d;go_wp2_with fail
         go_round
         case rel=>exact⟨q',I,rfl,rfl,c,hb'⟩
         case measure=>simp[intOf]
      ·have r:=f.done (by omega)
       have bq:z < 4294967296:=by omega
       have hd:decide (4294967296<=(z:Int))=false:=by simp;omega
       have N:=d (by omega)
       have bo:p2<=Z*4294967296+k:=by omega
       have x:=hid r;clear r f t g d;obtain⟨D,p⟩:=Knu.rest x;have n:(V*4294967296+k) % Y < Y:=Nat.mod_lt _ m;have o:=TW V SH HV.symm;obtain⟨X,E⟩:=nm ((V*4294967296+k) % Y);obtain⟨J,b⟩:=nm (z*Y)
       have a6:(z:Int)*(Y:Int)=(J:Int):=by rw[<-b];simp
       rw[b]at D p;rw[E]at p n o
       have iX:IntKind.u64.wrap (IntKind.u64.wrap (IntKind.u64.wrap ((V:Int)*4294967296)+(k:Int)) - IntKind.u64.wrap (J:Int))=(X:Int):=by simp only[IntKind.wrap_u64];omega
       have iS:(X:Int) / 2 ^ s=(((hi*18446744073709551616+lo) % y:Nat):Int):=by rw[<-o];simp
       generalize G:(hi*18446744073709551616+lo) % y=F at iS
       have HF:=hid G;clear E b D p o G;go_wp2_with fail;refine bodyPost_ret (v:=.tuple #[.int .u64 _,.int .u64 F]) (by first|(simp[results,results215,go_sem];rfl)) rfl ⟨⟨_,by rw[HF.out]⟩,kr⟩
    ·have hd:decide (4294967296<=(q':Int)+1)=false:=by simp;omega
     have N:=a2 (by omega)
     have al:S1 < p1:=by omega
     clear a9 a2;obtain⟨r1,r2⟩:=Knu.rest bb;have a0:(U*4294967296+u1) % Y < Y:=Nat.mod_lt _ m;obtain⟨V,hV⟩:=nm ((U*4294967296+u1) % Y);obtain⟨P,hP⟩:=nm (q'*Y)
     have iP:(q':Int)*(Y:Int)=(P:Int):=by rw[<-hP];simp
     rw[hP]at r1 r2;rw[hV]at r2 a0
     have iV:IntKind.u64.wrap (IntKind.u64.wrap (IntKind.u64.wrap ((U:Int)*4294967296)+(u1:Int)) - IntKind.u64.wrap (P:Int))=(V:Int):=by simp only[IntKind.wrap_u64];omega
     have HV:=hid hV;have l:=Knu.St.start EY a4 a3 a5 a0 am;have ao:=l.q_lt;have u:=l.hr;have a1:V % i < i:=Nat.mod_lt _ (by omega)
     have m1:(V:Int) / (i:Int)=((V / i:Nat):Int):=by simp
     obtain⟨Q2,ac⟩:=nm (V / i);obtain⟨R2,ab⟩:=nm (V % i);rw[ac]at l ao u m1;rw[ab]at l u a1
     have m2:(Q2:Int)*(i:Int)=((Q2*i:Nat):Int):=by simp
     generalize b6:Q2*i=M2 at u m2
     have m3:(V:Int) - (M2:Int)=(R2:Int):=by omega
     have b9:=hid l
     have bm:M2<=V:=by omega
     have rlt2':R2 < 4294967296:=by omega
     clear hV hP ac ab b6 l u r1 r2;go_wp2_with fail
     go_loop [18,16] (fun vq vr=>∃q O:Nat,vq=.int .u64 q/\vr=.int .u64 O/\Knu.St Y i n0 V k q O/\O < 4294967296) (fun vq _=>(intOf vq).toNat)
     case atStart=>exact⟨Q2,R2,rfl,rfl,b9,rlt2'⟩
     case round =>
      obtain⟨z,Z,rfl,rfl,f,bd⟩:=hrel;have bh:=f.q_lt;obtain⟨p2,t⟩:=nm (z*n0)
      have ap:(z:Int)*(n0:Int)=(p2:Int):=by rw[<-t];simp
      have d:z < 4294967296->p2 < 18446744073709551616:=fun h=>by
       have:=Nat.mul_le_mul (show z<=4294967295 by omega) (show n0<=4294967295 by omega);omega
      by_cases g:4294967296<=z\/Z*4294967296+k < z*n0
      ·obtain⟨bk,j⟩:=f.step g;obtain⟨q',hq'⟩:∃q',z=q'+1:=⟨z - 1,by omega⟩;rw[show z - 1=q' by omega]at j;have c:=hid j;rw[t]at g
       have lq':q'<=4294967297:=by omega
       clear j f t;subst hq';rw[Int.natCast_add,Int.natCast_one]at ap;obtain⟨H2,b7⟩:=nm (4294967296*Z);obtain⟨S2,b5⟩:=nm (H2+k);obtain⟨I,aa⟩:=nm (Z+i)
       have c1:4294967296*(Z:Int)=(H2:Int):=by omega
       have c0:(H2:Int)+(k:Int)=(S2:Int):=by omega
       have bx:(Z:Int)+(i:Int)=(I:Int):=by omega
       have bv:H2 < 18446744073709551616:=by omega
       have bt:S2 < 18446744073709551616:=by omega
       have bs:I < 18446744073709551616:=by omega
       replace g:4294967296<=q'+1\/S2 < p2:=by omega
       rw[aa]at c;clear b7 b5 aa
       by_cases hb2:4294967296<=I
       ·have r:=c.broke hb2;have x:=hid r
        have ah:decide (4294967296<=(I:Int))=true:=by simp;omega
        clear r
        by_cases hbig:4294967296<=q'+1
        ·have hd:decide (4294967296<=(q':Int)+1)=true:=by simp;omega
         clear g d;obtain⟨D,p⟩:=Knu.rest x;have n:(V*4294967296+k) % Y < Y:=Nat.mod_lt _ m;have o:=TW V SH HV.symm;obtain⟨X,E⟩:=nm ((V*4294967296+k) % Y);obtain⟨J,b⟩:=nm (q'*Y)
         have a6:(q':Int)*(Y:Int)=(J:Int):=by rw[<-b];simp
         rw[b]at D p;rw[E]at p n o
         have iX:IntKind.u64.wrap (IntKind.u64.wrap (IntKind.u64.wrap ((V:Int)*4294967296)+(k:Int)) - IntKind.u64.wrap (J:Int))=(X:Int):=by simp only[IntKind.wrap_u64];omega
         have iS:(X:Int) / 2 ^ s=(((hi*18446744073709551616+lo) % y:Nat):Int):=by rw[<-o];simp
         generalize G:(hi*18446744073709551616+lo) % y=F at iS
         have HF:=hid G;clear E b D p o G;go_wp2_with fail;refine bodyPost_ret (v:=.tuple #[.int .u64 _,.int .u64 F]) (by first|(simp[results,results215,go_sem];rfl)) rfl ⟨⟨_,by rw[HF.out]⟩,kr⟩
        ·have hd:decide (4294967296<=(q':Int)+1)=false:=by simp;omega
         have N:=d (by omega)
         have al:S2 < p2:=by omega
         clear g d;obtain⟨D,p⟩:=Knu.rest x;have n:(V*4294967296+k) % Y < Y:=Nat.mod_lt _ m;have o:=TW V SH HV.symm;obtain⟨X,E⟩:=nm ((V*4294967296+k) % Y);obtain⟨J,b⟩:=nm (q'*Y)
         have a6:(q':Int)*(Y:Int)=(J:Int):=by rw[<-b];simp
         rw[b]at D p;rw[E]at p n o
         have iX:IntKind.u64.wrap (IntKind.u64.wrap (IntKind.u64.wrap ((V:Int)*4294967296)+(k:Int)) - IntKind.u64.wrap (J:Int))=(X:Int):=by simp only[IntKind.wrap_u64];omega
         have iS:(X:Int) / 2 ^ s=(((hi*18446744073709551616+lo) % y:Nat):Int):=by rw[<-o];simp
         generalize G:(hi*18446744073709551616+lo) % y=F at iS
         have HF:=hid G;clear E b D p o G;go_wp2_with fail;refine bodyPost_ret (v:=.tuple #[.int .u64 _,.int .u64 F]) (by first|(simp[results,results215,go_sem];rfl)) rfl ⟨⟨_,by rw[HF.out]⟩,kr⟩
       ·have hb':I < 4294967296:=by omega
        have ah:decide (4294967296<=(I:Int))=false:=by simp;omega
        clear hb2
        by_cases hbig:4294967296<=q'+1
        ·have hd:decide (4294967296<=(q':Int)+1)=true:=by simp;omega
         clear g d;go_wp2_with fail
         go_round
         case rel=>exact⟨q',I,rfl,rfl,c,hb'⟩
         case measure=>simp[intOf]
        ·have hd:decide (4294967296<=(q':Int)+1)=false:=by simp;omega
         have N:=d (by omega)
         have al:S2 < p2:=by omega
         clear g d;go_wp2_with fail
         go_round
         case rel=>exact⟨q',I,rfl,rfl,c,hb'⟩
         case measure=>simp[intOf]
      ·have r:=f.done (by omega)
       have bq:z < 4294967296:=by omega
       have hd:decide (4294967296<=(z:Int))=false:=by simp;omega
       have N:=d (by omega)
       have bo:p2<=Z*4294967296+k:=by omega
       have x:=hid r;clear r f t g d;obtain⟨D,p⟩:=Knu.rest x;have n:(V*4294967296+k) % Y < Y:=Nat.mod_lt _ m;have o:=TW V SH HV.symm;obtain⟨X,E⟩:=nm ((V*4294967296+k) % Y);obtain⟨J,b⟩:=nm (z*Y)
       have a6:(z:Int)*(Y:Int)=(J:Int):=by rw[<-b];simp
       rw[b]at D p;rw[E]at p n o
       have iX:IntKind.u64.wrap (IntKind.u64.wrap (IntKind.u64.wrap ((V:Int)*4294967296)+(k:Int)) - IntKind.u64.wrap (J:Int))=(X:Int):=by simp only[IntKind.wrap_u64];omega
       have iS:(X:Int) / 2 ^ s=(((hi*18446744073709551616+lo) % y:Nat):Int):=by rw[<-o];simp
       generalize G:(hi*18446744073709551616+lo) % y=F at iS
       have HF:=hid G;clear E b D p o G;go_wp2_with fail;refine bodyPost_ret (v:=.tuple #[.int .u64 _,.int .u64 F]) (by first|(simp[results,results215,go_sem];rfl)) rfl ⟨⟨_,by rw[HF.out]⟩,kr⟩
   ·have hb':T1 < 4294967296:=by omega
    have ah:decide (4294967296<=(T1:Int))=false:=by simp;omega
    clear hb1
    by_cases hbig:4294967296<=q'+1
    ·have hd:decide (4294967296<=(q':Int)+1)=true:=by simp;omega
     clear a9 a2;go_wp2_with fail
     go_round
     case rel=>exact⟨q',T1,rfl,rfl,c,hb'⟩
     case measure=>simp[intOf]
    ·have hd:decide (4294967296<=(q':Int)+1)=false:=by simp;omega
     have N:=a2 (by omega)
     have al:S1 < p1:=by omega
     clear a9 a2;go_wp2_with fail
     go_round
     case rel=>exact⟨q',T1,rfl,rfl,c,hb'⟩
     case measure=>simp[intOf]
  ·have b0:=a7.done (by omega)
   have bq:q < 4294967296:=by omega
   have hd:decide (4294967296<=(q:Int))=false:=by simp;omega
   have N:=a2 (by omega)
   have bo:p1<=O*4294967296+u1:=by omega
   have bb:=hid b0;clear b0 a7 ba a9 a2;obtain⟨r1,r2⟩:=Knu.rest bb;have a0:(U*4294967296+u1) % Y < Y:=Nat.mod_lt _ m;obtain⟨V,hV⟩:=nm ((U*4294967296+u1) % Y);obtain⟨P,hP⟩:=nm (q*Y)
   have iP:(q:Int)*(Y:Int)=(P:Int):=by rw[<-hP];simp
   rw[hP]at r1 r2;rw[hV]at r2 a0
   have iV:IntKind.u64.wrap (IntKind.u64.wrap (IntKind.u64.wrap ((U:Int)*4294967296)+(u1:Int)) - IntKind.u64.wrap (P:Int))=(V:Int):=by simp only[IntKind.wrap_u64];omega
   have HV:=hid hV;have l:=Knu.St.start EY a4 a3 a5 a0 am;have ao:=l.q_lt;have u:=l.hr;have a1:V % i < i:=Nat.mod_lt _ (by omega)
   have m1:(V:Int) / (i:Int)=((V / i:Nat):Int):=by simp
   obtain⟨Q2,ac⟩:=nm (V / i);obtain⟨R2,ab⟩:=nm (V % i);rw[ac]at l ao u m1;rw[ab]at l u a1
   have m2:(Q2:Int)*(i:Int)=((Q2*i:Nat):Int):=by simp
   generalize b6:Q2*i=M2 at u m2
   have m3:(V:Int) - (M2:Int)=(R2:Int):=by omega
   have b9:=hid l
   have bm:M2<=V:=by omega
   have rlt2':R2 < 4294967296:=by omega
   clear hV hP ac ab b6 l u r1 r2;go_wp2_with fail
   go_loop [18,16] (fun vq vr=>∃q O:Nat,vq=.int .u64 q/\vr=.int .u64 O/\Knu.St Y i n0 V k q O/\O < 4294967296) (fun vq _=>(intOf vq).toNat)
   case atStart=>exact⟨Q2,R2,rfl,rfl,b9,rlt2'⟩
   case round =>
    obtain⟨z,Z,rfl,rfl,f,bd⟩:=hrel;have bh:=f.q_lt;obtain⟨p2,t⟩:=nm (z*n0)
    have ap:(z:Int)*(n0:Int)=(p2:Int):=by rw[<-t];simp
    have d:z < 4294967296->p2 < 18446744073709551616:=fun h=>by
     have:=Nat.mul_le_mul (show z<=4294967295 by omega) (show n0<=4294967295 by omega);omega
    by_cases g:4294967296<=z\/Z*4294967296+k < z*n0
    ·obtain⟨bk,j⟩:=f.step g;obtain⟨q',hq'⟩:∃q',z=q'+1:=⟨z - 1,by omega⟩;rw[show z - 1=q' by omega]at j;have c:=hid j;rw[t]at g
     have lq':q'<=4294967297:=by omega
     clear j f t;subst hq';rw[Int.natCast_add,Int.natCast_one]at ap;obtain⟨H2,b7⟩:=nm (4294967296*Z);obtain⟨S2,b5⟩:=nm (H2+k);obtain⟨I,aa⟩:=nm (Z+i)
     have c1:4294967296*(Z:Int)=(H2:Int):=by omega
     have c0:(H2:Int)+(k:Int)=(S2:Int):=by omega
     have bx:(Z:Int)+(i:Int)=(I:Int):=by omega
     have bv:H2 < 18446744073709551616:=by omega
     have bt:S2 < 18446744073709551616:=by omega
     have bs:I < 18446744073709551616:=by omega
     replace g:4294967296<=q'+1\/S2 < p2:=by omega
     rw[aa]at c;clear b7 b5 aa
     by_cases hb2:4294967296<=I
     ·have r:=c.broke hb2;have x:=hid r
      have ah:decide (4294967296<=(I:Int))=true:=by simp;omega
      clear r
      by_cases hbig:4294967296<=q'+1
      ·have hd:decide (4294967296<=(q':Int)+1)=true:=by simp;omega
       clear g d;obtain⟨D,p⟩:=Knu.rest x;have n:(V*4294967296+k) % Y < Y:=Nat.mod_lt _ m;have o:=TW V SH HV.symm;obtain⟨X,E⟩:=nm ((V*4294967296+k) % Y);obtain⟨J,b⟩:=nm (q'*Y)
       have a6:(q':Int)*(Y:Int)=(J:Int):=by rw[<-b];simp
       rw[b]at D p;rw[E]at p n o
       have iX:IntKind.u64.wrap (IntKind.u64.wrap (IntKind.u64.wrap ((V:Int)*4294967296)+(k:Int)) - IntKind.u64.wrap (J:Int))=(X:Int):=by simp only[IntKind.wrap_u64];omega
       have iS:(X:Int) / 2 ^ s=(((hi*18446744073709551616+lo) % y:Nat):Int):=by rw[<-o];simp
       generalize G:(hi*18446744073709551616+lo) % y=F at iS
       have HF:=hid G;clear E b D p o G;go_wp2_with fail;refine bodyPost_ret (v:=.tuple #[.int .u64 _,.int .u64 F]) (by first|(simp[results,results215,go_sem];rfl)) rfl ⟨⟨_,by rw[HF.out]⟩,kr⟩
      ·have hd:decide (4294967296<=(q':Int)+1)=false:=by simp;omega
       have N:=d (by omega)
       have al:S2 < p2:=by omega
       clear g d;obtain⟨D,p⟩:=Knu.rest x;have n:(V*4294967296+k) % Y < Y:=Nat.mod_lt _ m;have o:=TW V SH HV.symm;obtain⟨X,E⟩:=nm ((V*4294967296+k) % Y);obtain⟨J,b⟩:=nm (q'*Y)
       have a6:(q':Int)*(Y:Int)=(J:Int):=by rw[<-b];simp
       rw[b]at D p;rw[E]at p n o
       have iX:IntKind.u64.wrap (IntKind.u64.wrap (IntKind.u64.wrap ((V:Int)*4294967296)+(k:Int)) - IntKind.u64.wrap (J:Int))=(X:Int):=by simp only[IntKind.wrap_u64];omega
       have iS:(X:Int) / 2 ^ s=(((hi*18446744073709551616+lo) % y:Nat):Int):=by rw[<-o];simp
       generalize G:(hi*18446744073709551616+lo) % y=F at iS
       have HF:=hid G;clear E b D p o G;go_wp2_with fail;refine bodyPost_ret (v:=.tuple #[.int .u64 _,.int .u64 F]) (by first|(simp[results,results215,go_sem];rfl)) rfl ⟨⟨_,by rw[HF.out]⟩,kr⟩
     ·have hb':I < 4294967296:=by omega
      have ah:decide (4294967296<=(I:Int))=false:=by simp;omega
      clear hb2
      by_cases hbig:4294967296<=q'+1
      ·have hd:decide (4294967296<=(q':Int)+1)=true:=by simp;omega
       clear g d;go_wp2_with fail
       go_round
       case rel=>exact⟨q',I,rfl,rfl,c,hb'⟩
       case measure=>simp[intOf]
      ·have hd:decide (4294967296<=(q':Int)+1)=false:=by simp;omega
       have N:=d (by omega)
       have al:S2 < p2:=by omega
       clear g d;go_wp2_with fail
       go_round
       case rel=>exact⟨q',I,rfl,rfl,c,hb'⟩
       case measure=>simp[intOf]
    ·have r:=f.done (by omega)
     have bq:z < 4294967296:=by omega
     have hd:decide (4294967296<=(z:Int))=false:=by simp;omega
     have N:=d (by omega)
     have bo:p2<=Z*4294967296+k:=by omega
     have x:=hid r;clear r f t g d;obtain⟨D,p⟩:=Knu.rest x;have n:(V*4294967296+k) % Y < Y:=Nat.mod_lt _ m;have o:=TW V SH HV.symm;obtain⟨X,E⟩:=nm ((V*4294967296+k) % Y);obtain⟨J,b⟩:=nm (z*Y)
     have a6:(z:Int)*(Y:Int)=(J:Int):=by rw[<-b];simp
     rw[b]at D p;rw[E]at p n o
     have iX:IntKind.u64.wrap (IntKind.u64.wrap (IntKind.u64.wrap ((V:Int)*4294967296)+(k:Int)) - IntKind.u64.wrap (J:Int))=(X:Int):=by simp only[IntKind.wrap_u64];omega
     have iS:(X:Int) / 2 ^ s=(((hi*18446744073709551616+lo) % y:Nat):Int):=by rw[<-o];simp
     generalize G:(hi*18446744073709551616+lo) % y=F at iS
     have HF:=hid G;clear E b D p o G;go_wp2_with fail;refine bodyPost_ret (v:=.tuple #[.int .u64 _,.int .u64 F]) (by first|(simp[results,results215,go_sem];rfl)) rfl ⟨⟨_,by rw[HF.out]⟩,kr⟩
theorem tF(hi lo y:Nat)(w:World)(hh:hi < y)(hy:y < 18446744073709551616)(hl:lo < 18446744073709551616) :
  Calls prog 182 #[.int .u64 hi,.int .u64 lo,.int .u64 y] w fun e w'=>e=.returned (.int .u64 (((hi*18446744073709551616+lo) % y:Nat):Int))/\Kept [] w w':=by
 by_cases h0:hi=0
 ·subst h0;rw[Nat.zero_mul,Nat.zero_add];exact tE lo y w hl hy (by omega)
 ·have H:=hid (rQ hi lo y w (by omega) hh hy hl)
  have hz':¬(y:Int)=0:=by omega
  have d:(hi:Int) % (y:Int)=hi:=Int.emod_eq_of_lt (by omega) (by omega)
  generalize a:(hi*18446744073709551616+lo) % y=r at H ⊢
  clear a
  go_enter func182,ntmps182
  go_wp2_with (go_at_call 215;refine H.out.mono ?_;rintro e c ⟨⟨q,rfl⟩,b⟩);go_ret;exact⟨rfl,b⟩
theorem ee(N x y:Nat)(w:World)(h1:1<=N)(h2:N < 2305843009213693952)(hx:x < N)(hy:y < N) :
  Calls prog 142 #[N,.int .u64 x,.int .u64 y] w fun e w'=>e=.returned (.int .u64 ((x*y % N:Nat):Int))/\Kept [] w w':=by
 have d:x*y / 18446744073709551616 < N:=by
  rw[Nat.div_lt_iff_lt_mul (by omega)];have n:x*y<=N*N:=Nat.mul_le_mul (by omega) (by omega);have m:N*N < N*18446744073709551616:=Nat.mul_lt_mul_of_pos_left (by omega) (by omega);omega
 have f:=Tryz.bits_Mul64 x y (by omega) (by omega) w;have i:=hid f;have c:=tF (x*y / 18446744073709551616) (x*y % 18446744073709551616) N w d (by omega) (Nat.mod_lt _ (by omega));rw[Nat.mul_comm (x*y / 18446744073709551616),Nat.div_add_mod]at c;have H:=hid c;obtain⟨a,h⟩:=nm (x*y / 18446744073709551616);obtain⟨b,g⟩:=nm (x*y % 18446744073709551616);rw[h,g]at i H
 generalize c:x*y % N=r at H ⊢
 clear f h g c d
 go_enter func142,ntmps142
 go_wp2_with (first
  |(go_at_call 106;refine i.out.mono ?_;rintro e j ⟨rfl,k⟩;rw[k])
  |(go_at_call 182;refine H.out.mono ?_;rintro e j ⟨rfl,l⟩))
 go_ret;exact⟨rfl,l⟩
def addN(N:Nat)(a b:Int):Nat:=(res N a+res N b) % N
def subN(N:Nat)(a b:Int):Nat:=(res N a+N - res N b) % N
def mulN(N:Nat)(a b:Int):Nat:=res N a*res N b % N
theorem qs(N:Nat)(a b:Int)(w:World)(h1:1<=N)(h2:N < 2305843009213693952)(ha:Wire.I64 a)(hb:Wire.I64 b) :
  Calls prog 89 #[N,a,b] w fun e w'=>e=.returned (.int .i64 ((addN N a b:Nat):Int))/\Kept [] w w':=by
 have V:=hid (bI N w h1 h2);have g:=hid (br N a w h1 h2 ha);have f:=hid (br N b w h1 h2 hb);have i:=bw N a h1;have h:=bw N b h1
 have hz':¬(N:Int)=0:=by omega
 unfold addN
 obtain⟨x,d⟩:=nm (res N a);obtain⟨y,c⟩:=nm (res N b);rw[d]at g i ⊢;rw[c]at f h ⊢;have k:((x:Int)+(y:Int)) % (N:Int) < N:=Int.emod_lt_of_pos _ (by omega);have j:0<=((x:Int)+(y:Int)) % (N:Int):=Int.emod_nonneg _ (by omega);clear d c
 go_enter func89,ntmps89
 go_wp2_with (first
  |(go_at_call 91;refine V.out.mono ?_;rintro e w' ⟨rfl,rfl⟩)
  |(go_at_call 141;with_reducible refine g.out.mono ?_;rintro e w' ⟨rfl,rfl⟩)
  |(go_at_call 141;with_reducible refine f.out.mono ?_;rintro e w' ⟨rfl,rfl⟩))
 go_ret;exact⟨rfl,kr⟩
theorem wU(N:Nat)(a b:Int)(w:World)(h1:1<=N)(h2:N < 2305843009213693952)(ha:Wire.I64 a)(hb:Wire.I64 b) :
  Calls prog 217 #[N,a,b] w fun e w'=>e=.returned (.int .i64 ((subN N a b:Nat):Int))/\Kept [] w w':=by
 have V:=hid (bI N w h1 h2);have g:=hid (br N a w h1 h2 ha);have f:=hid (br N b w h1 h2 hb);have i:=bw N a h1;have h:=bw N b h1
 have hz':¬(N:Int)=0:=by omega
 unfold subN
 obtain⟨x,d⟩:=nm (res N a);obtain⟨y,c⟩:=nm (res N b);rw[d]at g i ⊢;rw[c]at f h ⊢;have l:((x:Int)+(N:Int) - (y:Int)) % (N:Int) < N:=Int.emod_lt_of_pos _ (by omega);have k:0<=((x:Int)+(N:Int) - (y:Int)) % (N:Int):=Int.emod_nonneg _ (by omega);clear d c
 go_enter func217,ntmps217
 go_wp2_with (first
  |(go_at_call 91;refine V.out.mono ?_;rintro e w' ⟨rfl,rfl⟩)
  |(go_at_call 141;with_reducible refine g.out.mono ?_;rintro e w' ⟨rfl,rfl⟩)
  |(go_at_call 141;with_reducible refine f.out.mono ?_;rintro e w' ⟨rfl,rfl⟩))
 go_ret;refine⟨?_,kr⟩
 have j:(((x+N - y) % N:Nat):Int)=((x:Int)+(N:Int) - (y:Int)) % (N:Int):=by
  rw[Int.natCast_emod,show((x+N - y:Nat):Int)=(x:Int)+(N:Int) - (y:Int)by omega]
 rw[j]
 rfl
theorem iH(N:Nat)(a b:Int)(w:World)(h1:1<=N)(h2:N < 2305843009213693952)(ha:Wire.I64 a)(hb:Wire.I64 b) :
  Calls prog 90 #[N,a,b] w fun e w'=>e=.returned (.int .i64 ((mulN N a b:Nat):Int))/\Kept [] w w':=by
 have V:=hid (bI N w h1 h2);have j:=hid (br N a w h1 h2 ha);have i:=hid (br N b w h1 h2 hb);have d:=bw N a h1;have c:=bw N b h1
 unfold mulN
 obtain⟨x,g⟩:=nm (res N a);obtain⟨y,f⟩:=nm (res N b);rw[g]at j d ⊢;rw[f]at i c ⊢;have h:=hid (ee N x y w h1 h2 d c);have k:x*y % N < N:=Nat.mod_lt _ (by omega)
 generalize l:x*y % N=p at h k ⊢
 clear g f l
 go_enter func90,ntmps90
 go_wp2_with (first
  |(go_at_call 91;refine V.out.mono ?_;rintro e w' ⟨rfl,rfl⟩)
  |(go_at_call 141;with_reducible refine j.out.mono ?_;rintro e w' ⟨rfl,rfl⟩)
  |(go_at_call 141;with_reducible refine i.out.mono ?_;rintro e w' ⟨rfl,rfl⟩)
  |(go_at_call 142;refine h.mono ?_;rintro e n ⟨rfl,m⟩))
 go_ret;exact⟨rfl,m⟩
theorem yQ(y:Nat)(hy:y < 18446744073709551616):bits .and .u64 (y:Int) 1=((y % 2:Nat):Int):=by
 have h:=bits_and_u64_nat y 1 hy (by omega);rw[Nat.and_one_is_mod]at h;exact h
theorem pS(N o x y:Nat):(y % 2=1->(o*x % N)*(x*x % N) ^ (y / 2) % N=o*x ^ y % N)/\(y % 2=0->o*(x*x % N) ^ (y / 2) % N=o*x ^ y % N):=by
 have hsq:∀k,(x*x % N) ^ k % N=x ^ (2*k) % N:=by
  intro k;rw[Nat.pow_mod,Nat.mod_mod,<-Nat.pow_mod,<-Nat.pow_two,<-Nat.pow_mul]
 constructor
 ·intro h;rw[Nat.mul_mod,Nat.mod_mod,hsq,<-Nat.mul_mod,Nat.mul_assoc,<-Nat.pow_succ',show(2*(y / 2)).succ=y by omega]
 ·intro h;rw[Nat.mul_mod,hsq,<-Nat.mul_mod,show 2*(y / 2)=y by omega]
theorem fQ(N a b:Nat)(w:World)(h1:2<=N)(h2:N < 2305843009213693952)(ha:a < N)(hb:b < 18446744073709551616) :
  Calls prog 140 #[N,.int .u64 a,.int .u64 b] w fun e w'=>e=.returned (.int .u64 ((a ^ b % N:Nat):Int))/\Kept [] w w':=by
 obtain⟨T,g⟩:=nm (a ^ b % N);rw[g]
 have hz':¬(N:Int)=0:=by omega
 have F:(1:Int) % (N:Int)=1:=Int.emod_eq_of_lt (by omega) (by omega)
 have A:1*a ^ b % N=T:=by rw[Nat.one_mul];exact g
 have G:=hid A;clear A g
 go_enter func140,ntmps140
 go_wp2_with fail;simp only[F]
 go_loopw [1,2,7] (fun va vb vo wr=>∃x y o:Nat,va=.int .u64 x/\vb=.int .u64 y/\vo=.int .u64 o/\x < N/\y < 18446744073709551616/\o < N/\o*x ^ y % N=T/\Kept [] w wr) (fun _ vb _ _=>(intOf vb).toNat)
 case atStart=>exact⟨a,b,1,rfl,rfl,rfl,ha,hb,by omega,G.out,kr⟩
 case round =>
  obtain⟨x,y,o,rfl,rfl,rfl,i,E,j,u,l⟩:=hrel;obtain⟨s,r⟩:=pS N o x y;have n:=hid (fun wr=>ee N x x wr (by omega) h2 i i);have C:=hid (fun wr=>ee N o x wr (by omega) h2 j i);have c:=yQ y E;have p:=hid u;have m:=hid s;have B:=hid r;have t:o*x % N < N:=Nat.mod_lt _ (by omega);have h:x*x % N < N:=Nat.mod_lt _ (by omega);obtain⟨X,v⟩:=nm (x*x % N);obtain⟨O,z⟩:=nm (o*x % N);rw[v]at n m B h;rw[z]at C m t;clear s r u v z
  by_cases hy0:y=0
  ·subst hy0
   have hd:decide ((0:Int) < 0)=false:=by decide
   have g:o=T:=by
    have:=p.out;rw[Nat.pow_zero,Nat.mul_one,Nat.mod_eq_of_lt j]at this;exact this
   clear c;go_wp2_with fail;go_ret;exact⟨rfl,l⟩
  ·have hd:decide ((0:Int) < (y:Int))=true:=by simp;omega
   rcases Nat.mod_two_eq_zero_or_one y with h2'|h2'
   ·rw[h2']at c;have d:=B.out h2';rw[p.out]at d;have q:=hid d;clear d;have hand':bits .and .u64 (y:Int) 1=0:=c;clear c;go_wp2_with (go_at_call 142;with_reducible refine(n.out _).mono ?_);rintro e D ⟨rfl,f⟩;go_wp2_with fail
    go_roundw
    case rel=>exact⟨X,y / 2,o,rfl,rfl,rfl,h,by omega,j,q.out,l.trans f⟩
    case measure=>simp[intOf];omega
   ·rw[h2']at c;have d:=m.out h2';rw[p.out]at d;have q:=hid d;clear d;have hand':bits .and .u64 (y:Int) 1=1:=c;clear c;go_wp2_with (go_at_call 142;with_reducible refine(C.out _).mono ?_);rintro e D ⟨rfl,f⟩;go_wp2_with (go_at_call 142;with_reducible refine(n.out _).mono ?_);rintro e I ⟨rfl,k⟩;go_wp2_with fail
    go_roundw
    case rel=>exact⟨X,y / 2,O,rfl,rfl,rfl,h,by omega,t,q.out,(l.trans f).trans k⟩
    case measure=>simp[intOf];omega
def powN(N:Nat)(a:Int)(b:Nat):Nat:=res N a ^ b % N
theorem qp(N:Nat)(a:Int)(b:Nat)(w:World)(h1:2<=N)(h2:N < 2305843009213693952)(ha:Wire.I64 a)(hb:b < 9223372036854775808) :
  Calls prog 146 #[N,a,b] w fun e w'=>e=.returned (.int .i64 ((powN N a b:Nat):Int))/\Kept [] w w':=by
 have V:=hid (bI N w (by omega) h2);have f:=hid (br N a w (by omega) h2 ha);have c:=bw N a (by omega)
 unfold powN
 generalize h:res N a=x at f c ⊢
 have d:=hid (fQ N x b w h1 h2 c (by omega));have g:x ^ b % N < N:=Nat.mod_lt _ (by omega)
 generalize i:x ^ b % N=p at d g ⊢
 have k:decide ((0:Int)<=(b:Int))=true:=by simp
 clear h i
 go_enter func146,ntmps146
 go_wp2_with (first
  |(go_at_call 91;refine V.out.mono ?_;rintro e w' ⟨rfl,rfl⟩)
  |(go_at_call 141;refine f.mono ?_;rintro e w' ⟨rfl,rfl⟩)
  |(go_at_call 140;refine d.mono ?_;rintro e l ⟨rfl,j⟩))
 go_ret;exact⟨rfl,j⟩
end Go.Proofs.YtcidfldeiklcjaaGreatDoor
namespace Go.Proofs.YtcidfldeiklcjaaGreatDoor
open Go.RowKit
open Go.Proofs.Tryz
def xp:List Int:=Lib.deBruijn64tab.map Int.ofNat
theorem rJ : prog.globalNamed "math/bits.deBruijn64tab" = some 2 := by kernel_rfl
structure Env2 (w:World):Prop extends Env w where
 tab : Lib.TabIs prog w "math/bits.deBruijn64tab" .u8 xp
theorem Env2.kept0{w w':World}(hE:Env2 w)(h:Kept [] w w'):Env2 w':=⟨hE.toEnv.kept0 h,gN rJ h (by simp) hE.tab⟩
theorem Env2.alloc{w:World}(hE:Env2 w)(o:Obj):Env2 (w.alloc o):=hE.kept0 (kr.alloc o)
theorem uW{w:World}(hE:Env2 w)(i:Nat)(hi:i < 64):w.cell? ⟨2,i,none⟩=some (.int .u8 ((Lib.deBruijn64tab.getD i 0:Nat):Int)):=by
 have hl:xp.length=64:=by decide
 have h:=Lib.TabIs.cell hE.tab rJ i (by omega);rw[h]
 congr 2
 unfold xp
 rw[List.getD_eq_getElem?_getD,List.getD_eq_getElem?_getD,List.getElem?_map]
 cases Lib.deBruijn64tab[i]? <;> rfl
theorem uP(x:Nat)(w:World)(h0:x≠0)(hx:x < 18446744073709551616)(hE:Env2 w) :
  Calls prog 216 #[.int .u64 x] w fun e w'=>e=.returned (.int .i64 ((Lib.ctz 64 x:Nat):Int))/\w=w':=by
 obtain⟨hlow,hk⟩:=Lib.lowest_bit 64 x h0 hx;obtain⟨hi,htab⟩:=Lib.deBruijn64_at _ hk;have hcell:=uW hE _ hi;rw[htab]at hcell;have key:=tz64_key x _ hx h0 hlow
 have hx0:((x:Int)==0)=false:=by simp;omega
 obtain⟨k,hk'⟩:∃k,Lib.ctz 64 x=k:=⟨_,rfl⟩;rw[hk']at hcell key hi hk ⊢;obtain⟨idx,hidx⟩:=nm (2 ^ k*285870213051353865 % 18446744073709551616 / 288230376151711744);rw[hidx]at hcell key hi;clear hidx htab hlow hk'
 go_enter func216,ntmps216
 go_wp2_with (simp only[key]);go_ret;exact⟨rfl,rfl⟩
end Go.Proofs.YtcidfldeiklcjaaGreatDoor
