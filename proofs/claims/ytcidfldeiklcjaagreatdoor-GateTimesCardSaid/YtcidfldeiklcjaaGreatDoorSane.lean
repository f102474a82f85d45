import Derived.Laws.IdiomStrings
import Derived.Test.YtcidfldeiklcjaaGreatDoorSr2
set_option maxRecDepth 100000
set_option maxHeartbeats 32000000
namespace Go.Proofs.YtcidfldeiklcjaaGreatDoor
open Go.RowKit ShaP
open Go.Proofs.Tryz
open Lib(hid)
def lenOf:Value->Nat
 | .slice _ n _=>n
 |_=>0
theorem gw(n j:Nat)(hj:j < 8):(aT n).take (j+1)=(aT n).take j++[UInt8.ofNat (8*n % 18446744073709551616 / 2 ^ (56 - 8*j))]:=by
 unfold aT
 rw[<-List.map_take,<-List.map_take,List.take_range,List.take_range,Nat.min_eq_left (by omega),Nat.min_eq_left (by omega),List.range_succ,List.map_append]
 rfl
theorem jC(X:Nat):IntKind.u8.wrap (X:Int)=((UInt8.ofNat X).toNat:Int):=by
 simp[IntKind.wrap,IntKind.bits,IntKind.signed]
theorem nM{w:World}{b c k M:Nat}{p:List UInt8}(hp:p.length=64*M)(hk:k < M)(hc:64<=c)(hx:∀j (h:j < p.length),w.cell? ⟨b,j,none⟩=some (.int .u8 (p[j].toNat:Int))) :
  Row w 1 (.slice (some ⟨b,64*k,none⟩) 64 c) 64 (bcs ((p.drop (64*k)).take 64)):=by
 have hl:((p.drop (64*k)).take 64).length=64:=by simp;omega
 refine⟨by simp[bcs];omega,by omega,_,_,rfl,hc,fun _=>⟨b,64*k,rfl,fun j u hu=>?_⟩⟩
 have hj:j < 64:=by
  rcases Nat.lt_or_ge j 64 with h|h
  ·exact h
  ·rw[List.getElem?_eq_none (by simp[bcs];omega)]at hu
   cases hu
 rw[hx (64*k+j) (by omega)];rw[<-hu]
 simp[bcs,hj,List.getElem?_drop,show 64*k+j < p.length by omega]
theorem jy(w:World)(b cap:Nat)(l:List UInt8)(hc:∀j (h:j < l.length),w.cell? ⟨b,j,none⟩=some (.int .u8 (l[j].toNat:Int))) :
  (convert 144 9 (.slice (some ⟨b,0,none⟩) l.length cap)).run prog w=.ok (.string ⟨l.toArray⟩) w :=
 run_convert_bytes_back w 144 9 5 ⟨b,0,none⟩ cap l underlying144 underlying5 underlying9 (fun j hj=>by rw[cP,Nat.zero_add];exact hc j hj)
theorem ut(l:List W)(i:Nat)(hi:i < l.length):((l.take (i+1)).flatMap bu)=(l.take i).flatMap bu++bu (l.getD i 0):=by
 rw[List.take_succ_eq_append_getElem hi,List.flatMap_append]
 simp[List.getD,hi]
theorem jv(l:List W):(l.flatMap bu).length=4*l.length:=by
 induction l with
 |nil=>rfl
 |cons a l ih=>rw[List.flatMap_cons,List.length_append,ih,List.length_cons];simp[bu];omega
theorem kL(X:Nat):(X:Int) % 256=((UInt8.ofNat X).toNat:Int):=by
 rw[<-jC]
 simp[IntKind.wrap,IntKind.bits,IntKind.signed]
theorem new4(w:World)(a b c d:Value)(T:TypeId):∀j u,[a,b,c,d][j]?=some u->(w.alloc (.cells #[a,b,c,d] T)).cell? ((⟨w.heap.size,0,none⟩:Addr).add j)=some u:=by
 intro j u hu;rw[cP,World.cell?_alloc_new,Nat.zero_add]
 simpa using hu
theorem ixw(s:S8)(i:Nat)(hi:i < 8)(w:World):(Instr.index 190 (.agg (wvs s.list).toArray) (.int .i64 i)).run prog w=.ok (wv (s.list.getD i 0)) w:=by
 rcases(by omega:i=0\/i=1\/i=2\/i=3\/i=4\/i=5\/i=6\/i=7)with rfl|rfl|rfl|rfl|rfl|rfl|rfl|rfl <;> kernel_rfl
theorem xZ(s:List UInt8)(w:World)(hl:s.length<=100000000) :
  Calls prog 92 #[.string ⟨s.toArray⟩] w fun e w'=>e=.returned (.string ⟨(sha s).toArray⟩)/\Kept [] w w':=by
 have cl:=Lib.run_convert_string_bytes (P:=prog) w 9 144 5 ⟨s.toArray⟩ underlying9 underlying144 underlying5;have A0:=hid (Ap.conv w s hl);have K0:Hid (Kept [] w (Lib.bytesWorld w 5 ⟨s.toArray⟩)):=Kept.of_below (Lib.bytesWorld_below _ _ _)
 go_enter func92,ntmps92
 go_upto_region 1 with(fail);obtain⟨W1,bh⟩:=nm (Lib.bytesWorld w 5 ⟨s.toArray⟩);rw[bh]at cl A0 K0;have e6:w.heap.size<=W1.heap.size:=K0.out.size;have N1:Hid ((W1.alloc (.cells #[.int .u8 128] 5)).cell? ⟨W1.heap.size,0,none⟩=some (bval 128)):=fF W1 128 _;clear bh;go_wp2_with (at_builtin;refine ez rfl _ _ rfl w.heap.size _ s rfl (A0.out.alloc _) ⟨W1.heap.size,0,none⟩ 128 rfl N1.out (by omega) (by simp;omega) ?_;intro v1 w1 cu ct);have cb:Kept [] w w1:=(K0.out.alloc _).then_below ct
 go_loopw [3] (fun v wr=>∃j:Nat,j<=gap (s.length+1)/\Ap wr w.heap.size v (s++[128]++List.replicate j 0)/\Kept [] w wr) (fun v _=>s.length+200 - lenOf v)
 case atStart=>exact⟨0,by omega,by simpa using cu,cb⟩
 case round =>
  obtain⟨j,hj,T,r⟩:=hrel;have cd:=rI (s.length+1)
  have G:(s++[128]++List.replicate j (0:UInt8)).length=s.length+1+j:=by simp;omega
  obtain⟨b,C,hv,cp,cm,c7,b4,o,y⟩:=T.form;rw[G]at hv;subst hv;have HA:=hid T;have di:=r.size;clear o y T
  by_cases hlt:j < gap (s.length+1)
  ·have dk:=nA (s.length+1) j hlt
   have hd:(((s.length+1+j:Nat):Int) % 64 != 56)=true:=by simp;omega
   have N2:Hid ((wr.alloc (.cells #[.int .u8 0] 5)).cell? ⟨wr.heap.size,0,none⟩=some (bval 0)):=fF wr 0 _;obtain⟨n,hn⟩:=nm (s.length+1+j);rw[hn]at hd HA ⊢;go_wp2_with (at_builtin;refine ez rfl _ _ rfl w.heap.size _ (s++[128]++List.replicate j 0) rfl (HA.out.alloc _) ⟨wr.heap.size,0,none⟩ 0 rfl N2.out (by omega) (by simp;omega) ?_;intro v2 w2 R a9)
   go_roundw
   case rel=>exact⟨j+1,by omega,by rw[List.replicate_succ',<-List.append_assoc];exact R,(r.alloc _).then_below a9⟩
   case measure =>
    obtain⟨b2,dc,c5,_⟩:=R.form;rw[c5]
    simp[lenOf]
    omega
  ·as_aux_lemma =>
   obtain rfl:j=gap (s.length+1):=by omega
   have cc:=oG (s.length+1)
   have hd:(((s.length+1+gap (s.length+1):Nat):Int) % 64 != 56)=false:=by simp;omega
   obtain⟨D,B⟩:=nm (s++[128]++List.replicate (gap (s.length+1)) (0:UInt8))
   have a1:aK s=D++aT s.length:=by rw[<-B];rfl
   rw[B]at HA;rw[B]at G;obtain⟨n,hn⟩:=nm (s.length+1+gap (s.length+1));rw[hn]at hd HA G ⊢
   have dl:n<=s.length+64:=by omega
   have HP:=hid a1
   have dm:(n+8) % 64=0:=by omega
   obtain⟨L,hL⟩:=nm (aT s.length);clear B a1 cc cd hlt hn;go_wp2_with fail
   go_loopw [3,4] (fun v vk wq=>∃(j:Nat) (k:Int),j<=8/\vk=.int .i64 k/\k=56 - 8*(j:Int)/\Ap wq w.heap.size v (D++(aT s.length).take j)/\Kept [] w wq) (fun _ vk _=>(intOf vk+8).toNat)
   case atStart=>exact⟨0,56,by omega,rfl,by omega,by simpa using HA.out,r⟩
   case round =>
    obtain⟨j,k,hj,rfl,ap,T,r⟩:=hrel;have cv:=dv s.length
    have l:(D++(aT s.length).take j).length=n+j:=by simp;omega
    obtain⟨b,C,hv,cp,cm,c7,b4,o,y⟩:=T.form;rw[l]at hv;subst hv;have N:=hid T;have d7:=r.size;clear o y T
    by_cases hlt:j < 8
    ·obtain⟨K,rfl⟩:∃K:Nat,k=K:=⟨56 - 8*j,by omega⟩
     have hK:56 - 8*j=K:=by omega
     have db:K<=56:=by omega
     have q:=gw s.length j hlt;rw[hK,Nat.mod_eq_of_lt (by omega)]at q
     have iX:(8*(s.length:Int)) / 2 ^ K=((8*s.length / 2 ^ K:Nat):Int):=by simp
     obtain⟨X,hX⟩:=nm (8*s.length / 2 ^ K);rw[hX]at iX q;have iC:=jC X
     have iD:(X:Int) % 256=((UInt8.ofNat X).toNat:Int):=by rw[<-iC];simp[IntKind.wrap,IntKind.bits,IntKind.signed]
     obtain⟨c,hc⟩:=nm (UInt8.ofNat X);rw[hc]at iC iD q;have d0:=hid ap;have HT:=hid q
     have hd:decide ((0:Int)<=(K:Int))=true:=by simp
     have N2:Hid ((wr.alloc (.cells #[.int .u8 (c.toNat:Int)] 5)).cell? ⟨wr.heap.size,0,none⟩=some (bval c)):=fF wr c _;clear hX hc q hK ap;go_wp2_with (at_builtin;refine ez rfl _ _ rfl w.heap.size _ (D++(aT s.length).take j) rfl (N.out.alloc _) ⟨wr.heap.size,0,none⟩ c rfl N2.out (by omega) (by simp;omega) ?_;intro v2 w2 R a9)
     go_roundw
     case rel=>exact⟨j+1,(K:Int) - 8,by omega,by go_num,by have:=d0.out;omega,by rw[HT.out,<-List.append_assoc];exact R,(r.alloc _).then_below a9⟩
     case measure=>simp[intOf];omega
    ·as_aux_lemma =>
     obtain rfl:j=8:=by omega
     obtain rfl:k=-8:=by omega
     have J:D++(aT s.length).take 8=aK s:=by rw[List.take_of_length_le (by omega),HP.out]
     have d9:n+8<=C:=by omega
     rw[J]at N l;obtain⟨M,hM⟩:∃M,n+8=64*M:=⟨(n+8) / 64,by omega⟩;rw[hM]at N l ⊢
     have e5:1<=M:=by omega
     have e4:M<=2000000:=by omega
     have Z:sha s=(mixed (aK s) M).list.flatMap bu:=by
      unfold sha
      rw[l,Nat.mul_div_cancel_left _ (by omega)]
     have bk:=hid Z
     have dr:64*M<=C:=by omega
     have b3:C<=maxLen:=b4
     have V:Hid (b < wr.heap.size/\∀j (h:j < (aK s).length),wr.cell? ⟨b,j,none⟩=some (.int .u8 ((aK s)[j].toNat:Int))):=by
      obtain⟨b',cap',hv',_,hbl',_,_,hcs',_⟩:=N.out.form;injection hv' with O e2 e3;injection O with O;injection O with O _ _;subst O;exact⟨hbl',hcs'⟩
     have cx:=hid l
     have i8:(prog.info? 190).map (·.size)=some 8:=by kernel_rfl
     have I8:=hid i8
     unfold maxLen at b3
     clear J hM Z l N cv i8;go_wp2_with (go_at_call 143;refine(uw _).mono ?_);rintro e Q ⟨rfl,k5⟩;have aa:Hid (Blk (Q.alloc (.cells #[.int .u32 0,.int .u32 0,.int .u32 0,.int .u32 0,.int .u32 0,.int .u32 0,.int .u32 0,.int .u32 0] 190)) Q.heap.size 190 #[.int .u32 0,.int .u32 0,.int .u32 0,.int .u32 0,.int .u32 0,.int .u32 0,.int .u32 0,.int .u32 0]):=Blk.new _ _ _;have OF:=hid (fJ first.list);go_upto_region 9 with(refine wpList_store_row rfl _ _ _ rfl Q.heap.size (wvs first.list).toArray rfl rfl 190 _ aa.out I8.out rfl OF.out ?_);obtain⟨W6,U⟩:=nm (((Q.alloc (.cells #[.int .u32 0,.int .u32 0,.int .u32 0,.int .u32 0,.int .u32 0,.int .u32 0,.int .u32 0,.int .u32 0] 190)).setRow Q.heap.size (wvs first.list).toArray));rw[U];have k6:Kept [] wr W6:=k5.trans (U▸((kr.alloc _).setRow (Or.inr (Nat.le_refl _)) _));have c6:Blk W6 Q.heap.size 190 (wvs first.list).toArray:=U▸Blk.setRow aa.out;have a3:∀j (h:j < (aK s).length),W6.cell? ⟨b,j,none⟩=some (.int .u8 ((aK s)[j].toNat:Int)):=fun j h=>(k6.cell (p:=⟨b,j,none⟩) V.out.1 (by simp)).trans (V.out.2 j h);have cq:b < Q.heap.size:=Nat.lt_of_lt_of_le V.out.1 k5.size;have cs:b < W6.heap.size:=Nat.lt_of_lt_of_le V.out.1 k6.size;have bx:w.heap.size<=Q.heap.size:=Nat.le_trans r.size k5.size;obtain⟨H,hH⟩:=nm Q.heap.size;rw[hH]at c6 cq bx ⊢;have C6:=hid c6;have d4:=hid a3;have K6:=hid (r.trans k6);clear U c6 a3 hH aa
     go_frame
     go_loopw [3] (fun v wq=>∃(k:Nat) (a:Option Addr) (c:Nat),k<=M/\v=.slice a (64*(M - k)) c/\64*(M - k)<=c/\c<=C/\(k < M->a=some ⟨b,64*k,none⟩)/\Blk wq H 190 (wvs (mixed (aK s) k).list).toArray/\Kept [H] W6 wq) (fun v _=>lenOf v)
     case atStart=>exact⟨0,some ⟨b,0,none⟩,C,by omega,by rw[Nat.sub_zero],by omega,by omega,fun _=>rfl,C6.out,kr⟩
     case round =>
      obtain⟨k,a,c,hk,rfl,hc,ds,T,hb,z⟩:=hrel
      by_cases hlt:k < M
      ·as_aux_lemma =>
       obtain rfl:=T hlt;have F:mixed (aK s) (k+1)=ShaP.mix (mixed (aK s) k) (((aK s).drop (64*k)).take 64):=rfl;have A:=nM (c:=c) cx.out hlt (by omega) (fun j h=>(z.cell (p:=⟨b,j,none⟩) cs (by simp;omega)).trans (d4.out j h));obtain⟨g,hg⟩:=nm (mixed (aK s) k);obtain⟨ch,b5⟩:=nm (((aK s).drop (64*k)).take 64);rw[hg]at hb F;rw[b5]at A F;obtain⟨x0,x1,x2,x3,x4,x5,x6,x7⟩:=bc8 hb rfl;have bm:=hid hb;have HR:=hid A;obtain⟨ln,a7⟩:=nm (64*(M - k));rw[a7]at hc ⊢
       have d8:64<=ln:=by omega
       have hd:decide ((0:Int) < (ln:Int))=true:=by simp;omega
       have ml:=yv (.slice (some ⟨b,64*k,none⟩) 64 c) g ch wr.drew (A.drew);obtain⟨gn,av⟩:=nm (ShaP.mix g ch);rw[av]at ml F;have ML:=hid ml;have HM:=hid F;have hln':ln=64*(M - k):=a7.symm;have bl:=hid hln';have OG:=hid (fJ gn.list);clear hg b5 F hb A a7 hln' ml av;go_upto_region 11 with(fail)
       have d6:(64:Int)<=(c:Int):=by omega
       have d5:64<=c:=by omega
       go_still_tail 3,(by kernel_rfl)
       change wpList _ _ _ _ _ wr.drew
       go_upto_region 10 with(first
        |(go_at_call 144;refine ML.out.mono ?_;rintro e w8 ⟨rfl,k8⟩)
        |(refine wpList_store_row rfl _ _ _ rfl H (wvs gn.list).toArray rfl rfl 190 _ (Blk.kept (bm.out.drew) k8 (by simp)) I8.out rfl OG.out ?_))
       have bb:Blk (w8.setRow H (wvs gn.list).toArray) H 190 (wvs gn.list).toArray:=Blk.setRow (Blk.kept (bm.out.drew) k8 (by simp));have an:Kept [H] W6 (w8.setRow H (wvs gn.list).toArray):=((z.drew).then_ (S':=[]) k8 (by simp)).setRow (Or.inl (by simp)) _;have ac:=hid bb;have ab:=hid an;obtain⟨w9,ah⟩:=nm (w8.setRow H (wvs gn.list).toArray);rw[ah]at ac ab ⊢;clear bb an ah
       go_frame
       have al:64*(M - (k+1))=ln - 64:=by have:=bl.out;omega
       have Y:=hid al;clear al
       by_cases hc64:c=64
       ·subst hc64
        have c9:ln=64:=by omega
        have ca:¬k+1 < M:=by have:=bl.out;omega
        subst c9;go_wp2_with fail
        go_roundw
        case rel=>exact⟨k+1,some ⟨b,64*k,none⟩,0,by omega,by rw[Y.out],by rw[Y.out];omega,by omega,fun h=>absurd h ca,by rw[HM.out];exact ac.out,ab.out⟩
        case measure=>simp[lenOf]
       ·have da:64 < c:=by omega
        have dg:(64:Int) < (c:Int):=by omega
        go_wp2_with fail
        go_roundw
        case rel=>exact⟨k+1,some ⟨b,64*(k+1),none⟩,c - 64,by omega,by rw[Y.out,show 64*(k+1)=64*k+64 by omega],by rw[Y.out];omega,by omega,fun _=>rfl,by rw[HM.out];exact ac.out,ab.out⟩
        case measure=>simp[lenOf];omega
      ·obtain rfl:k=M:=by omega
       have hd:decide ((0:Int) < ((64*(k - k):Nat):Int))=false:=by simp
       rw[Nat.sub_self,Nat.mul_zero]at hd hc ⊢;obtain⟨g,hg⟩:=nm (mixed (aK s) k);rw[hg]at hb;have HG:=hid hg;obtain⟨x0,x1,x2,x3,x4,x5,x6,x7⟩:=bc8 hb rfl;have am:Kept [] w wr:=K6.out.then_ z (fun x hx hm=>by simp at hm;omega);have cy:=hid am;clear hg hb am;go_upto_region 14 with(fail);obtain⟨i0,hi,bt,bs,bq⟩:=info_parts fW;have L8:g.list.length=8:=rfl;obtain⟨wo,rfl⟩:∃wo:World,wo=wr:=⟨_,rfl⟩
       go_loopw [6,8,45] (fun v _ vi wq=>∃i:Nat,i<=8/\vi=.int .i64 i/\wq.ownsRow wo.heap.size 5 1 v (4*i) (((g.list.take i).flatMap bu).map bval)/\Kept [] wo wq) (fun _ _ vi _=>8 - (intOf vi).toNat)
       case atStart=>exact⟨0,by omega,rfl,World.ownsRow_nil _ _ _ _,kr⟩
       case round =>
        obtain⟨i,dn,rfl,m,z⟩:=hrel;obtain⟨ao,co,rfl⟩:=aG m;have dj:=z.size
        by_cases hlt:i < 8
        ·have a5:∀w,(Instr.index 190 (.agg #[wv g.a,wv g.b,wv g.c,wv g.d,wv g.e,wv g.f,wv g.g,wv g.h]) (.int .i64 i)).run prog w=.ok (wv (g.list.getD i 0)) w:=ixw g i hlt;have t:=ut g.list i (by omega);obtain⟨x,hx⟩:=nm (g.list.getD i 0);rw[hx]at a5 t;have bv:=x.isLt
         have e0:(x.toNat:Int) / 16777216=((UInt8.ofNat (x.toNat / 16777216)).toNat:Int):=by
          rw[<-kL];omega
         have d1:(x.toNat:Int) / 65536=((x.toNat / 65536:Nat):Int):=by omega
         have d2:(x.toNat:Int) / 256=((x.toNat / 256:Nat):Int):=by omega
         have O:=jC (x.toNat / 65536);have e2:=jC (x.toNat / 256);have e3:=jC x.toNat;have f1:=kL (x.toNat / 65536);have f2:=kL (x.toNat / 256);have f3:=kL x.toNat;have b0:=(UInt8.ofNat (x.toNat / 16777216)).toNat_lt;have ad:bu x=[UInt8.ofNat (x.toNat / 16777216),UInt8.ofNat (x.toNat / 65536),UInt8.ofNat (x.toNat / 256),UInt8.ofNat x.toNat]:=rfl;rw[ad]at t;obtain⟨c0,ba⟩:=nm (UInt8.ofNat (x.toNat / 16777216));obtain⟨c1,b9⟩:=nm (UInt8.ofNat (x.toNat / 65536));obtain⟨c2,b7⟩:=nm (UInt8.ofNat (x.toNat / 256));obtain⟨c3,b6⟩:=nm (UInt8.ofNat x.toNat);rw[ba]at e0 b0 t;rw[b9]at O f1 t;rw[b7]at e2 f2 t;rw[b6]at e3 f3 t;obtain⟨Y1,bd⟩:=nm (x.toNat / 65536);obtain⟨Y2,bc⟩:=nm (x.toNat / 256)
         have de:Y1 < 65536:=by omega
         have dd:Y2 < 16777216:=by omega
         rw[bd]at d1 O f1;rw[bc]at d2 e2 f2;obtain⟨X,hX⟩:=nm x.toNat
         have ik:∀w,(Instr.index 190 (.agg #[wv g.a,wv g.b,wv g.c,wv g.d,wv g.e,wv g.f,wv g.g,wv g.h]) (.int .i64 i)).run prog w=.ok (.int .u32 (X:Int)) w:=by
          rw[<-hX];exact a5
         rw[hX]at e0 d1 d2 e3 f3;have d3:=hid t;have a4:=hid m;have NW:Hid (∀j u,[bval c0,bval c1,bval c2,bval c3][j]?=some u->(wr.alloc (.cells #[.int .u8 c0.toNat,.int .u8 c1.toNat,.int .u8 c2.toNat,.int .u8 c3.toNat] 5)).cell? ((⟨wr.heap.size,0,none⟩:Addr).add j)=some u):=new4 wr _ _ _ _ _;clear a5 hx bv ad ba b9 b7 b6 bd bc hX t m;go_wp2_with (at_builtin;refine wpList_append_own _ rfl _ _ 144 rfl wo.heap.size 5 i0 (.int .u8 0) 1 1 underlying144 hi bt bs bq rfl (by decide) _ _ _ rfl (a4.out.alloc _) ⟨wr.heap.size,0,none⟩ 4 4 [bval c0,bval c1,bval c2,bval c3] rfl rfl NW.out (by intro u hu;simp at hu;rcases hu with rfl|rfl|rfl|rfl <;> rfl) (by unfold maxLen;omega) (by omega) (by simp;omega) ?_;intro v2 w2 a6 cg _)
         go_roundw
         case rel=>exact⟨i+1,by omega,by go_num,by rw[d3.out,List.map_append,show 4*(i+1)=4*i+4 by omega];exact a6,(z.alloc _).grown cg (fun k hk=>Or.inr (a4.out.lt k hk).1)⟩
         case measure=>simp[intOf];omega
        ·obtain rfl:i=8:=by omega
         have I:(g.list.flatMap bu).length=32:=by rw[jv];rfl
         have q:g.list.take 8=g.list:=rfl
         have E:wr.ownsRow wo.heap.size 5 1 (.slice ao (4*8) co) (g.list.flatMap bu).length ((g.list.flatMap bu).map bval):=by
          rw[q]at m;rw[I];exact m
         obtain⟨bo,e7,c4,_,_,_,_,b1,_⟩:=(Ap.of_own E (by omega)).form;injection c4 with O e2 e3;subst O e3;have a2:=jy wr bo co (g.list.flatMap bu) b1;rw[I]at a2;simp only[show 4*8=32 from rfl]
         have a0:g.list.flatMap bu=sha s:=by rw[bk.out,HG.out]
         rw[a0]at a2;clear m E b1 a0 I q;go_wp2_with fail;go_ret;exact⟨rfl,cy.out.trans z⟩
theorem mZ(w:World)(T:TypeId):(w.alloc (.cells #[] T)).ownsRow w.heap.size T 1 (.slice (some ⟨w.heap.size,0,none⟩) 0 0) 0 [] := ⟨rfl,.inr ⟨w.heap.size,0,#[],rfl,Nat.le_refl _,heap_alloc_new w _,Nat.le_refl _,by simp[maxLen],rfl,rfl⟩⟩
theorem xy(l:List UInt8):∀u∈l.map bval,u.oneCell'=true:=by
 intro u hu;simp only[List.mem_map]at hu;obtain⟨y,_,rfl⟩:=hu
 rfl
theorem Ap.news{w:World}{base b cap n:Nat}{s:List UInt8}(h:Ap w base (.slice (some ⟨b,0,none⟩) n cap) s)(o:Obj):∀j u,(s.map bval)[j]?=some u->(w.alloc o).cell? ((⟨b,0,none⟩:Addr).add j)=some u:=by
 intro j u hu;obtain⟨b',cap',hv,_,hbl,_,_,hcs,_⟩:=h.form;injection hv with e1 _ _;injection e1 with e1;injection e1 with e1 _ _;subst e1;obtain⟨hj,rfl⟩:=List.getElem?_eq_some_iff.1 hu
 have hj':j < s.length:=by simpa using hj
 rw[cP,Nat.zero_add];refine(((Kept.refl [] w).alloc o).cell (p:=⟨b,j,none⟩) hbl (by simp)).trans ?_;rw[hcs j hj']
 simp[bval]
theorem pE(v:Value)(s:List UInt8)(w:World)(base0:Nat)(hv:Ap w base0 v s)(hl:s.length<=100000000) :
  Calls prog 240 #[v] w fun e w'=>(∃v',e=.returned v'/\Ap w' w.heap.size v' (aK s))/\Kept [] w w':=by
 obtain⟨b0,c0,rfl,_,a6,a5,_,_,_⟩:=hv.form;have A0:=hid hv;obtain⟨iw,hi,E,D,C⟩:=info_parts fW;have OE:=hid (mZ w 5);have NS:=hid (A0.out.news (.cells #[] 5));have OS:=hid (xy s);clear hv
 go_enter func240,ntmps240
 go_upto_region 2 with(at_builtin;refine wpList_append_own _ rfl _ _ 144 rfl w.heap.size 5 iw (.int .u8 0) 1 1 underlying144 hi E D C rfl (by decide) _ _ _ rfl OE.out ⟨b0,0,none⟩ s.length c0 (s.map bval) rfl (by simp) NS.out OS.out (by unfold maxLen;omega) (by omega) (by simp) ?_;intro v0 B a J _);rw[List.nil_append,Nat.zero_add]at a;have G:Kept [] w B:=(kr.alloc _).grown J (fun k hk=>Or.inr (by cases hk;exact Nat.le_refl _));obtain⟨a0,al,rfl⟩:=aG a;have M:=hid a;have a4:=G.size;have N1:Hid (∀j u,[bval 128][j]?=some u->(B.alloc (.cells #[.int .u8 128] 5)).cell? ((⟨B.heap.size,0,none⟩:Addr).add j)=some u):=oY B (bval 128) _;clear a J;go_upto_region 3 with(at_builtin;refine wpList_append_own _ rfl _ _ 144 rfl w.heap.size 5 iw (.int .u8 0) 1 1 underlying144 hi E D C rfl (by decide) _ _ _ rfl (M.out.alloc _) ⟨B.heap.size,0,none⟩ 1 1 [bval 128] rfl rfl N1.out (by intro u hu;obtain rfl:=ms hu;rfl) (by unfold maxLen;omega) (by omega) (by simp;omega) ?_;intro v1 w1 m I _)
 have hown1':w1.ownsRow w.heap.size 5 1 v1 (s++[128]).length ((s++[128]).map bval):=by
  rw[List.map_append,List.length_append];exact m
 have Z:=Ap.of_own hown1' (by simp);have Q:Kept [] w w1:=(G.alloc _).grown I (fun x hx=>Or.inr (M.lt x hx).1);clear m hown1' I
 go_loopw [3] (fun v wr=>∃j:Nat,j<=gap (s.length+1)/\Ap wr w.heap.size v (s++[128]++List.replicate j 0)/\Kept [] w wr) (fun v _=>s.length+200 - lenOf v)
 case atStart=>exact⟨0,by omega,by simpa using Z,Q⟩
 case round =>
  obtain⟨j,hj,z,g⟩:=hrel;have T:=rI (s.length+1)
  have o:(s++[128]++List.replicate j (0:UInt8)).length=s.length+1+j:=by simp;omega
  obtain⟨b,a1,hv,Y,V,P,U,d,f⟩:=z.form;rw[o]at hv;subst hv;have N:=hid z;have aa:=g.size;clear d f z
  by_cases hlt:j < gap (s.length+1)
  ·have ab:=nA (s.length+1) j hlt
   have hd:(((s.length+1+j:Nat):Int) % 64 != 56)=true:=by simp;omega
   have N2:Hid ((wr.alloc (.cells #[.int .u8 0] 5)).cell? ⟨wr.heap.size,0,none⟩=some (bval 0)):=fF wr 0 _
   generalize hn:s.length+1+j=n at hd N ⊢
   go_wp2_with (at_builtin;refine ez rfl _ _ rfl w.heap.size _ (s++[128]++List.replicate j 0) rfl (N.out.alloc _) ⟨wr.heap.size,0,none⟩ 0 rfl N2.out (by omega) (by simp;omega) ?_;intro v2 w2 p y)
   go_roundw
   case rel=>exact⟨j+1,by omega,by rw[List.replicate_succ',<-List.append_assoc];exact p,(g.alloc _).then_below y⟩
   case measure =>
    obtain⟨b2,a9,O,_⟩:=p.form;rw[O]
    simp[lenOf]
    omega
  ·as_aux_lemma =>
   obtain rfl:j=gap (s.length+1):=by omega
   have R:=oG (s.length+1)
   have hd:(((s.length+1+gap (s.length+1):Nat):Int) % 64 != 56)=false:=by simp;omega
   obtain⟨i,h⟩:=nm (s++[128]++List.replicate (gap (s.length+1)) (0:UInt8))
   have q:aK s=i++aT s.length:=by rw[<-h];rfl
   rw[h]at N;rw[h]at o
   generalize hn:s.length+1+gap (s.length+1)=n at hd N o ⊢
   have ac:n<=s.length+64:=by omega
   have HP:=hid q
   have ad:(n+8) % 64=0:=by omega
   obtain⟨L,hL⟩:=nm (aT s.length);clear h q R T hlt hn;go_wp2_with fail
   go_loopw [3,5] (fun v vk wq=>∃(j:Nat) (k:Int),j<=8/\vk=k/\k=56 - 8*(j:Int)/\Ap wq w.heap.size v (i++(aT s.length).take j)/\Kept [] w wq) (fun _ vk _=>(intOf vk+8).toNat)
   case atStart=>exact⟨0,56,by omega,rfl,by omega,by simpa using N.out,g⟩
   case round =>
    obtain⟨j,k,hj,rfl,F,z,g⟩:=hrel;have ah:=dv s.length
    have r:(i++(aT s.length).take j).length=n+j:=by simp;omega
    obtain⟨b,a1,hv,Y,V,P,U,d,f⟩:=z.form;rw[r]at hv;subst hv;have A:=hid z;have a3:=g.size;clear d f z
    by_cases hlt:j < 8
    ·obtain⟨K,rfl⟩:∃K:Nat,k=K:=⟨56 - 8*j,by omega⟩
     have hK:56 - 8*j=K:=by omega
     have a7:K<=56:=by omega
     have l:=gw s.length j hlt;rw[hK,Nat.mod_eq_of_lt (by omega)]at l
     have iX:(8*(s.length:Int)) / 2 ^ K=((8*s.length / 2 ^ K:Nat):Int):=by simp
     generalize hX:8*s.length / 2 ^ K=X at iX l
     have iC:=jC X
     have iD:(X:Int) % 256=((UInt8.ofNat X).toNat:Int):=by rw[<-iC];simp[IntKind.wrap,IntKind.bits,IntKind.signed]
     generalize hc:UInt8.ofNat X=c at iC iD l
     have a2:=hid F;have HT:=hid l
     have hd:decide ((0:Int)<=(K:Int))=true:=by simp
     have N2:Hid ((wr.alloc (.cells #[.int .u8 (c.toNat:Int)] 5)).cell? ⟨wr.heap.size,0,none⟩=some (bval c)):=fF wr c _;clear hX hc l hK F;go_wp2_with (at_builtin;refine ez rfl _ _ rfl w.heap.size _ (i++(aT s.length).take j) rfl (A.out.alloc _) ⟨wr.heap.size,0,none⟩ c rfl N2.out (by omega) (by simp;omega) ?_;intro v2 w2 p y)
     go_roundw
     case rel=>exact⟨j+1,(K:Int) - 8,by omega,by go_num,by have:=a2.out;omega,by rw[HT.out,<-List.append_assoc];exact p,(g.alloc _).then_below y⟩
     case measure=>simp[intOf];omega
    ·obtain rfl:j=8:=by omega
     have t:i++(aT s.length).take 8=aK s:=by rw[List.take_of_length_le (by omega),HP.out]
     rw[t]at A;go_wp2_with fail;go_ret;exact⟨⟨_,rfl,A⟩,g⟩
theorem oz(s:List UInt8):∃M,(aK s).length=64*M/\1<=M/\64*M<=s.length+72:=by
 have h1:=oG (s.length+1);have h2:=rI (s.length+1);have h3:=dv s.length
 have h4:(aK s).length=s.length+1+gap (s.length+1)+8:=by
  unfold aK
  simp only[List.length_append,List.length_replicate,List.length_cons,List.length_nil,h3]
 exact⟨(s.length+1+gap (s.length+1)+8) / 64,by omega,by omega,by omega⟩
theorem yE(g:S8)(i:Nat)(hi:i < 32):(g.list.flatMap bu).take (i+1)=(g.list.flatMap bu).take i++[UInt8.ofNat ((g.list.getD (i / 4) 0).toNat / 2 ^ (24 - 8*(i % 4)))]:=by
 obtain⟨q,r,hq,hr,rfl⟩:∃q r,q < 8/\r < 4/\i=4*q+r:=⟨i / 4,i % 4,by omega,by omega,by omega⟩;rw[show(4*q+r) / 4=q by omega,show(4*q+r) % 4=r by omega]
 rcases(by omega:q=0\/q=1\/q=2\/q=3\/q=4\/q=5\/q=6\/q=7)with rfl|rfl|rfl|rfl|rfl|rfl|rfl|rfl <;>
  rcases(by omega:r=0\/r=1\/r=2\/r=3)with rfl|rfl|rfl|rfl <;> simp[S8.list,bu,List.getD]
theorem vC(s:List UInt8)(w:World)(hl:s.length<=100000000) :
  Calls prog 226 #[s] w fun e w'=>e=.returned (.string ⟨(sha s).toArray⟩)/\Kept [] w w':=by
 have an:=Lib.run_convert_string_bytes (P:=prog) w 9 144 5 ⟨s.toArray⟩ underlying9 underlying144 underlying5;have A0:=hid (Ap.conv w s hl);have K0:Hid (Kept [] w (Lib.bytesWorld w 5 ⟨s.toArray⟩)):=Kept.of_below (Lib.bytesWorld_below _ _ _)
 go_enter func226,ntmps226
 go_upto_region 1 with(fail)
 generalize b3:Lib.bytesWorld w 5 ⟨s.toArray⟩=W1 at an A0 K0
 clear b3;go_wp2_with (go_at_call 240;refine(pE _ s _ _ A0.out hl).mono ?_);rintro e w1 ⟨⟨v3,rfl,a3⟩,k1⟩;obtain⟨b,c3,rfl,c5,I,F,av,Z,_⟩:=a3.form;obtain⟨M,hM,c7,c6⟩:=oz s;rw[hM]at F ⊢;have Q:=K0.trans k1;have a6:=hid Z;clear Z a3 k1;go_wp2_with (go_at_call 241;refine(rN _).mono ?_);rintro e O ⟨rfl,D⟩;have k2:Kept [] w1 O:=D▸kr.alloc _;have C:St8 O w1.heap.size (mixed (aK s) 0).list:=St8.of_blk (T:=145) (D▸Blk.new _ _ _) (S8.len _);have y:=fun j (h:j < (aK s).length)=>(k2.cell (p:=⟨b,j,none⟩) I (by simp)).trans (a6.out j h);have a4:b < O.heap.size:=Nat.lt_of_lt_of_le I k2.size
 generalize b1:w1.heap.size=b2 at C ⊢
 have bc:=hid y;have b6:=hid C;have K2:=hid (Q.trans k2);have HM:=hid hM;clear y C k2 D b1 Q I a6 hM
 unfold maxLen at av
 go_upto_region 4 with(fail)
 go_loopw [4,5] (fun v4 v5 wr=>∃(k B cp:Nat),k<=M/\v5=.int .i64 ((64*k:Nat):Int)/\v4=.slice (some ⟨B,0,none⟩) 8 cp/\8<=cp/\St8 wr B (mixed (aK s) k).list/\Kept [] O wr) (fun _ v5 _=>64*M - (intOf v5).toNat)
 case atStart=>exact⟨0,b2,8,by omega,rfl,rfl,by omega,b6.out,kr⟩
 case round =>
  obtain⟨k,B,cp,hk,rfl,rfl,ap,d,G⟩:=hrel
  by_cases hlt:k < M
  ·have o:mixed (aK s) (k+1)=ShaP.mix (mixed (aK s) k) (((aK s).drop (64*k)).take 64):=rfl;have l:=nM (c:=c3 - 64*k) HM.out hlt (by omega) (fun j h=>(G.cell (p:=⟨b,j,none⟩) a4 (by simp)).trans (bc.out j h));obtain⟨g,hg⟩:=nm (mixed (aK s) k);obtain⟨ch,a2⟩:=nm (((aK s).drop (64*k)).take 64);rw[hg]at d o;rw[a2]at l o;have ML:=rj (.slice (some ⟨B,0,none⟩) 8 cp) (.slice (some ⟨b,64*k,none⟩) 64 (c3 - 64*k)) g ch wr (d.row (S8.len _) ap) l
   generalize al:ShaP.mix g ch=gn at ML o
   have a5:=hid ML;clear hg a2 al d;obtain⟨n,hn⟩:=nm (64*k)
   have U:n+64<=64*M:=by omega
   have i1:IntKind.i64.wrap ((n:Int)+64)=((n+64:Nat):Int):=by rw[IntKind.wrap_i64];omega
   obtain⟨N,hN⟩:=nm (64*M)
   have i2:((n:Int)+64)=((n+64:Nat):Int):=by omega
   generalize ad:n+64=n2 at i1 i2 U
   rw[hn]at a5 ⊢;rw[hN]at F U ⊢
   have hd:decide ((n:Int) < (N:Int))=true:=by simp;omega
   have c4:n2<=c3:=by omega
   have bv:n<=n2:=by omega
   have bx:n < c3:=by omega
   have c0:(0:Int)<=(n:Int):=Int.natCast_nonneg _
   have bm:(n2:Int)<=(c3:Int):=by omega
   have bl:(n:Int)<=(n2:Int):=by omega
   have ca:n2 - n=64:=by omega
   have b9:=hid o;have ba:=hid hn;clear ML l o hn ad;go_upto_region 6 with(fail);go_wp2_with (go_at_call 242;with_reducible refine a5.out.mono ?_);rintro e w9 ⟨B9,b5,rfl,a0,c9,R,ah⟩;go_wp2_with fail
   go_roundw
   case rel =>
    have c1:=ba.out
    have e1:64*(k+1)=n2:=by omega
    exact⟨k+1,B9,b5,by omega,by rw[e1],rfl,a0,by rw[b9.out];exact R,G.trans ah⟩
   case measure =>
    simp only[intOf,Int.toNat_natCast];omega
  ·obtain rfl:k=M:=by omega
   obtain⟨N,hN⟩:=nm (64*k)
   have hd:decide ((N:Int) < (N:Int))=false:=by simp
   have v:sha s=(mixed (aK s) k).list.flatMap bu:=by
    unfold sha
    rw[HM.out,Nat.mul_div_cancel_left _ (by omega)]
   have z:=hid v
   generalize hg:mixed (aK s) k=g at d z
   rw[hN]at F ⊢;have b7:=hid d;have k0:Kept [] w wr:=K2.trans G;have K0':=hid k0;have b4:=d.lt;clear v hg hN d k0;obtain⟨iw,hi,aa,a9,a7⟩:=info_parts fW;go_upto_region 9 with(fail);obtain⟨L,ab⟩:∃L:World,L=wr:=⟨_,rfl⟩;subst ab
   have J:(g.list.flatMap bu).length=32:=by rw[jv];rfl
   go_loopw [6,7] (fun v6 v7 wq=>∃i:Nat,i<=32/\v7=i/\wq.ownsRow L.heap.size 5 1 v6 i (((g.list.flatMap bu).take i).map bval)/\Kept [] L wq) (fun _ v7 _=>32 - (intOf v7).toNat)
   case atStart=>exact⟨0,by omega,rfl,mZ _ _,kr.alloc _⟩
   case round =>
    obtain⟨i,bd,rfl,a,t⟩:=hrel;obtain⟨ao,co,rfl⟩:=aG a;have bq:=t.size
    by_cases hlt:i < 32
    ·have f:=yE g i hlt;have xq:wr.cell? ⟨B,i / 4,none⟩=some (wv (g.list.getD (i / 4) 0)):=(t.cell (p:=⟨B,i / 4,none⟩) b4 (by simp)).trans (b7.out.cell _ (by omega))
     generalize hx:g.list.getD (i / 4) 0=x at xq f
     unfold wv at xq
     obtain⟨K,hK⟩:=nm (24 - 8*(i % 4))
     have bh:K<=24:=by omega
     rw[hK]at f
     have iX:(x.toNat:Int) / 2 ^ K=((x.toNat / 2 ^ K:Nat):Int):=by simp
     generalize hY:x.toNat / 2 ^ K=Y at iX f
     have e1:=jC Y;have e2:=kL Y
     generalize b0:UInt8.ofNat Y=cb at e1 e2 f
     generalize hX:x.toNat=X at xq iX
     have iQ:(i:Int) / 4=((i / 4:Nat):Int):=by omega
     have iR:(i:Int) % 4=((i % 4:Nat):Int):=by omega
     have iS:(24:Int) - 8*((i % 4:Nat):Int)=(K:Int):=by omega
     obtain⟨q,hq⟩:=nm (i / 4);obtain⟨r,hr⟩:=nm (i % 4)
     have bt:q < 8:=by omega
     have bs:r < 4:=by omega
     rw[hq]at xq iQ;rw[hr]at iR iS
     have bk:(q:Int) < 8:=by omega
     have c2:decide ((0:Int)<=(K:Int))=true:=by simp
     have bb:=hid f;have A:=hid a;have NW:Hid (∀j u,[bval cb][j]?=some u->(wr.alloc (.cells #[.int .u8 cb.toNat] 5)).cell? ((⟨wr.heap.size,0,none⟩:Addr).add j)=some u):=oY wr (bval cb) _;clear hx hK hY b0 hX hq hr f a;go_wp2_with (at_builtin;refine wpList_append_own _ rfl _ _ 144 rfl L.heap.size 5 iw (.int .u8 0) 1 1 underlying144 hi aa a9 a7 rfl (by decide) _ _ _ rfl (A.out.alloc _) ⟨wr.heap.size,0,none⟩ 1 1 [bval cb] rfl rfl NW.out (by intro u hu;obtain rfl:=ms hu;rfl) (by unfold maxLen;omega) (by omega) (by simp;omega) ?_;intro v2 O E am _)
     go_roundw
     case rel=>exact⟨i+1,by omega,by go_num,by rw[bb.out,List.map_append];exact E,(t.alloc _).grown am (fun x hx=>Or.inr (A.out.lt x hx).1)⟩
     case measure=>simp[intOf];omega
    ·obtain rfl:i=32:=by omega
     rw[List.take_of_length_le (by omega)]at a
     have m:wr.ownsRow L.heap.size 5 1 (.slice ao 32 co) (g.list.flatMap bu).length ((g.list.flatMap bu).map bval):=by
      rw[J];exact a
     obtain⟨bo,cc,ac,_,_,_,_,a1,_⟩:=(Ap.of_own m (by omega)).form;injection ac with e1 e2 e3;subst e1 e3;have V:=jy wr bo co (g.list.flatMap bu) a1;rw[J,<-z.out]at V;clear a m a1 J e2;go_wp2_with fail;go_ret;exact⟨rfl,K0'.out.trans t⟩
theorem kY(s:List UInt8):(sha s).length=32:=by unfold sha;rw[jv];rfl
def numK(N:Nat)(bs:List UInt8):Nat->Nat
 |0=>0
 |k+1=>addN N ((mulN N (numK N bs k:Nat) 256:Nat):Int) ((bs.getD k 0).toNat:Int)
theorem eZ(N:Nat)(bs:List UInt8)(k:Nat)(h:1<=N):numK N bs k < N:=by
 cases k with
 |zero=>exact h
 |succ k=>exact Nat.mod_lt _ (by omega)
theorem jq(N:Nat)(a b:Int)(h:1<=N):mulN N a b < N:=Nat.mod_lt _ (by omega)
def numN(N:Nat)(s:List UInt8):Nat:=numK N (sha s) 32
theorem lL(N:Nat)(s:List UInt8)(w:World)(h1:1<=N)(h2:N < 2305843009213693952)(hl:s.length<=100000000) :
  Calls prog 56 #[s,N] w fun e w'=>e=.returned (.int .i64 (numN N s:Nat))/\Kept [] w w':=by
 have V:=hid (bI N w h1 h2);have HS:=hid (xZ s w hl)
 go_enter func56,ntmps56
 go_upto_region 4 with(go_at_call 91;refine V.out.mono ?_;rintro e w0 ⟨rfl,rfl⟩);go_wp2_with (go_at_call 92;refine HS.mono ?_);rintro e a ⟨rfl,T⟩;have u:=kY s
 generalize l:sha s=bs at u ⊢
 have m:=Lib.run_convert_string_bytes (P:=prog) a 9 144 5 ⟨bs.toArray⟩ underlying9 underlying144 underlying5;have B:=hid (Ap.conv a bs (by omega));have v:Hid (Kept [] a (Lib.bytesWorld a 5 ⟨bs.toArray⟩)):=Kept.of_below (Lib.bytesWorld_below _ _ _);have HB:=hid l;have y:=hid u;clear l u;go_upto_region 5 with(fail)
 generalize t:Lib.bytesWorld a 5 ⟨bs.toArray⟩=W1 at B v ⊢
 clear t m;have KW:=hid (T.trans v);obtain⟨b,c,U,_,r,d,i,h,_⟩:=B.out.form;injection U with e1 e2 e3;injection e1 with e1;injection e1 with e1 _ _;rw[<-e3]at d i
 have J:Hid (∀wr,Kept [] W1 wr->∀j,j < bs.length->wr.cell? ⟨a.heap.size,j,none⟩=some (.int .u8 ((bs.getD j 0).toNat:Int))):=fun wr E j hj=>by
  have:=h j hj;rw[<-e1]at this;refine(E.cell (p:=⟨a.heap.size,j,none⟩) (by rw[e1];exact r) (by simp)).trans (this.trans ?_)
  simp[List.getD,hj]
 clear e1 e2 e3 h B v;obtain⟨n,X⟩:=nm bs.length
 generalize o:grownCap a bs.length 0 5=cp at d i ⊢
 have D:n<=32:=by have:=y.out;omega
 rw[X]at J y d ⊢;clear o
 go_loopw [5,7,15] (fun v5 _ v15 wr=>∃k:Nat,k<=n/\v15=k/\v5=.int .i64 (numK N bs k:Nat)/\Kept [] W1 wr) (fun _ _ v15 _=>n - (intOf v15).toNat)
 case atStart=>exact⟨0,by omega,rfl,rfl,kr⟩
 case round =>
  obtain⟨k,E,rfl,rfl,f⟩:=hrel
  by_cases hlt:k < n
  ·have L:=J wr f k hlt;have g:numK N bs (k+1)=addN N ((mulN N (numK N bs k:Nat) 256:Nat):Int) ((bs.getD k 0).toNat:Int):=rfl;have O:=eZ N bs k h1;have C:=jq N (numK N bs k:Nat) 256 h1;have F:=(bs.getD k 0).toNat_lt
   generalize q:(bs.getD k 0).toNat=cb at L g F
   generalize Z:numK N bs k=A at O C g ⊢
   have I:=hid fun(w:World)=>iH N A 256 w h1 h2 (by constructor <;> omega) (by constructor <;> omega)
   generalize Y:mulN N A 256=M at C g I
   have z:=hid fun(w:World)=>qs N M cb w h1 h2 (by constructor <;> omega) (by constructor <;> omega);rw[<-g]at z
   have hd:decide ((k:Int) < (n:Int))=true:=by simp;omega
   have iw:IntKind.i64.wrap (cb:Int)=(cb:Int):=by rw[IntKind.wrap_i64];omega
   have a0:=hid hlt
   generalize G:numK N bs (k+1)=S at z
   have x:=hid G;clear q g Z Y G F
   go_wp2_with (first
    |(go_at_call 90;with_reducible refine(I.out _).mono ?_;rintro e w5 ⟨rfl,R⟩)
    |(go_at_call 89;with_reducible refine(z.out _).mono ?_;rintro e w6 ⟨rfl,Q⟩))
   go_roundw
   case rel=>exact⟨k+1,by omega,by go_num,by rw[x.out],f.trans (R.trans Q)⟩
   case measure=>simp[intOf];omega
  ·obtain rfl:k=n:=by omega
   have hd:decide ((k:Int) < (k:Int))=false:=by simp
   go_wp2_with fail;go_ret;refine⟨?_,KW.trans f⟩
   unfold numN
   rw[HB.out,y.out]
   rfl
theorem fX(bs:List UInt8)(k:Nat)(hk:k < bs.length)(w:World):(Instr.index 9 bs k).run prog w=.ok (.int .u8 ((bs.getD k 0).toNat:Int)) w:=by
 rw[run_index_string _ _ _ _ _ underlying9,dif_pos ⟨by omega,by show(k:Int) < (bs.length:Int);omega⟩]
 have:(⟨bs.toArray⟩:ByteArray)[(k:Int).toNat]'(by show _ < bs.length;omega)=bs.getD k 0:=by
  show bs.toArray[(k:Int).toNat]'_=_
  simp[List.getD,hk]
 rw[this]
theorem pI(N:Nat)(s:List UInt8)(w:World)(h1:1<=N)(h2:N < 2305843009213693952)(hl:s.length<=100000000) :
  Calls prog 205 #[s,N] w fun e w'=>e=.returned (.int .i64 (numN N s:Nat))/\Kept [] w w':=by
 have V:=hid (bP N w h1 h2);have G:=hid (vC s w hl)
 go_enter func205,ntmps205
 go_upto_region 3 with(go_at_call 188;refine V.out.mono ?_;rintro e P ⟨rfl,rfl⟩);go_wp2_with (go_at_call 226;refine G.mono ?_);rintro e y ⟨rfl,B⟩;have g:=kY s
 generalize c:sha s=bs at g ⊢
 have J:=hid c;have j:=hid g;have u:Hid (∀k,k < bs.length->∀w,(Instr.index 9 bs k).run prog w=.ok (.int .u8 ((bs.getD k 0).toNat:Int)) w):=fun k q w=>fX bs k q w;obtain⟨n,p⟩:=nm bs.length
 have o:n<=32:=by have:=j.out;omega
 have C:(⟨bs.toArray⟩:ByteArray).size=n:=p;rw[p]at j u;clear c g;go_upto_region 6 with(fail)
 go_loopw [6,7] (fun v5 v15 wr=>∃k:Nat,k<=n/\v15=k/\v5=.int .i64 (numK N bs k:Nat)/\Kept [] y wr) (fun _ v15 _=>n - (intOf v15).toNat)
 case atStart=>exact⟨0,by omega,rfl,rfl,kr⟩
 case round =>
  obtain⟨k,q,rfl,rfl,b⟩:=hrel
  by_cases hlt:k < n
  ·have x:=u k hlt;have a:numK N bs (k+1)=addN N ((mulN N (numK N bs k:Nat) 256:Nat):Int) ((bs.getD k 0).toNat:Int):=rfl;have z:=eZ N bs k h1;have m:=jq N (numK N bs k:Nat) 256 h1;have r:=(bs.getD k 0).toNat_lt
   generalize f:(bs.getD k 0).toNat=cb at x a r
   generalize F:numK N bs k=A at z m a ⊢
   have v:=hid fun(w:World)=>dL N A 256 w h1 h2 (by constructor <;> omega) (by constructor <;> omega)
   generalize E:mulN N A 256=M at m a v
   have l:=hid fun(w:World)=>vM N M cb w h1 h2 (by constructor <;> omega) (by constructor <;> omega);rw[<-a]at l
   have hd:decide ((k:Int) < (n:Int))=true:=by simp;omega
   have Q:IntKind.i64.wrap (cb:Int)=(cb:Int):=by rw[IntKind.wrap_i64];omega
   have I:=hid hlt
   generalize t:numK N bs (k+1)=S at l
   have i:=hid t;clear f a F E t r;go_upto_region 8 with(fail)
   go_region_held3 (fun w'=>Kept [] wr w') (first|assumption|exact kr.drew|exact Kept.alloc (by assumption) _)
    (first
     |(go_at_call 150;with_reducible refine(ai (W:=wr) (by assumption) ((v.out _).mono fun _ _ h=>⟨h.1,h.2▸kr⟩)).mono ?_;rintro e O ⟨rfl,D⟩)
     |(go_at_call 227;with_reducible refine(ai (W:=wr) (by assumption) ((l.out _).mono fun _ _ h=>⟨h.1,h.2▸kr⟩)).mono ?_;rintro e L ⟨rfl,d⟩))
   all_goals go_wp2_with fail
   all_goals (
    go_roundw
    case rel=>exact⟨k+1,by omega,by go_num,by rw[i.out],b.trans d⟩
    case measure=>simp[intOf];omega)
  ·obtain rfl:k=n:=by omega
   have hd:decide ((k:Int) < (k:Int))=false:=by simp
   go_wp2_with fail;go_ret;refine⟨?_,B.trans b⟩
   unfold numN
   rw[J.out,j.out]
   rfl
end Go.Proofs.YtcidfldeiklcjaaGreatDoor
namespace Go.Proofs.YtcidfldeiklcjaaGreatDoor
open Go.RowKit
theorem Row.of_blk{w:World}{b:Nat}{T:TypeId}{size n:Nat}{cs:List Value}(h:Blk w b T cs.toArray)(hl:cs.length=n*size)(hn:n<=9223372036854775807) :
  Row w size (.slice (some ⟨b,0,none⟩) n n) n cs:=by
 refine⟨hl,hn,_,_,rfl,Nat.le_refl _,fun _=>⟨_,_,rfl,fun k u hu=>?_⟩⟩;rw[Nat.zero_add,h.cell k]
 simpa using hu
theorem row2(w:World)(x y:Int)(T:TypeId):Row (w.alloc (.cells #[x,y] T)) 1 (.slice (some ⟨w.heap.size,0,none⟩) 2 2) [x,y].length (ints [x,y]):=Row.of_blk (Blk.new w T #[x,y]) rfl (by decide)
end Go.Proofs.YtcidfldeiklcjaaGreatDoor
