import Derived.Test.YtcidfldeiklcjaaGreatDoorDecT
import Derived.Test.YtcidfldeiklcjaaGreatDoorQfS
import Derived.Test.YtcidfldeiklcjaaGreatDoorRr6
set_option maxRecDepth 100000
set_option maxHeartbeats 32000000
namespace Go.Proofs.YtcidfldeiklcjaaGreatDoor
open Go.RowKit Tape
open Go.Proofs.Tryz
open Lib(hid)
def zV(b:Nat)(l:List Int)(rd:Wire.Rd)(w:World)(e:Ending)(w':World):Prop:=∃a c,e=.returned (.slice a l.length c)/\w'.ownsRow w.heap.size 3 1 (.slice a l.length c) l.length (ints l)/\RrAt w' b rd/\Kept [b] w w'
theorem pC{l:List Int}{r':Wire.Rd}(b:Nat)(r:Wire.Rd)(hq:Wire.nums r=(l,r'))(w:World)(h:RrAt w b r)(ho:Wire.Ok r)(hs:Fits r) :
  Calls prog 193 #[.pointer (some ⟨b,0,none⟩)] w (zV b l r' w):=by
 refine(sn b r w h ho hs).mono fun e w' ⟨v,h1,h2,h3,h4⟩=>?_;rw[hq]at h2 h3;obtain⟨a,c,rfl⟩:=eW h2 (by decide);exact⟨a,c,h1,h2,h3,h4⟩
def xI(wr:World)(b g:Nat)(X:List Nat)(fin:List (Int × List Int) × Tp)(N:Nat)(vd va vi:Value)(w2:World):Prop :=
 ∃(m:Nat) (r:Tp) (acc:List (Int × List Int)) (ad aa:Option Addr) (n cd n' ca:Nat),vd=.slice ad n cd/\va=.slice aa n' ca/\vi=acc.length/\acc.length+m=N/\TR spnd m r acc fin/\QfI wr w2 b g X ad n cd aa n' ca (acc.map Prod.fst) (acc.map Prod.snd) r
def xK(wr:World)(b g:Nat)(X:List Nat)(r0:Tp)(N:Nat)(vd va:Value)(w2:World):Prop :=
 ∃(r:Tp) (acc:List (Int × List Int)) (ad aa:Option Addr) (n cd n' ca:Nat),vd=.slice ad n cd/\va=.slice aa n' ca/\acc.length<=N/\Stg aX r0 acc r/\QfI wr w2 b g X ad n cd aa n' ca (acc.map Prod.fst) (acc.map Prod.snd) r
def kI(w:World)(b g po B:Nat)(fin:List (List (Int × List Int)) × Tp)(N:Nat)(vi:Value)(wr:World):Prop :=
 ∃(m:Nat) (r:Tp) (acc:List (List (Int × List Int))) (X:List Nat) (a1 a2:Option Addr) (n1 c1 n2 c2:Nat),vi=acc.length/\acc.length+m=N/\TR aX m r acc fin/\QfO w wr b g po B X a1 n1 c1 a2 n2 c2 (acc.map (List.map Prod.fst)) (acc.map (List.map Prod.snd)) r
def sU(w:World)(b g po B:Nat)(r0:Tp)(N:Nat)(wr:World):Prop :=
 ∃(r:Tp) (acc:List (List (Int × List Int))) (X:List Nat) (a1 a2:Option Addr) (n1 c1 n2 c2:Nat),acc.length<=N/\Stg (many aX) r0 acc r/\QfO w wr b g po B X a1 n1 c1 a2 n2 c2 (acc.map (List.map Prod.fst)) (acc.map (List.map Prod.snd)) r
theorem kI.next{w wf:World}{b g po B N m:Nat}{fin:List (List (Int × List Int)) × Tp}{acc:List (List (Int × List Int))}{x:List (Int × List Int)}{a1 a2:Option Addr}{n1 c1 n2 c2:Nat}{r:Tp}{X':List Nat}
  (O:QfO w wf b g po B X' a1 n1 c1 a2 n2 c2 (acc.map (List.map Prod.fst)++[x.map Prod.fst]) (acc.map (List.map Prod.snd)++[x.map Prod.snd]) r) (hN:acc.length+(m+1)=N) (hf:TR aX m r (acc++[x]) fin) :
  kI w b g po B fin N (.int .i64 ((acc.length:Int)+1)) wf := ⟨m,r,acc++[x],X',a1,a2,n1,c1,n2,c2,by simp,by simp;omega,hf,by rw[List.map_append,List.map_append];exact O⟩
theorem RwAt.cells{T:TypeId}{w:World}{b g:Nat}{r:Tp}(h:RwAt T w b g r):w.cell? ⟨b,2,none⟩=some (.bool r.bad):=by
 obtain⟨a,c,xs,p,h1,_⟩:=h.st;exact h1.cell 2
theorem qY(s:List UInt8)(w:World)(hE:Env w)(hs:s.length<=100000000) :
  Calls prog 199 #[s] w (PfDP (cG s) w):=by
 obtain⟨R,rd,al⟩:∃R rd,Wire.nums ⟨s,false⟩=(R,rd):=⟨_,_,rfl⟩
 have cm:R.length<=100000001:=by have:=dt ⟨s,false⟩ hs;rw[al]at this;exact this
 have b3:=hid (mQ al);obtain⟨W,hW⟩:=nm (w.alloc (.cells #[(),()] 133));have d6:=bn hW;have cu:=ka (S:=[]) hW
 have da:W.heap.size=w.heap.size+1:=by rw[<-hW];simp
 have f5:=hid da
 have g6:0 < w.heap.size:=by have:=hE.size;have:0 < NG:=(by decide);omega
 have g4:w.heap.size < W.heap.size:=by omega
 have e5:=hid (hE.kept0 cu);have HO:=hid (nZ s W e5);have HW:=hid hW;have e0:=hid al;clear al hW hE da
 go_enter func199,ntmps199
 go_upto_region 1 with(fail);rw[HW.out];go_wp2_with (go_at_call 192;refine HO.mono ?_)
 first|rintro e w1 rfl h1 k1|rintro e w1 ⟨rfl,h1,k1⟩
 have HN:=hid (pC W.heap.size ⟨s,false⟩ e0 w1 h1 (Wire.ok_fresh s) hs);have K1:=hid (cu.trans k1);have gb:=k1.size;have f1:=h1.2.lt;have B1:=hid (d6.kept k1 (by simp));clear h1 k1 HO d6 e5 e0;go_upto_region 2 with(fail);go_wp2_with (go_at_call 193;refine HN.mono ?_);rintro e w2 ⟨av,cv,rfl,c3,h2,k2⟩;have K2:=hid (K1.out.fresh k2 (fun z d=>by rw[List.mem_singleton]at d;omega));have B2:=hid (B1.out.kept k2 (by simp;omega));obtain⟨g,b7,hg⟩:=Src.of_own c3 (by omega);have em:=k2.size;have H2:=hid h2;have dm:=hid b7;have eu:g=0\/w1.heap.size<=g/\g < w2.heap.size:=hg;clear h2 b7 c3 k2 hg HN;go_upto_region 3 with(fail);obtain⟨w3,a5⟩:=nm (w2.alloc (.cells #[.slice av R.length cv,.int .i64 0,.bool false] 247));have a0:Kept [] w2 w3:=a5▸kr.alloc _
 have Z:Hid (w3.heap.size=w2.heap.size+1):=by show _=_;rw[<-a5];simp
 have T3:Hid (RwAt 247 w3 w2.heap.size g ⟨R,false⟩):=⟨⟨av,cv,R,0,a5▸Blk.new _ _ _,dm.out.keep a0 (by simp),Nat.zero_le _,cm,fun _=>rfl,(by intro h;cases h)⟩,by omega⟩;have K3:=hid (K2.trans a0);have B3:=hid (B2.out.kept a0 (by simp));have HD:=hid (oe W.heap.size rd w3 ⟨H2.out.1,H2.out.2.kept a0 (by simp)⟩);rw[a5]
 generalize E:w2.heap.size=b at Z T3 eu em ⊢
 clear a5 B1 B2 K2 a0 H2 dm E;obtain⟨dn,bs⟩:=nm ((!rd.bad&&rd.rest.isEmpty));have ao:Hid (done rd=dn):=bs;rw[bs]at HD;clear bs
 cases dn
 ·have HR:Hid (cG s=(⟨[],[]⟩,false)):=by show _=_;rw[b3.out,ao.out];rfl
  clear b3 ao;go_upto_region 4 with(go_at_call 198;refine HD.mono ?_;rintro e w4 ⟨rfl,k4⟩);have B4:=B3.out.kept k4 (by simp);obtain⟨z0,z1⟩:=bc2 B4 rfl;obtain⟨y0,y1⟩:=bf2 B4;clear B4;go_wp2_with fail;refine bodyPost_ret (v:=.tuple #[.agg #[(),()],.bool false]) (by simp[results,results199,go_sem,z0,z1]) rfl ?_;rw[HR.out];exact⟨none,0,none,0,rfl,fun _ _ _ _=>ag.nil_ _ _ _,fun _ _ _ _=>ag.nil_ _ _ _,((K3.trans k4).setCell (Or.inr (Nat.le_refl _)) _).setCell (Or.inr (Nat.le_refl _)) _⟩
 ·have HR:Hid (cG s=if ended (many aX ⟨R,false⟩).2 then(⟨(many aX ⟨R,false⟩).1.map (List.map Prod.fst),(many aX ⟨R,false⟩).1.map (List.map Prod.snd)⟩,true)else(⟨[],[]⟩,false)):=by show _=_;rw[b3.out,ao.out];simp
  clear b3 ao;go_upto_region 5 with(go_at_call 198;refine HD.mono ?_;rintro e w4 ⟨rfl,k4⟩);have B4:=hid (B3.out.kept k4 (by simp));have K4:=hid (K3.trans k4);have T4:=hid (T3.out.keep k4 (by simp) (by simp));have el:=k4.size
  have c7:b < w4.heap.size:=by have:=Z.out;omega
  clear B3 K3 T3 k4 HD Z HW f5 f1;go_upto_region 6 with(fail);obtain⟨V,a3⟩:=nm (w4.alloc (.cells #[(),()] 133));have ah:Kept [] w4 V:=a3▸kr.alloc _
  have bk:Hid (V.heap.size=w4.heap.size+1):=by show _=_;rw[<-a3];simp
  have P5:=hid (a3▸Blk.new _ _ _);have B5:=hid (B4.out.kept ah (by simp));have K5:=hid (K4.trans ah);have HC:=hid (lG b g ⟨R,false⟩ V (T4.out.keep ah (by simp) (by simp)));rw[a3]
  generalize en:w4.heap.size=po at bk P5 el c7 ⊢
  have gp:=T4.out.ne;clear a3 B4 K4 T4 ah en;go_wp2_with (go_at_call 222;refine HC.mono ?_);rintro e w6 ⟨N,r0,rfl,a6,d,ge,t6,k6⟩
  have g0:N<=100000001:=by have:=t6.len;omega
  have d4:b≠po:=by omega
  have cx:g≠po:=by omega
  have P6:=hid (P5.out.kept k6 (by simp;omega));have B6:=hid (B5.out.kept k6 (by simp;omega));have K6:=hid (K5.out.fresh k6 (by simp;omega));have g9:=k6.size;have T6:=hid t6;have di:=hid (TR.start iK a6)
  have fs:po < w6.heap.size:=by have:=bk.out;omega
  obtain⟨B,hB⟩:=nm w6.heap.size
  have O6:Hid (QfO w w6 b g po B (List.range w.heap.size++[b,po,w.heap.size]) none 0 0 none 0 0 [] [] r0) := ⟨T6.out,P6.out,rfl,rfl,Grow.nil_ _ _ _ _ _ _,Grow.nil_ _ _ _ _ _ _,by simp[obl,Value.ownBlock],by simp,by simp,fun z d=>by simp at d;omega,by simp[obl,Value.ownBlock],by simp[obl,Value.ownBlock],by omega,by omega,by omega,by omega,d4,cx,K6.out,by omega,by omega,by simp,B6.out,fun z d=>by simp;omega⟩
  have gg:w.heap.size < b:=by omega
  clear B6 t6 k6 HC P5 B5 K5 P6 K6 T6 bk hB a6 d
  go_upto_block 0 with(fail)
  go_cut [8,9,10,11,12,13,14,15] (fun _ _ _ _ _ _ _ _ wc=>sU w b g po B ⟨R,false⟩ N wc)
  case first =>
   go_wp2_with fail
   go_loopw [8] (fun vi wr=>kI w b g po B (many aX ⟨R,false⟩) N vi wr) (fun vi _=>N - (intOf vi).toNat)
   case atStart=>exact⟨N,r0,[],_,_,_,_,_,_,_,rfl,by simp,di.out,O6.out⟩
   case round =>
    obtain⟨m,r,i,X,a1,a2,n1,c1,n2,c2,rfl,hN,hf,hO⟩:=hrel;have O:=hid hO;have HF:=hid hf;have HN:=hid hN
    have d9:i.length<=N:=by omega
    have cb:=hO.tp.cells;clear hO hf O6 di
    by_cases hgo:0 < m/\r.bad=false
    rotate_left
    ·have hk:m=0\/r.bad=true:=by
      rcases Nat.eq_zero_or_pos m with h|h
      ·exact Or.inl h
      ·right
       cases E:r.bad
       ·exact absurd ⟨h,E⟩ hgo
       ·rfl
     have HE:Hid (sU w b g po B ⟨R,false⟩ N wr):=⟨r,i,X,a1,a2,n1,c1,n2,c2,d9,HF.done hk,O.out⟩;clear hgo
     by_cases bm:i.length < N
     ·have E:r.bad=true:=by
       rcases hk with h|h
       ·have:=HN.out;omega
       ·exact h
      rw[E]at cb;clear E hk hN;go_wp2_with fail
      go_meet
      case rel=>exact HE
     ·clear hk hN;go_wp2_with fail
      go_meet
      case rel=>exact HE
    ·obtain⟨j,o⟩:=hgo;obtain⟨m,rfl⟩:∃k,m=k+1:=⟨m - 1,by omega⟩
     have bm:i.length < N:=by omega
     rw[o]at cb;have fb:=hid o;have HC:=hid (lG b g r wr O.out.tp);clear o j hN;go_wp2_with (go_at_call 222;refine HC.mono ?_);rintro e w7 ⟨N2,r7,rfl,b6,_,fz,t7,k7⟩
     have g3:N2<=100000001:=by have:=t7.len;omega
     have O7:=hid (O.out.read k7 t7);have dg:=hid (TR.start bH b6)
     have I7:Hid (QfI w7 w7 b g X none 0 0 none 0 0 [] [] r7) := ⟨t7,kr,rfl,rfl,World.ownsRow_nil _ _ _ _,⟨X,fun _ h=>h,O7.out.hX,by simp[obl,Value.ownBlock],by simp[obl,Value.ownBlock],Grow.nil_ _ _ _ _ _ _⟩,by simp[obl,Value.ownBlock],O7.out.bX,by have:=O7.out.lb;have:=O7.out.le;omega,by have:=O7.out.lg;have:=O7.out.le;omega⟩
     clear t7 k7 HC O cb b6
     go_upto_block 2 with(fail)
     go_cut [10,11,12,13,14,15] (fun vd va _ _ _ _ w2=>xK w7 b g X r N2 vd va w2)
     case first =>
      go_wp2_with fail
      go_loopw [10,11,12] (fun vd va vi w2=>xI w7 b g X (many spnd r) N2 vd va vi w2) (fun _ _ vi _=>N2 - (intOf vi).toNat)
      case atStart=>exact⟨N2,r7,[],none,none,0,0,0,0,rfl,rfl,rfl,by simp,dg.out,I7.out⟩
      case round =>
       obtain⟨m2,r2,f,ad,aa,n,cd,n',ca,rfl,rfl,rfl,ab,cy,U⟩:=hrel;have I:=hid U;have bv:=hid cy;have e3:=hid ab
       have d8:f.length<=N2:=by omega
       have cb:=U.tp.cells;clear U cy I7 dg
       by_cases hgo:0 < m2/\r2.bad=false
       rotate_left
       ·have hk:m2=0\/r2.bad=true:=by
         rcases Nat.eq_zero_or_pos m2 with h|h
         ·exact Or.inl h
         ·right
          cases E:r2.bad
          ·exact absurd ⟨h,E⟩ hgo
          ·rfl
        have HE:Hid (xK w7 b g X r N2 (.slice ad n cd) (.slice aa n' ca) wr):=⟨r2,f,ad,aa,n,cd,n',ca,rfl,rfl,d8,bv.done hk,I.out⟩;clear hgo
        by_cases bm:f.length < N2
        ·have E:r2.bad=true:=by
          rcases hk with h|h
          ·have:=e3.out;omega
          ·exact h
         rw[E]at cb;clear E hk ab;go_wp2_with fail
         go_meet
         case rel=>exact HE
        ·clear hk ab;go_wp2_with fail
         go_meet
         case rel=>exact HE
       ·obtain⟨j,o⟩:=hgo;obtain⟨m2,rfl⟩:∃k,m2=k+1:=⟨m2 - 1,by omega⟩
        have bm:f.length < N2:=by omega
        rw[o]at cb;have ed:=hid o;obtain⟨ds,an⟩:=nm (f.map Prod.fst);obtain⟨ac,ap⟩:=nm (f.map Prod.snd);rw[an,ap]at I;have f8:=hid an;have fn:=hid ap
        have f0:ds.length=f.length:=by rw[<-an,List.length_map]
        have d7:ac.length=f.length:=by rw[<-ap,List.length_map]
        have cm:n<=100000001:=by have:=I.out.nd;omega
        have ft:ac.length<=100000001:=by omega
        have er:=hid I.out.na;have ea:=hid (rk b g r2 wr I.out.tp);clear an ap f0 d7 o j ab;go_wp2_with (go_at_call 223;refine ea.mono ?_);rintro e w3 ⟨x,r3,rfl,Z,_,t3,k3⟩;have I3:=hid (I.out.read k3 t3);have S3:=hid Z;clear t3 k3 ea I Z cb;go_wp2_with (at_builtin;refine aE rfl _ _ rfl w7.heap.size (.slice ad n cd) n ds rfl (I3.out.alloc _).od _ 1 [x] rfl (Row.one1 _ _) (by omega) (I3.out.alloc _).le ?_);intro a4 c4 w4 b5 k4 de;have I4:=hid ((I3.out.alloc _).pushd k4 rfl b5 (fun z d=>by rw[World.size_alloc];exact de z d));clear b5 k4 de I3;have e9:=hid (lG b g r3 w4 I4.out.tp);go_wp2_with (go_at_call 222;refine e9.mono ?_);rintro e V ⟨q,r5,rfl,a6,d,cc,t5,k5⟩;have I5:=hid (I4.out.read k5 t5);have T5:=hid t5;have cq:=t5.len;have f7:=hid a6;obtain⟨l,bd⟩:=r5;replace cc:q<=l.length:=cc;replace cq:l.length<=100000001:=cq;replace d:bd=true->q=0:=d
        have ej:Hid (0 < q->bd=false):=fun h=>by cases bd;rfl;have:=d rfl;omega
        have gc:g < V.heap.size:=Nat.lt_of_lt_of_le I5.out.gl I5.out.le;have d5:b < V.heap.size:=Nat.lt_of_lt_of_le I5.out.bl I5.out.le;have gn:=t5.ne;clear t5 k5 e9 a6 d I4;go_wp2_with fail
        go_loopw [14,15] (fun vo vi wr=>∃(k:Nat) (a:Option Addr) (c:Nat),k<=q/\vi=k/\vo=.slice a k c/\wr.ownsRow V.heap.size 3 1 (.slice a k c) k (ints (l.take k))/\RwAt 247 wr b g ⟨l.drop k,bd⟩/\Kept [b] V wr) (fun _ vi _=>q - (intOf vi).toNat)
        case atStart=>exact⟨0,none,0,Nat.zero_le _,rfl,rfl,by simpa [ints]using World.ownsRow_nil _ _ _ _,by simpa using T5.out,kr⟩
        case round =>
         obtain⟨k,a,c,hk,rfl,rfl,b9,hr,bo⟩:=hrel;have HO:=hid b9;have HR':=hid hr;have HK:=hid bo;have g7:=bo.size;clear b9 hr bo
         by_cases hkn:k < q
         ·have o:=ej.out (by omega);subst o
          have ct:k < l.length:=by omega
          have d3:l.drop k=l[k]::l.drop (k+1):=List.drop_eq_getElem_cons ct;have c6:l.take (k+1)=l.take k++[l[k]]:=List.take_succ_eq_append_getElem ct;have eb:=hid (rk b g _ wr HR'.out);have dj:=hid c6;have f9:=hid d3;clear d3 c6 HR';go_wp2_with (go_at_call 223;refine eb.mono ?_);rintro e w8 ⟨v,r8,rfl,bh,_,h8,k8⟩;have O3:=hid (af HO.out k8 (fun z d j=>by have:=ak HO.out z d;rw[List.mem_singleton]at j;omega));have fr:=k8.size;go_wp2_with (at_builtin;refine aE rfl _ _ rfl V.heap.size (.slice a k c) k (l.take k) rfl (af O3.out ((Kept.refl [] _).alloc _) (by simp)) _ 1 [v] rfl (Row.one1 _ _) (by omega) (by simp only[World.size_alloc];omega) ?_);intro a9 c9 w9 b4 k9 f3
          have hv:Hid (v=l[k]/\r8=⟨l.drop (k+1),false⟩):=by
           rw[f9.out]at bh
           rcases bh with⟨_,x2,x3⟩|⟨x1,_⟩
           ·exact⟨x2,x3⟩
           ·cases x1
          have am:=ak O3.out;have h9:=hid ((h8.keep ((Kept.refl [] w8).alloc _) (by simp) (by simp)).keep k9 (fun j=>by have:=am _ j;omega) (fun j=>by have:=am _ j;omega));have es:Kept [b] V w9:=((HK.trans k8).alloc _).fresh k9 (fun z d=>(am z d).1);rw[hv.out.2]at h9;rw[hv.out.1,<-dj.out]at b4;clear bh h8 k8 k9 f3 am O3 hv dj eb;go_wp2
          go_roundw
          case rel=>exact⟨k+1,a9,c9,by omega,by go_num,rfl,b4,h9.out,es⟩
          case measure=>simp[intOf];omega
         ·obtain rfl:k=q:=by omega
          have bc:(l.take k).length=k:=by rw[List.length_take];omega
          have dl:Hid (Stg list r3 (l.take k) ⟨l.drop k,bd⟩):=by
           rcases f7 with⟨x1,x2,x3⟩|⟨x1,x2⟩
           ·refine Or.inl ⟨x1,?_,?_⟩
            ·unfold list;rw[<-x2,<-x3]
            ·unfold list;rw[<-x2,<-x3]
           ·obtain⟨x3,x4⟩:=Tp.mk.inj x2;subst x3 x4;exact Or.inr ⟨x1,by simp[dT]⟩
          have dk:=hid (Stg.both az S3.out dl);have b2:=hid (bv.step bH ed dk);have I6:=hid (I5.out.read HK HR'.out)
          generalize hL:l.take k=L at b2 HO bc
          have f6:=hid bc;obtain⟨X2,x1,x2,x3,x4,G5⟩:=I6.out.ga
          have f4:∀z∈X2,z < V.heap.size\/V.heap.size<=z:=fun z _=>by omega
          clear dl dk bc hL bv;have c5:Kept [] wr (wr.alloc (.cells #[.slice a k c] 24)):=kr.alloc _;obtain⟨Y2,y1,y2,y3,y4,GY⟩:=I5.out.ga;have T:=hid I5.out.ged;have Q:=hid I5.out.gea
          have dr:ae Y2 (fun w=>aM w [.slice a k c] L) (wr.alloc (.cells #[.slice a k c] 24)) :=
           (ae.row (af HO.out c5 (by simp)) (fun z d j=>by have:=(ak HO.out z d).1;have:=y2 z j;omega) (by omega)).imp fun _ h=>⟨_,rfl,by rw[f6.out];exact h⟩
          have db:∀z∈[b],z < V.heap.size->z∈Y2:=fun z d _=>by obtain rfl:=ms d;exact y1 _ I5.out.bX
          have G6:Grow aM 1 24 w7.heap.size Y2 (wr.alloc (.cells #[.slice a k c] 24)) (.slice aa n' ca) ac:=GY.step (HK.out.alloc _) (fun z d j=>by have:=I5.out.bl;have:=Q.out z d;rw[List.mem_singleton]at j;omega) db (fun z d=>Or.inl d);have eg:=hid dr;have e4:=hid G6;have X1:=hid y1;have XL:=hid y2;have X3:=hid y3;have X4:=hid y4;have cs:=hid (I6.out.alloc (.cells #[.slice a k c] 24)).le;clear c5 GY db dr G6 y1 y2 y3 y4 G5 x1 x2 x3 x4 f4;obtain⟨i0,hi,P,M,J⟩:=info_parts nx;go_wp2_with (at_builtin;refine aq rfl _ _ 55 rfl i0 () 24 underlying55 hi P M J rfl (by decide) (by decide) rfl e4.out _ [.slice a k c] L rfl (rowS rfl _ _ _ rfl) eg.out (by simp[Value.oneCell']) (by omega) cs.out X4.out ?_);intro a8 c8 w8 G8 k8 dd;have I8:=hid ((I6.out.alloc _).pusha X1.out (fun z d=>Nat.lt_of_lt_of_le (XL.out z d) (by simp only[World.size_alloc];omega)) X3.out k8 (by rw[er.out]) G8 (fun z d=>by rw[World.size_alloc];exact dd z d))
          have b1:Hid (xI w7 b g X (many spnd r) N2 (.slice a4 (n+1) c4) (.slice a8 (ac.length+1) c8) (.int .i64 ((f.length:Int)+1)) w8) := ⟨m2,_,f++[(x,L)],a4,a8,n+1,c4,ac.length+1,c8,rfl,rfl,by simp,by have:=e3.out;simp;omega,b2.out,by rw[List.map_append,List.map_append,f8.out,fn.out];exact I8.out⟩
          clear G8 k8 dd eg e4 X1 XL X3 X4 hi P M J I6 I5 I8;go_wp2_with fail
          go_roundw
          case rel=>exact b1
          case measure=>simp[intOf];omega
     case rest =>
      obtain⟨r2,f,ad,aa,n,cd,n',ca,rfl,rfl,ab,dc,U⟩:=hcut;have I:=hid U;have F:=hid (O7.out.read U.kb U.tp);have bt:=O7.out.hX;have T:=U.ged;have Q:=U.gea
      have e6:ae X (fun w=>aM w [.slice ad n cd] (f.map Prod.fst)) wc:=by
       have h1:=U.nd;have h2:=U.od;rw[h1]at h2 T ⊢
       exact(ae.row h2 (fun z d j=>by have:=T z d;have:=bt z j;omega) (by rw[List.length_map];omega)).imp fun _ h=>⟨_,rfl,h⟩
      have ec:ae X (fun w=>bJ w [.slice aa n' ca] (f.map Prod.snd)) wc:=by
       obtain⟨X2,x1,x2,x3,x4,G⟩:=U.ga;have h1:=U.na;rw[h1]at G Q ⊢
       exact(G.done (X':=X) (fun z d=>Or.inl (x1 z d)) (fun z d j=>by have:=Q z d;have:=bt z j;omega) (by rw[List.length_map];omega)).imp fun _ h=>⟨_,rfl,h⟩
      have b2:=hid (HF.step iK fb dc);have GA:Hid (Grow aM 1 24 B X (wc.alloc (.cells #[.slice ad n cd] 24)) (.slice a1 n1 c1) (i.map (List.map Prod.fst))):=F.out.g1.step ((Kept.refl [] _).alloc _) (by simp) (by simp) (fun z d=>Or.inl d);have EA:Hid (ae X (fun w=>aM w [.slice ad n cd] (f.map Prod.fst)) (wc.alloc (.cells #[.slice ad n cd] 24))):=e6.step ((Kept.refl [] _).alloc _) (by simp) (fun z d=>Or.inl d);have e8:=hid ec;have a7:=hid (show B<=(wc.alloc (.cells #[.slice ad n cd] 24)).heap.size by have:=F.out.le;simp only[World.size_alloc];omega);have p0:wc.cell? ⟨po,0,none⟩=some (.slice a1 n1 c1):=F.out.bp.cell 0
      have b0:(i.map (List.map Prod.fst)).length<=1000000000:=by rw[List.length_map];omega
      have ba:(i.map (List.map Prod.snd)).length<=1000000000:=by rw[List.length_map];omega
      obtain⟨A,hA⟩:=nm (i.map (List.map Prod.fst));obtain⟨C,hC⟩:=nm (i.map (List.map Prod.snd));rw[hA]at F GA b0;rw[hC]at F ba;have fg:=hid hA;have e7:=hid hC;clear hA hC e6 ec bt T Q U dc O7 I;obtain⟨i0,hi,P,M,J⟩:=info_parts nx;go_wp2_with (at_builtin;refine aq rfl _ _ 55 rfl i0 () 24 underlying55 hi P M J rfl (by decide) (by decide) rfl GA.out _ [.slice ad n cd] (f.map Prod.fst) rfl (rowS rfl _ _ _ rfl) EA.out (by simp[Value.oneCell']) b0 a7.out F.out.x1 ?_);intro p9 q9 y9 G9 k9 t9;obtain⟨X9,O9,S9⟩:=F.out.push1 ((Kept.refl [] wc).alloc (.cells #[.slice ad n cd] 24)) k9 G9 rfl (fun z d=>by first|exact t9 z d|(rw[World.size_alloc];exact t9 z d));have bb:=((F.out.bp.alloc (.cells #[.slice ad n cd] 24)).kept k9 (fun j=>by have:=F.out.ge1 _ j;have:=F.out.lp;omega)).cell 0;have f2:=((F.out.bp.alloc (.cells #[.slice ad n cd] 24)).kept k9 (fun j=>by have:=F.out.ge1 _ j;have:=F.out.lp;omega)).frozen 0;have bx:=hid (S9 _ e8);have u:=hid O9;clear hi P M J G9 k9 t9 GA EA p0 F S9 O9 a7 e8;go_upto_region 25 with(fail)
      generalize ek:y9.setCell ⟨po,0,none⟩ (.slice p9 (A.length+1) q9)=u9 at bx u ⊢
      clear ek bb f2;have GA:Hid (Grow bJ 1 55 B X9 (u9.alloc (.cells #[.slice aa n' ca] 55)) (.slice a2 n2 c2) C):=u.out.g2.step ((Kept.refl [] _).alloc _) (by simp) (by simp) (fun z d=>Or.inl d);have EA:Hid (ae X9 (fun w=>bJ w [.slice aa n' ca] (f.map Prod.snd)) (u9.alloc (.cells #[.slice aa n' ca] 55))):=bx.out.step ((Kept.refl [] _).alloc _) (by simp) (fun z d=>Or.inl d);have a7:=hid (show B<=(u9.alloc (.cells #[.slice aa n' ca] 55)).heap.size by have:=u.out.le;simp only[World.size_alloc];omega);have p1:u9.cell? ⟨po,1,none⟩=some (.slice a2 n2 c2):=u.bp.cell 1;obtain⟨i0,hi,P,M,J⟩:=info_parts wM;go_wp2_with (at_builtin;refine aq rfl _ _ 131 rfl i0 () 24 underlying131 hi P M J rfl (by decide) (by decide) rfl GA.out _ [.slice aa n' ca] (f.map Prod.snd) rfl (rowS rfl _ _ _ rfl) EA.out (by simp[Value.oneCell']) ba a7.out u.out.x2 ?_);intro p8 q8 y8 G8 k8 t8;obtain⟨X8,F,_⟩:=u.out.push2 ((Kept.refl [] u9).alloc (.cells #[.slice aa n' ca] 55)) k8 G8 rfl (fun z d=>by first|exact t8 z d|(rw[World.size_alloc];exact t8 z d));have c0:=((u.out.bp.alloc (.cells #[.slice aa n' ca] 55)).kept k8 (fun j=>by have:=u.out.ge2 _ j;have:=u.out.lp;omega)).cell 1;have go:=((u.out.bp.alloc (.cells #[.slice aa n' ca] 55)).kept k8 (fun j=>by have:=u.out.ge2 _ j;have:=u.out.lp;omega)).frozen 1;rw[<-fg.out,<-e7.out]at F;have b1:=hid (kI.next F HN b2);rw[e7.out]at b1;clear hi P M J G8 k8 t8 GA EA p1 F a7 bx u
      go_wp2_with fail
      go_roundw
      case rel=>exact b1
      case measure=>simp[intOf];omega
  case rest =>
   obtain⟨r,i,X,a1,a2,n1,c1,n2,c2,d9,hS,hO⟩:=hcut;have O:=hid hO;have HS:=hid hS;obtain⟨a,c,xs,p,E,hs',hp,hx,hg,hd⟩:=hO.tp.st;obtain⟨d0,d1,d2⟩:=bc3 E rfl;have BW:=hid (O.out.bq)
   have t:Hid (r.bad=true\/p≠xs.length->∀y,Kept [] wc y->PfDP (cG s) w (.returned (.tuple #[.agg #[(),()],.bool false])) ((y.setCell ⟨w.heap.size,0,none⟩ ()).setCell ⟨w.heap.size,1,none⟩ ())):=fun he y Y=>by
    have eq:ended (many aX ⟨R,false⟩).2=false:=by
     unfold ended
     rcases he with h|h
     ·rw[(HS.out.bad h).1];rfl
     ·cases E:r.bad
      ·rw[HS.out.good E];simp only[E,Bool.not_false,Bool.true_and];rw[hg E]
       cases hl:xs.drop p with
       |nil=>have:=congrArg List.length hl;rw[List.length_drop]at this;simp at this;omega
       |cons _ _=>rfl
      ·rw[(HS.out.bad E).1];rfl
    rw[HR.out,if_neg (by rw[eq];simp)];exact⟨none,0,none,0,rfl,fun _ _ _ _=>ag.nil_ _ _ _,fun _ _ _ _=>ag.nil_ _ _ _,((O.out.k0.trans Y).setCell (Or.inr (Nat.le_refl _)) _).setCell (Or.inr (Nat.le_refl _)) _⟩
   have D:Hid (r.bad=false->p=xs.length->cG s=(⟨i.map (List.map Prod.fst),i.map (List.map Prod.snd)⟩,true)):=fun h1 h2=>by
    rw[HR.out,HS.out.good h1,if_pos]
    unfold ended
    simp only[h1,Bool.not_false,Bool.true_and];rw[hg h1,h2];simp
   generalize hL:xs.length=L at d0 t D hp hx
   clear E hs' hg hd hS hO hL
   cases o:r.bad
   ·rw[o]at d2
    by_cases hpl:p=L
    ·have HG:=hid (D.out o hpl)
     have hq:((p:Int) != (L:Int))=false:=by simp[hpl]
     clear t D hpl;go_upto_region 26 with(fail)
     go_quiet (fail)
     obtain⟨y,hy⟩:=nm (wc.drewN nq);have Y:Kept [] wc y:=hy▸kr.drewN nq;rw[hy];have BY:=hid (BW.out.kept Y (by simp));have z0:=BY.cell 0;have z1:=BY.cell 1;obtain⟨y0,y1⟩:=bf2 BY;clear hy;have p0:=(O.out.bp.kept Y (by simp)).cell 0;have p1:=(O.out.bp.kept Y (by simp)).cell 1;go_wp2_with fail
     have BB:Blk ((y.setCell ⟨w.heap.size,0,none⟩ (.slice a1 n1 c1)).setCell ⟨w.heap.size,1,none⟩ (.slice a2 n2 c2)) w.heap.size 133 #[.slice a1 n1 c1,.slice a2 n2 c2]:=by simpa using(BY.set_ 0 (.slice a1 n1 c1)).set_ 1 (.slice a2 n2 c2)
     have bb:=BB.cell 0;have c0:=BB.cell 1;have kk:Kept [w.heap.size] wc ((y.setCell ⟨w.heap.size,0,none⟩ (.slice a1 n1 c1)).setCell ⟨w.heap.size,1,none⟩ (.slice a2 n2 c2)):=(((Y.mono (by simp)).setCell (by simp) _).setCell (by simp) _)
     have g5:w.heap.size < B:=by have:=O.out.wb;have:=O.out.lb;omega
     have cl:=O.out.ge1;have cg:=O.out.ge2;have G1:=O.out.g1.step (X':=X) kk (fun z d j=>by have:=cl z d;rw[List.mem_singleton]at j;omega) (fun z d _=>by obtain rfl:=ms d;exact O.out.qX) (fun z d=>Or.inl d);have G2:=O.out.g2.step (X':=X) kk (fun z d j=>by have:=cg z d;rw[List.mem_singleton]at j;omega) (fun z d _=>by obtain rfl:=ms d;exact O.out.qX) (fun z d=>Or.inl d);have cp:=O.out.e1;have co:=O.out.e2;have et:=((O.out.k0.trans Y).setCell (p:=⟨w.heap.size,0,none⟩) (Or.inr (Nat.le_refl _)) (.slice a1 n1 c1)).setCell (p:=⟨w.heap.size,1,none⟩) (Or.inr (Nat.le_refl _)) (.slice a2 n2 c2)
     have b0:(i.map (List.map Prod.fst)).length<=9223372036854775807:=by rw[List.length_map];omega
     have d5:(i.map (List.map Prod.snd)).length<=9223372036854775807:=by rw[List.length_map];omega
     refine bodyPost_ret (v:=.tuple #[.agg #[.slice a1 n1 c1,.slice a2 n2 c2],.bool true]) (by simp[results,results199,go_sem,bb,c0]) rfl ?_;rw[HG.out];refine⟨a1,c1,a2,c2,?_,?_,?_,et⟩
     ·show _=Ending.returned (.tuple #[.agg #[.slice a1 (i.map (List.map Prod.fst)).length c1,.slice a2 (i.map (List.map Prod.snd)).length c2],_])
      rw[<-cp,<-co]
     ·show ae _ (fun w=>ag aM 1 w (.slice a1 (i.map (List.map Prod.fst)).length c1) (i.map (List.map Prod.fst))) _
      rw[<-cp];exact G1.done (fun z d=>Or.inl (O.out.rX z (by simpa using d))) (fun z d j=>by have:=cl z d;simp at j;omega) b0
     ·show ae _ (fun w=>ag bJ 1 w (.slice a2 (i.map (List.map Prod.snd)).length c2) (i.map (List.map Prod.snd))) _
      rw[<-co];exact G2.done (fun z d=>Or.inl (O.out.rX z (by simpa using d))) (fun z d j=>by have:=cg z d;simp at j;omega) d5
    ·have hF:=hid (t.out (Or.inr hpl))
     have hq:((p:Int) != (L:Int))=true:=by simp;omega
     clear t D hpl;go_upto_region 26 with(fail)
     go_quiet (fail)
     obtain⟨y,hy⟩:=nm (wc.drewN nq);have Y:Kept [] wc y:=hy▸kr.drewN nq;rw[hy];have BY:=hid (BW.out.kept Y (by simp));have z0:=BY.cell 0;have z1:=BY.cell 1;obtain⟨y0,y1⟩:=bf2 BY;clear hy;go_wp2_with fail;refine bodyPost_ret (v:=.tuple #[.agg #[(),()],.bool false]) (by simp[results,results199,go_sem,z0,z1]) rfl (hF.out y Y)
   ·rw[o]at d2;have hF:=hid (t.out (Or.inl o));clear t D;go_upto_region 26 with(fail)
    go_quiet (fail)
    obtain⟨y,hy⟩:=nm (wc.drewN nq);have Y:Kept [] wc y:=hy▸kr.drewN nq;rw[hy];have BY:=hid (BW.out.kept Y (by simp));have z0:=BY.cell 0;have z1:=BY.cell 1;obtain⟨y0,y1⟩:=bf2 BY;clear hy;go_wp2_with fail;refine bodyPost_ret (v:=.tuple #[.agg #[(),()],.bool false]) (by simp[results,results199,go_sem,z0,z1]) rfl (hF.out y Y)
end Go.Proofs.YtcidfldeiklcjaaGreatDoor
namespace Go.Proofs.YtcidfldeiklcjaaGreatDoor
open Go.RowKit Tape
def QEnd{α:Type}(R:World->List Value->α->Prop)(m:Nat)(e:TypeId)(f:Nat)(one:Tp->α × Tp)(w:World)(b g po B:Nat)(Fin:World->Prop)(cs:Array Value)(r0:Tp)(N:Nat)(wc:World):Prop :=
 ∃(r:Tp) (acc:List α) (X:List Nat) (a:Option Addr) (n c:Nat),acc.length<=N/\Stg (many one) r0 acc r/\Qg R m e f w wc b g po B X Fin cs a n c acc r
structure LiQ (w wo wr:World) (b g po B:Nat) (X:List Nat) (Fin:World->Prop) (cs:Array Value) (a:Option Addr) (n c:Nat) (accL:List (List (Lnk × List UInt8))) (ro r:Tp) (a10:Option Addr) (n10 c10:Nat) (acc2:List (Lnk × List UInt8)):Prop where
 do_:Qg cr 1 183 2 w wo b g po B X Fin cs a n c accL ro
 kb:Kept [b] wo wr
 tp:RwAt 233 wr b g r
 e10:n10=acc2.length
 gr:∃X2,(∀z∈X,z∈X2)/\(∀z∈X2,z < wr.heap.size)/\(∀z∈obl (.slice a10 n10 c10),z∈X2)/\Grow LnkR 9 185 wo.heap.size X2 wr (.slice a10 n10 c10) acc2
section
variable {w wo wr w1 u y:World} {b g po B:Nat} {X X2:List Nat} {Fin:World->Prop} {cs:Array Value} {a a10 p:Option Addr} {n c n10 c10 nt' q:Nat} {accL:List (List (Lnk × List UInt8))} {ro r r':Tp} {acc2:List (Lnk × List UInt8)} {d:Lnk × List UInt8}
theorem LiQ.dg(h:LiQ w wo wr b g po B X Fin cs a n c accL ro r a10 n10 c10 acc2):Qg cr 1 183 2 w wr b g po B X Fin cs a n c accL r:=h.do_.read h.kb h.tp
theorem LiQ.ge(h:LiQ w wo wr b g po B X Fin cs a n c accL ro r a10 n10 c10 acc2):∀z∈obl (.slice a10 n10 c10),wo.heap.size<=z/\z < wr.heap.size:=by
 obtain⟨X2,_,_,_,G⟩:=h.gr;exact G.ge
theorem LiQ.read(h:LiQ w wo wr b g po B X Fin cs a n c accL ro r a10 n10 c10 acc2)(k:Kept [b] wr w1)(tp:RwAt 233 w1 b g r'):LiQ w wo w1 b g po B X Fin cs a n c accL ro r' a10 n10 c10 acc2:=by
 obtain⟨X2,x1,x2,x3,G⟩:=h.gr;have hb:=h.do_.de.bl;have hge:=h.ge
 have hS:∀z∈[b],z < wr.heap.size->z∈X2:=fun z hz _=>by obtain rfl:=ms hz;exact x1 _ h.do_.de.bX
 exact⟨h.do_,h.kb.trans k,tp,h.e10,⟨X2,x1,fun z hz=>Nat.lt_of_lt_of_le (x2 z hz) k.size,x3,G.step k (fun z hz hm=>by have:=hge z hz;rw[List.mem_singleton]at hm;omega) hS (fun z hz=>Or.inl hz)⟩⟩
theorem LiQ.keep(h:LiQ w wo wr b g po B X Fin cs a n c accL ro r a10 n10 c10 acc2)(k:Kept [] wr w1):LiQ w wo w1 b g po B X Fin cs a n c accL ro r a10 n10 c10 acc2 :=
 h.read (k.mono (by simp)) (h.tp.keep k (by simp) (by simp))
theorem LiQ.fin(h:LiQ w wo wr b g po B X Fin cs a n c accL ro r a10 n10 c10 acc2):Fin wr:=h.dg.de.fin.get
theorem LiQ.push(h:LiQ w wo wr b g po B X Fin cs a n c accL ro r a10 n10 c10 acc2)(x1:∀z∈X,z∈X2)(x2:∀z∈X2,z < wr.heap.size)(k:Kept (obl (.slice a10 n10 c10)) wr y)(hn:nt'=n10+1)
  (G:Grow LnkR 9 185 wo.heap.size (X2++obl (.slice p nt' q)) y (.slice p nt' q) (acc2++[d])):LiQ w wo y b g po B X Fin cs a n c accL ro r p nt' q (acc2++[d]):=by
 have f:=h.ge;have i:=k.size;have l:=h.do_.de.bl;have j:=h.do_.de.gl
 refine⟨h.do_,h.kb.then_ k (fun z hz hm=>by have:=f z hm;omega),h.tp.keep k (fun hm=>by have:=f _ hm;omega) (fun hm=>by have:=f _ hm;omega),by rw[hn,h.e10];simp, ⟨X2++obl (.slice p nt' q),fun z hz=>List.mem_append_left _ (x1 z hz),fun z hz=>?_,fun z hz=>List.mem_append_right _ hz,G⟩⟩
 rcases List.mem_append.1 hz with e|e
 ·have:=x2 z e;omega
 ·exact(G.ge z e).2
theorem LiQ.done(h:LiQ w wo wr b g po B X Fin cs a n c accL ro r a10 n10 c10 acc2)(hl:acc2.length<=9223372036854775807):ae X (fun w=>cr w [.slice a10 n10 c10] acc2) wr:=by
 obtain⟨X2,x1,x2,x3,G⟩:=h.gr;have hge:=h.ge;have hX:=h.do_.de.hX;have h1:=h.e10;subst h1
 exact(G.done (X':=X) (fun z hz=>Or.inl (x1 z hz)) (fun z hz hm=>by have:=hge z hz;have:=hX z hm;omega) hl).imp fun _ h=>⟨_,rfl,h⟩
end
def Used(at_:Nat)(ts used:List (List UInt8)):Prop:=at_=used.length/\(at_<=ts.length->used=ts.take at_)
theorem Used.nil_(ts:List (List UInt8)):Used 0 ts []:=⟨rfl,fun _=>rfl⟩
theorem Used.hit{at_:Nat}{ts used:List (List UInt8)}(h:Used at_ ts used)(hl:at_ < ts.length):Used (at_+1) ts (used++[ts[at_]]):=by
 refine⟨by rw[List.length_append,<-h.1];rfl,fun _=>?_⟩;rw[h.2 (by omega)];exact(List.take_succ_eq_append_getElem hl).symm
theorem Used.miss{at_:Nat}{ts used:List (List UInt8)}(h:Used at_ ts used)(hl:ts.length<=at_)(t:List UInt8):Used (at_+1) ts (used++[t]) := ⟨by rw[List.length_append,<-h.1];rfl,fun h2=>by omega⟩
def sV(w:World)(b g po B:Nat)(Fin:World->Prop)(cs:Array Value)(r0:Tp)(N:Nat)(ts:List (List UInt8))(vt vi:Value)(wr:World):Prop :=
 ∃(k:Nat) (r:Tp) (acc:List (List (Lnk × List UInt8))) (X:List Nat) (a:Option Addr) (n c at_:Nat),vt=.int .i64 (at_:Int)/\vi=.int .i64 (k:Int)/\acc.length+k=N/\TR (many lnk) k r (cA acc) (many (many lnk) r0)/\Used at_ ts (terms acc)/\at_<=acc.length*100000001 /\
  Qg cr 1 183 2 w wr b g po B X Fin cs a n c acc r
def zj(w:World)(b g po B:Nat)(Fin:World->Prop)(cs:Array Value)(r0:Tp)(N:Nat)(ts:List (List UInt8))(vt:Value)(wr:World):Prop :=
 ∃(r:Tp) (acc:List (List (Lnk × List UInt8))) (X:List Nat) (a:Option Addr) (n c at_:Nat),vt=.int .i64 (at_:Int)/\acc.length<=N/\Stg (many (many lnk)) r0 (cA acc) r/\Used at_ ts (terms acc)/\at_<=acc.length*100000001 /\
  Qg cr 1 183 2 w wr b g po B X Fin cs a n c acc r
def InQ(w wo:World)(b g po B:Nat)(X:List Nat)(Fin:World->Prop)(cs:Array Value)(a:Option Addr)(n c:Nat)(accL:List (List (Lnk × List UInt8)))(ro r0:Tp)(N:Nat)(ts:List (List UInt8))(vt v14 vi:Value)(wr:World):Prop :=
 ∃(k:Nat) (r:Tp) (acc2:List (Lnk × List UInt8)) (a10:Option Addr) (n10 c10 at_:Nat),vt=.int .i64 (at_:Int)/\v14=.slice a10 n10 c10/\vi=.int .i64 (k:Int)/\acc2.length+k=N/\TR lnk k r (acc2.map Prod.fst) (many lnk r0)/\Used at_ ts (terms accL++acc2.map Prod.snd)/\at_<=accL.length*100000001+acc2.length /\
  LiQ w wo wr b g po B X Fin cs a n c accL ro r a10 n10 c10 acc2
def xJ(w wo:World)(b g po B:Nat)(X:List Nat)(Fin:World->Prop)(cs:Array Value)(a:Option Addr)(n c:Nat)(accL:List (List (Lnk × List UInt8)))(ro r0:Tp)(N:Nat)(ts:List (List UInt8))(vt v14:Value)(wr:World):Prop :=
 ∃(r:Tp) (acc2:List (Lnk × List UInt8)) (a10:Option Addr) (n10 c10 at_:Nat),vt=.int .i64 (at_:Int)/\v14=.slice a10 n10 c10/\acc2.length<=N/\Stg (many lnk) r0 (acc2.map Prod.fst) r/\Used at_ ts (terms accL++acc2.map Prod.snd)/\at_<=accL.length*100000001+acc2.length /\
  LiQ w wo wr b g po B X Fin cs a n c accL ro r a10 n10 c10 acc2
theorem sV.next{w wf:World}{b g po B:Nat}{Fin:World->Prop}{cs:Array Value}{r0 r:Tp}{N k at_:Nat}{ts:List (List UInt8)}{acc:List (List (Lnk × List UInt8))}{d:List (Lnk × List UInt8)}{p:Option Addr}{q:Nat}
  (h:∃X',Qg cr 1 183 2 w wf b g po B X' Fin cs p (acc.length+1) q (acc++[d]) r) (hN:acc.length+(k+1)=N) (hf:TR (many lnk) k r (cA acc++[d.map Prod.fst]) (many (many lnk) r0)) (hu:Used at_ ts (terms acc++d.map Prod.snd))
  (ha:at_<=acc.length*100000001+d.length) (hd:d.length<=100000001):sV w b g po B Fin cs r0 N ts (.int .i64 (at_:Int)) (.int .i64 (k:Int)) wf:=by
 obtain⟨X',D⟩:=h;exact⟨k,r,acc++[d],X',p,acc.length+1,q,at_,rfl,rfl,by simp;omega,by rw[kQ];exact hf,by rw[kP];exact hu,by simp;omega,D⟩
theorem qL{n a b:Nat}(h:n<=a*100000001+b)(ha:a<=100000001)(hb:b<=100000001):n<=20000000000000000:=by omega
theorem vU(r:Wire.Rd)(ho:Wire.Ok r):Wire.Ok (Wire.texts r).2:=by
 have h1:=Wire.fR 91 0 r ho;have h2:=Wire.oA Wire.text (fun r h=>Wire.yr r h) (Wire.ar 91 0 r).1.toNat _ [] h1;have h3:=Wire.lJ [93] _ h2
 unfold Wire.texts Wire.items
 split
 ·exact h3
 ·exact h3
def yR(b:Nat)(l:List (List UInt8))(rd:Wire.Rd)(w:World)(e:Ending)(w':World):Prop:=∃a c,e=.returned (.slice a l.length c)/\w'.ownsRow w.heap.size 9 1 (.slice a l.length c) l.length (strs l)/\RrAt w' b rd/\Kept [b] w w'
theorem tz{l:List (List UInt8)}{r':Wire.Rd}(b:Nat)(r:Wire.Rd)(hq:Wire.texts r=(l,r'))(w:World)(h:RrAt w b r)(ho:Wire.Ok r)(hs:Fits r) :
  Calls Tryz.prog 197 #[.pointer (some ⟨b,0,none⟩)] w (yR b l r' w) :=
 (pA b r w h ho hs).mono fun e w' ⟨v,h1,h2,h3,h4⟩=>by
  rw[hq]at h2 h3;obtain⟨a,c,rfl⟩:=eW h2 (by decide);exact⟨a,c,h1,h2,h3,h4⟩
def xF(b:Nat)(l:List UInt8)(rd:Wire.Rd)(w:World)(e:Ending)(w':World):Prop:=e=.returned l/\RrAt w' b rd/\Kept [b] w w'
theorem vD{l:List UInt8}{r':Wire.Rd}(b:Nat)(r:Wire.Rd)(hq:Wire.text r=(l,r'))(w:World)(h:RrAt w b r)(ho:Wire.Ok r)(hs:Fits r) :
  Calls Tryz.prog 194 #[.pointer (some ⟨b,0,none⟩)] w (xF b l r' w):=by
 have:=nY b r w h ho hs;rw[hq]at this;exact this
end Go.Proofs.YtcidfldeiklcjaaGreatDoor
