import Derived.Test.YtcidfldeiklcjaaGreatDoorDeS
import Derived.Test.YtcidfldeiklcjaaGreatDoorEtk
set_option maxRecDepth 100000
set_option maxHeartbeats 32000000
namespace Go.Proofs.YtcidfldeiklcjaaGreatDoor
open Go.RowKit Tape
open Go.Proofs.Tryz
open Lib(hid)
def PfDP(q:Pf × Bool)(w:World)(e:Ending)(w':World):Prop :=
 ∃a1 c1 a2 c2,e=.returned (.tuple #[.agg #[.slice a1 q.1.dares.length c1,.slice a2 q.1.answers.length c2],.bool q.2])/\ae (List.range w.heap.size) (fun w=>ag aM 1 w (.slice a1 q.1.dares.length c1) q.1.dares) w'/\ae (List.range w.heap.size) (fun w=>ag bJ 1 w (.slice a2 q.1.answers.length c2) q.1.answers) w'/\Kept [] w w'
theorem mQ{s:List UInt8}{ns:List Int}{rd:Wire.Rd}(h:Wire.nums ⟨s,false⟩=(ns,rd)) :
  cG s=if done rd&&ended (many aX ⟨ns,false⟩).2 then(⟨(many aX ⟨ns,false⟩).1.map (List.map Prod.fst),(many aX ⟨ns,false⟩).1.map (List.map Prod.snd)⟩,true)else(⟨[],[]⟩,false):=by
 unfold cG
 rw[h]
def NumsP(b:Nat)(l:List Int)(rd:Wire.Rd)(w:World)(e:Ending)(w':World):Prop:=∃a c,e=.returned (.slice a l.length c)/\w'.ownsRow w.heap.size 3 1 (.slice a l.length c) l.length (ints l)/\RdAt w' b rd/\Kept [b] w w'
theorem pN{l:List Int}{r':Wire.Rd}(b:Nat)(r:Wire.Rd)(hq:Wire.nums r=(l,r'))(w:World)(h:RdAt w b r)(hE:Env w)(hs:Fits r) :
  Calls prog 125 #[.pointer (some ⟨b,0,none⟩)] w (NumsP b l r' w) :=
 (gS b r hq w h hE hs).mono fun e w' ⟨v,h1,h2,h3,h4⟩=>by
  obtain⟨a,c,rfl⟩:=eW h2 (by decide);exact⟨a,c,h1,h2,h3,h4⟩
def zl(wr:World)(b g:Nat)(X:List Nat)(fin:List (Int × List Int) × Tp)(N:Nat)(vd va vi:Value)(w2:World):Prop :=
 ∃(m:Nat) (r:Tp) (acc:List (Int × List Int)) (ad aa:Option Addr) (n cd n' ca:Nat),vd=.slice ad n cd/\va=.slice aa n' ca/\vi=acc.length/\acc.length+m=N/\aC spnd m r acc=fin/\r.left.length<=100000001/\PfI wr w2 b g X ad n cd aa n' ca (acc.map Prod.fst) (acc.map Prod.snd) r
def jA(w:World)(b g po B:Nat)(fin:List (List (Int × List Int)) × Tp)(N:Nat)(vi:Value)(wr:World):Prop :=
 ∃(m:Nat) (r:Tp) (acc:List (List (Int × List Int))) (X:List Nat) (a1 a2:Option Addr) (n1 c1 n2 c2:Nat),vi=acc.length/\acc.length+m=N/\aC aX m r acc=fin/\r.left.length<=100000001/\PfO w wr b g po B X a1 n1 c1 a2 n2 c2 (acc.map (List.map Prod.fst)) (acc.map (List.map Prod.snd)) r
theorem jA.next{w wf:World}{b g po B N m:Nat}{fin:List (List (Int × List Int)) × Tp}{acc:List (List (Int × List Int))}{x:List (Int × List Int)}{a1 a2:Option Addr}{n1 c1 n2 c2:Nat}{r:Tp}
  (h:∃X',PfO w wf b g po B X' a1 n1 c1 a2 n2 c2 (acc.map (List.map Prod.fst)++[x.map Prod.fst]) (acc.map (List.map Prod.snd)++[x.map Prod.snd]) r) (hN:acc.length+(m+1)=N) (hf:aC aX m r (acc++[x])=fin) (hr:r.left.length<=100000001) :
  jA w b g po B fin N (.int .i64 ((acc.length:Int)+1)) wf:=by
 obtain⟨X',O⟩:=h;exact⟨m,r,acc++[x],X',a1,a2,n1,c1,n2,c2,by simp,by simp;omega,hf,hr,by rw[List.map_append,List.map_append];exact O⟩
theorem tN(s:List UInt8)(w:World)(hE:Env w)(hs:s.length<=100000000) :
  Calls prog 133 #[s] w (PfDP (cG s) w):=by
 obtain⟨P,rd,an⟩:∃P rd,Wire.nums ⟨s,false⟩=(P,rd):=⟨_,_,rfl⟩
 have ao:P.length<=100000001:=by have:=dt ⟨s,false⟩ hs;rw[an]at this;exact this
 have b5:=hid (mQ an);obtain⟨W,hW⟩:=nm (w.alloc (.cells #[(),()] 133));have dd:=bn hW;have d8:=ka (S:=[]) hW
 have dg:W.heap.size=w.heap.size+1:=by rw[<-hW];simp
 have et:=hid dg
 have f9:0 < w.heap.size:=by have:=hE.size;have:0 < NG:=(by decide);omega
 have f7:w.heap.size < W.heap.size:=by omega
 have cg:=hid (hE.kept0 d8);have HO:=hid (ow s W cg);have HW:=hid hW;have e0:=hid an;clear an hW hE dg
 go_enter func133,ntmps133
 go_upto_region 1 with(fail);rw[HW.out];go_wp2_with (go_at_call 124;refine HO.mono ?_)
 first|rintro e w1 rfl h1 k1|rintro e w1 ⟨rfl,h1,k1⟩
 have HN:=hid (pN W.heap.size ⟨s,false⟩ e0 w1 h1 (cg.kept0 k1) hs);have K1:=hid (d8.trans k1);have fg:=k1.size;have es:=h1.2.lt;have B1:=hid (dd.kept k1 (by simp));clear h1 k1 HO dd cg e0;go_upto_region 2 with(fail);go_wp2_with (go_at_call 125;refine HN.mono ?_);rintro e w2 ⟨av,cv,rfl,bb,h2,k2⟩;have K2:=hid (K1.out.fresh k2 (fun z hz=>by rw[List.mem_singleton]at hz;omega));have B2:=hid (B1.out.kept k2 (by simp;omega));obtain⟨g,Z,hg⟩:=Src.of_own bb (by omega);have eb:=k2.size;have H2:=hid h2;have dk:=hid Z;have dr:=hid bb;have el:g=0\/w1.heap.size<=g/\g < w2.heap.size:=hg;clear h2 Z bb k2 hg HN;go_upto_region 3 with(fail);obtain⟨w3,a7⟩:=nm (w2.alloc (.cells #[.slice av P.length cv,.bool false] 210));have a3:Kept [] w2 w3:=a7▸kr.alloc _
 have bh:Hid (w3.heap.size=w2.heap.size+1):=by show _=_;rw[<-a7];simp
 have T3:Hid (TpAt 210 w3 w2.heap.size g ⟨P,false⟩):=⟨⟨av,cv,a7▸Blk.new _ _ _,dk.out.keep a3 (by simp)⟩,by omega⟩;have K3:=hid (K2.trans a3);have B3:=hid (B2.out.kept a3 (by simp));have HD:=hid (oy W.heap.size rd w3 ⟨H2.out.1,H2.out.2.kept a3 (by simp)⟩);rw[a7]
 generalize hb:w2.heap.size=b at bh T3 el eb ⊢
 clear a7 B1 B2 K2 a3 H2 dk dr hb;obtain⟨dn,bm⟩:=nm ((!rd.bad&&rd.rest.isEmpty));have b1:Hid (done rd=dn):=bm;rw[bm]at HD;clear bm
 cases dn
 ·have HR:Hid (cG s=(⟨[],[]⟩,false)):=by show _=_;rw[b5.out,b1.out];rfl
  clear b5 b1;go_upto_region 4 with(go_at_call 131;refine HD.mono ?_;rintro e w4 ⟨rfl,k4⟩);have B4:=B3.out.kept k4 (by simp);obtain⟨z0,z1⟩:=bc2 B4 rfl;obtain⟨y0,y1⟩:=bf2 B4;clear B4;go_wp2_with fail;refine bodyPost_ret (v:=.tuple #[.agg #[(),()],.bool false]) (by simp[results,results133,go_sem,z0,z1]) rfl ?_;rw[HR.out];exact⟨none,0,none,0,rfl,fun _ _ _ _=>ag.nil_ _ _ _,fun _ _ _ _=>ag.nil_ _ _ _,((K3.trans k4).setCell (Or.inr (Nat.le_refl _)) _).setCell (Or.inr (Nat.le_refl _)) _⟩
 ·have HR:Hid (cG s=if ended (many aX ⟨P,false⟩).2 then(⟨(many aX ⟨P,false⟩).1.map (List.map Prod.fst),(many aX ⟨P,false⟩).1.map (List.map Prod.snd)⟩,true)else(⟨[],[]⟩,false)):=by show _=_;rw[b5.out,b1.out];simp
  clear b5 b1;go_upto_region 5 with(go_at_call 131;refine HD.mono ?_;rintro e w4 ⟨rfl,k4⟩);have B4:=hid (B3.out.kept k4 (by simp));have K4:=hid (K3.trans k4);have T4:=hid (T3.out.keep k4 (by simp) (by simp));have ea:=k4.size
  have cu:b < w4.heap.size:=by have:=bh.out;omega
  clear B3 K3 T3 k4 HD bh HW et es;go_upto_region 6 with(fail);obtain⟨w5,a5⟩:=nm (w4.alloc (.cells #[(),()] 133));have al:Kept [] w4 w5:=a5▸kr.alloc _
  have bd:Hid (w5.heap.size=w4.heap.size+1):=by show _=_;rw[<-a5];simp
  have P5:=hid (a5▸Blk.new _ _ _);have B5:=hid (B4.out.kept al (by simp));have K5:=hid (K4.trans al);have HC:=hid (gD b g ⟨P,false⟩ w5 (T4.out.keep al (by simp) (by simp)));have V:=bM ⟨P,false⟩;have R:Hid (many aX ⟨P,false⟩=aC aX (count ⟨P,false⟩).1 (count ⟨P,false⟩).2 []):=rfl;rw[a5]
  generalize ec:w4.heap.size=po at bd P5 ea cu ⊢
  have g0:=T4.out.ne;clear a5 B4 K4 T4 al ec;obtain⟨N,r0,cy⟩:∃N r0,count ⟨P,false⟩=(N,r0):=⟨_,_,rfl⟩;rw[cy]at HC V R;replace V:N<=r0.left.length/\r0.left.length<=P.length:=V;clear cy;go_wp2_with (go_at_call 176;refine HC.mono ?_);rintro e w6 ⟨rfl,t6,k6⟩
  have dc:b≠po:=by omega
  have d9:g≠po:=by omega
  have P6:=hid (P5.out.kept k6 (by simp;omega));have B6:=hid (B5.out.kept k6 (by simp;omega));have K6:=hid (K5.out.fresh k6 (by simp;omega));have fb:=k6.size;have T6:=hid t6;obtain⟨bv,ac⟩:=nm (aC aX N r0 []);have eg:=hid (R.out.trans ac);have e4:=hid ac
  have f2:po < w6.heap.size:=by have:=bd.out;omega
  obtain⟨B,hB⟩:=nm w6.heap.size
  have O6:Hid (PfO w w6 b g po B (List.range w.heap.size++[b,po,w.heap.size]) none 0 0 none 0 0 [] [] r0) := ⟨T6.out,P6.out,rfl,rfl,Grow.nil_ _ _ _ _ _ _,Grow.nil_ _ _ _ _ _ _,by simp[obl,Value.ownBlock],by simp,by simp,fun z hz=>by simp at hz;omega,by simp[obl,Value.ownBlock],by simp[obl,Value.ownBlock],by omega,by omega,by omega,by omega,dc,d9,K6.out,by omega,by omega,by simp,B6.out,fun z hz=>by simp;omega⟩
  have ft:w.heap.size < b:=by omega
  clear B6 t6 k6 HC R ac P5 B5 K5 P6 K6 T6 bd hB;go_wp2_with fail
  go_loopw [22] (fun vi wr=>jA w b g po B bv N vi wr) (fun vi _=>N - (intOf vi).toNat)
  case atStart=>exact⟨N,r0,[],_,_,_,_,_,_,_,rfl,by simp,e4.out,by omega,O6.out⟩
  case round =>
   obtain⟨m,r,j,X,J,F,n1,E,n2,D,rfl,hN,hf,fn,hO⟩:=hrel;have O:=hid hO;have HF:=hid hf;have HN:=hid hN
   have fz:j.length<=N:=by omega
   clear hO hf O6 e4
   rcases m with _|m
   ·have e1:Hid (j.length=N):=by show _=_;have:=HN.out;omega
    have e2:Hid (bv=(j,r)):=by show _=_;rw[<-HF.out];rfl
    obtain⟨a,c,hb,hs⟩:=O.out.tp.st;have ed:=hs.2.1;have c0:wr.cell? ⟨b,0,none⟩=some (.slice a r.left.length c):=hb.cell 0;have c1':wr.cell? ⟨b,1,none⟩=some (.bool r.bad):=hb.cell 1;have BW:=hid (O.out.bq);obtain⟨z0,z1⟩:=bc2 BW rfl;obtain⟨y0,y1⟩:=bf2 BW;rw[e1.out];rw[eg.out,e2.out]at HR;obtain⟨L,hL⟩:=nm r.left.length;have HL:=hid hL;rw[hL]at c0 ed;clear hb hs hL
    have ah:Hid (ended r=false->PfDP (cG s) w (.returned (.tuple #[.agg #[(),()],.bool false])) ((wr.setCell ⟨w.heap.size,0,none⟩ ()).setCell ⟨w.heap.size,1,none⟩ ())):=fun he=>by
     rw[HR.out,if_neg (by rw[he];simp)];exact⟨none,0,none,0,rfl,fun _ _ _ _=>ag.nil_ _ _ _,fun _ _ _ _=>ag.nil_ _ _ _,(O.out.k0.setCell (Or.inr (Nat.le_refl _)) _).setCell (Or.inr (Nat.le_refl _)) _⟩
    cases hbd:r.bad
    ·rw[hbd]at c1'
     by_cases hL0:L=0
     ·subst hL0;have p0:=O.out.bp.cell 0;have p1:=O.out.bp.cell 1
      have he:Hid (ended r=true):=by show _=_;unfold ended;rw[hbd,List.eq_nil_of_length_eq_zero HL.out];rfl
      go_wp2_with fail
      have BB:Blk ((wr.setCell ⟨w.heap.size,0,none⟩ (.slice J n1 E)).setCell ⟨w.heap.size,1,none⟩ (.slice F n2 D)) w.heap.size 133 #[.slice J n1 E,.slice F n2 D]:=by simpa using(BW.set_ 0 (.slice J n1 E)).set_ 1 (.slice F n2 D)
      have e9:=BB.cell 0;have e8:=BB.cell 1;have kk:Kept [w.heap.size] wr ((wr.setCell ⟨w.heap.size,0,none⟩ (.slice J n1 E)).setCell ⟨w.heap.size,1,none⟩ (.slice F n2 D)):=(kr.setCell (by simp) _).setCell (by simp) _
      have f8:w.heap.size < B:=by have:=O.out.wb;have:=O.out.lb;omega
      have d2:=O.out.ge1;have d1:=O.out.ge2;have G1:=O.out.g1.step (X':=X) kk (fun z hz hm=>by have:=d2 z hz;rw[List.mem_singleton]at hm;omega) (fun z hz _=>by obtain rfl:=ms hz;exact O.out.qX) (fun z hz=>Or.inl hz);have G2:=O.out.g2.step (X':=X) kk (fun z hz hm=>by have:=d1 z hz;rw[List.mem_singleton]at hm;omega) (fun z hz _=>by obtain rfl:=ms hz;exact O.out.qX) (fun z hz=>Or.inl hz);have d6:=O.out.e1;have d5:=O.out.e2;have ek:=(O.out.k0.setCell (p:=⟨w.heap.size,0,none⟩) (Or.inr (Nat.le_refl _)) (.slice J n1 E)).setCell (p:=⟨w.heap.size,1,none⟩) (Or.inr (Nat.le_refl _)) (.slice F n2 D)
      have eq:(j.map (List.map Prod.fst)).length<=9223372036854775807:=by rw[List.length_map];omega
      have en:(j.map (List.map Prod.snd)).length<=9223372036854775807:=by rw[List.length_map];omega
      refine bodyPost_ret (v:=.tuple #[.agg #[.slice J n1 E,.slice F n2 D],.bool true]) (by simp[results,results133,go_sem,e9,e8]) rfl ?_;rw[HR.out,if_pos he.out];refine⟨J,E,F,D,?_,?_,?_,ek⟩
      ·show _=Ending.returned (.tuple #[.agg #[.slice J (j.map (List.map Prod.fst)).length E,.slice F (j.map (List.map Prod.snd)).length D],_])
       rw[<-d6,<-d5]
      ·show ae _ (fun w=>ag aM 1 w (.slice J (j.map (List.map Prod.fst)).length E) (j.map (List.map Prod.fst))) _
       rw[<-d6];exact G1.done (fun z hz=>Or.inl (O.out.rX z (by simpa using hz))) (fun z hz hm=>by have:=d2 z hz;simp at hm;omega) eq
      ·show ae _ (fun w=>ag bJ 1 w (.slice F (j.map (List.map Prod.snd)).length D) (j.map (List.map Prod.snd))) _
       rw[<-d5];exact G2.done (fun z hz=>Or.inl (O.out.rX z (by simpa using hz))) (fun z hz hm=>by have:=d1 z hz;simp at hm;omega) en
     ·have hF:=hid (ah.out (by unfold ended;rw[hbd];cases hl:r.left with|nil=>rw[hl]at HL;exact absurd HL.out.symm hL0|cons _ _=>rfl));go_wp2_with fail;refine bodyPost_ret (v:=.tuple #[.agg #[(),()],.bool false]) (by simp[results,results133,go_sem,z0,z1]) rfl hF.out
    ·rw[hbd]at c1';have hF:=hid (ah.out (by unfold ended;rw[hbd];rfl));go_wp2_with fail;refine bodyPost_ret (v:=.tuple #[.agg #[(),()],.bool false]) (by simp[results,results133,go_sem,z0,z1]) rfl hF.out
   ·have fs:j.length < N:=by have:=HN.out;omega
    have HC:=hid (gD b g r wr O.out.tp);have V:=bM r;have bo:aX r=aC spnd (count r).1 (count r).2 []:=rfl;obtain⟨N2,r7,cx⟩:∃N r0,count r=(N,r0):=⟨_,_,rfl⟩;rw[cx]at HC V bo;replace V:N2<=r7.left.length/\r7.left.length<=r.left.length:=V;obtain⟨C,U⟩:=nm (aC spnd N2 r7 []);have db:Hid (aX r=C):=bo.trans U;have ba:=hid U;clear cx bo U;go_wp2_with (go_at_call 176;refine HC.mono ?_);rintro e w7 ⟨rfl,t7,k7⟩;have O7:=hid (O.out.read k7 t7)
    have I7:Hid (PfI w7 w7 b g X none 0 0 none 0 0 [] [] r7) := ⟨t7,kr,rfl,rfl,World.ownsRow_nil _ _ _ _,⟨X,fun _ h=>h,O7.out.hX,by simp[obl,Value.ownBlock],by simp[obl,Value.ownBlock],Grow.nil_ _ _ _ _ _ _⟩,by simp[obl,Value.ownBlock],O7.out.bX,by have:=O7.out.lb;have:=O7.out.le;omega,by have:=O7.out.lg;have:=O7.out.le;omega⟩
    clear t7 k7 HC O;go_wp2_with fail
    go_loopw [7,8,26] (fun vd va vi w2=>zl w7 b g X C N2 vd va vi w2) (fun _ _ vi _=>N2 - (intOf vi).toNat)
    case atStart=>exact⟨N2,r7,[],_,_,_,_,_,_,rfl,rfl,rfl,by simp,ba.out,by omega,I7.out⟩
    case round =>
     obtain⟨m2,r2,d,ad,aa,n,cd,n',ca,rfl,rfl,rfl,er,da,fr,hI⟩:=hrel;have I:=hid hI;have b4:=hid da;have c9:=hid er
     have f6:d.length<=N2:=by omega
     clear hI da I7 ba
     rcases m2 with _|m2
     ·have e1:Hid (d.length=N2):=by show _=_;have:=c9.out;omega
      have e2:Hid (C=(d,r2)):=by show _=_;rw[<-b4.out];rfl
      have u:=hid (O7.out.read I.out.kb I.out.tp);have bs:=O7.out.hX;have ab:=I.out.ged;have b9:=I.out.gea
      have HD:Hid (ae X (fun w=>aM w [.slice ad n cd] (d.map Prod.fst)) wr):=by
       have h1:=I.out.nd;have h2:=I.out.od;rw[h1]at h2 ab ⊢
       exact(ae.row h2 (fun z hz hm=>by have:=ab z hz;have:=bs z hm;omega) (by rw[List.length_map];omega)).imp fun _ h=>⟨_,rfl,h⟩
      have HC:Hid (ae X (fun w=>bJ w [.slice aa n' ca] (d.map Prod.snd)) wr):=by
       obtain⟨X2,x1,x2,x3,x4,G⟩:=I.out.ga
       exact(G.done (X':=X) (fun z hz=>Or.inl (x1 z hz)) (fun z hz hm=>by have:=b9 z hz;have:=bs z hm;omega) (by rw[List.length_map];omega)).imp fun _ h=>⟨_,rfl,h⟩
      have c7:Hid (aC aX m r2 (j++[d])=bv):=by
       show _=_
       rw[<-HF.out,bO,db.out,e2.out]
      have q0:=fun(w':World) (k:Kept (obl (.slice J n1 E)++obl (.slice F n2 D)) wr w')=>(u.out.bp.kept k (fun hm=>by
       have:=u.out.lp
       rcases List.mem_append.1 hm with h|h
       ·have:=u.out.ge1 _ h;omega
       ·have:=u.out.ge2 _ h;omega)).cell 0
      have q1:=fun(w':World) (k:Kept (obl (.slice J n1 E)++obl (.slice F n2 D)) wr w')=>(u.out.bp.kept k (fun hm=>by
       have:=u.out.lp
       rcases List.mem_append.1 hm with h|h
       ·have:=u.out.ge1 _ h;omega
       ·have:=u.out.ge2 _ h;omega)).cell 1
      have q2:=hid fun(w':World) (i:Nat) (k:Kept (obl (.slice J n1 E)++obl (.slice F n2 D)) wr w')=>(u.out.bp.kept k (fun hm=>by
       have:=u.out.lp
       rcases List.mem_append.1 hm with h|h
       ·have:=u.out.ge1 _ h;omega
       ·have:=u.out.ge2 _ h;omega)).frozen i
      rw[e1.out];clear I bs ab b9 e2 b4 HF db O7;go_upto_region 17 with(fail);refine aJ [11,12,13] (fun w'=>Kept (obl (.slice J n1 E)++obl (.slice F n2 D)) wr w') (by kernel_rfl) kr.drew (fun hH=>?_);refine tk [1,4,9,10,11,12,13] 0 rfl hH ?_;simp only[Act.put,sA,s0_,s1_];refine tk [4,9,10,11,12,13] 1 rfl hH ?_;simp only[Act.put,sA,s0_,s1_];refine tk [3,4,9,10,11,12,13] 2 rfl hH ?_;simp only[Act.put,sA,s0_,s1_];refine tk [6,9,10,11,12,13] 5 rfl hH ?_;simp only[Act.put,sA,s0_,s1_];refine tk [9,10,11,12,13] 6 rfl hH ?_;simp only[Act.put,sA,s0_,s1_];refine tk [8,9,11,12,13] 7 rfl hH ?_;simp only[Act.put,sA,s0_,s1_];refine cN (rs:=[3,8]) (by kernel_rfl) (by simp) ?_;refine aI.cons rfl (fun K hK=>?_) (aI.cons rfl (fun K hK=>?_) aI.nil)
      ·go_simp;refine hK.out _ _ (hH.alloc _) (fun hH=>?_);clear hK K
       (try simp only[Act.put,sA,s0_,s1_])
       refine cN (rs:=[4,8]) (by kernel_rfl) (by simp) ?_;refine aI.cons rfl (fun K hK=>?_) (aI.cons rfl (fun K hK=>?_) aI.nil)
       ·refine nW u.out rfl _ _ rfl rfl _ rfl (.slice ad n cd) (rowN (by simp) _ _) (by(repeat (first|(with_reducible exact kr)|(with_reducible refine Kept.drew ?_)|(with_reducible refine Kept.alloc ?_ _)))) HD.out rfl (by simp;omega) ?_;intro p q y H1;have A:Kept (obl (.slice J n1 E)++obl (.slice F n2 D)) wr y:=H1.ks.mono fun z _ hz=>List.mem_append_left _ hz;refine hK.out _ _ A (fun hH=>?_);clear hK K
        (try simp only[Act.put,List.setIfInBounds_toArray])
        refine tk [11,12,13] 10 rfl hH ?_;simp only[Act.put];refine r1 8 rfl fun K hK=>?_;go_simp;refine hK.out _ _ (hH.alloc _) (fun hH=>?_);clear hK K
        (try simp only[Act.put,sA,s0_,s1_])
        refine r1 9 rfl fun K hK=>?_;refine nV u.out H1 rfl _ _ rfl rfl _ rfl (.slice aa n' ca) (rowN (by simp) _ _) (by(repeat (first|(with_reducible exact kr)|(with_reducible refine Kept.drew ?_)|(with_reducible refine Kept.alloc ?_ _)))) HC.out rfl (by simp;omega) ?_;intro p' q' y' f HX;have z0:=q0 _ f;have z1:=q1 _ f;have f0:=q2.out _ 0 f;have f1:=q2.out _ 1 f;refine hK.out _ _ f (fun hH=>?_);clear hK K
        (try simp only[Act.put,List.setIfInBounds_toArray])
        refine YtcidfldeiklcjaaGreatDoor.r2 11 rfl fun K hK=>?_;go_simp;refine hK.out _ _ ?_;clear hK K
        (try simp only[Act.put,sA,s0_,s1_])
        refine YtcidfldeiklcjaaGreatDoor.r2 12 rfl fun K hK=>?_;go_simp;refine hK.out _ _ ?_;clear hK K
        (try simp only[Act.put,sA,s0_,s1_])
        refine YtcidfldeiklcjaaGreatDoor.r2 13 rfl fun K hK=>?_;go_simp;refine hK.out _ _ ?_;clear hK K
        (try simp only[Act.put,sA,s0_,s1_])
        refine aD (by kernel_rfl) ?_ _;rw[List.length_map,List.length_map]at HX;have HR:=hid (jA.next HX (by have:=HN.out;omega) c7.out (by omega));clear HX f H1 A hH;go_wp2_with fail
        go_roundw
        case rel=>exact HR
        case measure=>simp[intOf];omega
       ·go_simp;refine hK.out _ _ (hH.alloc _) (fun hH=>?_);clear hK K
        (try simp only[Act.put,sA,s0_,s1_])
        refine r1 4 rfl fun K hK=>?_;refine nW u.out rfl _ _ rfl rfl _ rfl (.slice ad n cd) ((rowN (Y:=wr.drew) rfl _ _).kept (kr.alloc _)) (by(repeat (first|(with_reducible exact kr)|(with_reducible refine Kept.drew ?_)|(with_reducible refine Kept.alloc ?_ _)))) HD.out rfl (by simp;omega) ?_;intro p q y H1;have A:Kept (obl (.slice J n1 E)++obl (.slice F n2 D)) wr y:=H1.ks.mono fun z _ hz=>List.mem_append_left _ hz;refine hK.out _ _ A (fun hH=>?_);clear hK K
        (try simp only[Act.put,List.setIfInBounds_toArray])
        refine tk [11,12,13] 10 rfl hH ?_;simp only[Act.put];refine r1 9 rfl fun K hK=>?_;refine nV u.out H1 rfl _ _ rfl rfl _ rfl (.slice aa n' ca) (gP (rowN (Y:=wr.drew.alloc (.cells #[.slice ad n cd] 24)) (by simp) _ _) H1.k (fun h=>by have:=u.out.ge1 _ h;omega)) (by(repeat (first|(with_reducible exact kr)|(with_reducible refine Kept.drew ?_)|(with_reducible refine Kept.alloc ?_ _)))) HC.out rfl (by simp;omega) ?_;intro p' q' y' f HX;have z0:=q0 _ f;have z1:=q1 _ f;have f0:=q2.out _ 0 f;have f1:=q2.out _ 1 f;refine hK.out _ _ f (fun hH=>?_);clear hK K
        (try simp only[Act.put])
        refine YtcidfldeiklcjaaGreatDoor.r2 11 rfl fun K hK=>?_;go_simp;refine hK.out _ _ ?_;clear hK K
        (try simp only[Act.put,sA,s0_,s1_])
        refine YtcidfldeiklcjaaGreatDoor.r2 12 rfl fun K hK=>?_;go_simp;refine hK.out _ _ ?_;clear hK K
        (try simp only[Act.put,sA,s0_,s1_])
        refine YtcidfldeiklcjaaGreatDoor.r2 13 rfl fun K hK=>?_;go_simp;refine hK.out _ _ ?_;clear hK K
        (try simp only[Act.put,sA,s0_,s1_])
        refine aD (by kernel_rfl) ?_ _;rw[List.length_map,List.length_map]at HX;have HR:=hid (jA.next HX (by have:=HN.out;omega) c7.out (by omega));clear HX f H1 A hH;go_wp2_with fail
        go_roundw
        case rel=>exact HR
        case measure=>simp[intOf];omega
      ·go_simp;refine hK.out _ _ (hH.alloc _) (fun hH=>?_);clear hK K
       (try simp only[Act.put,sA,s0_,s1_])
       refine r1 3 rfl fun K hK=>?_;go_simp;refine hK.out _ _ (hH.alloc _) (fun hH=>?_);clear hK K
       (try simp only[Act.put,sA,s0_,s1_])
       refine r1 4 rfl fun K hK=>?_;refine nW u.out rfl _ _ rfl rfl _ rfl (.slice ad n cd) (rowN (by simp) _ _) (by(repeat (first|(with_reducible exact kr)|(with_reducible refine Kept.drew ?_)|(with_reducible refine Kept.alloc ?_ _)))) HD.out rfl (by simp;omega) ?_;intro p q y H1;have A:Kept (obl (.slice J n1 E)++obl (.slice F n2 D)) wr y:=H1.ks.mono fun z _ hz=>List.mem_append_left _ hz;refine hK.out _ _ A (fun hH=>?_);clear hK K
       (try simp only[Act.put,List.setIfInBounds_toArray])
       refine tk [11,12,13] 10 rfl hH ?_;simp only[Act.put];refine r1 9 rfl fun K hK=>?_;refine nV u.out H1 rfl _ _ rfl rfl _ rfl (.slice aa n' ca) (gP ((rowN (Y:=wr.drew) rfl _ _).kept (kr.alloc _)) H1.k (fun h=>by have:=u.out.ge1 _ h;omega)) (by(repeat (first|(with_reducible exact kr)|(with_reducible refine Kept.drew ?_)|(with_reducible refine Kept.alloc ?_ _)))) HC.out rfl (by simp;omega) ?_;intro p' q' y' f HX;have z0:=q0 _ f;have z1:=q1 _ f;have f0:=q2.out _ 0 f;have f1:=q2.out _ 1 f;refine hK.out _ _ f (fun hH=>?_);clear hK K
       (try simp only[Act.put])
       refine YtcidfldeiklcjaaGreatDoor.r2 11 rfl fun K hK=>?_;go_simp;refine hK.out _ _ ?_;clear hK K
       (try simp only[Act.put,sA,s0_,s1_])
       refine YtcidfldeiklcjaaGreatDoor.r2 12 rfl fun K hK=>?_;go_simp;refine hK.out _ _ ?_;clear hK K
       (try simp only[Act.put,sA,s0_,s1_])
       refine YtcidfldeiklcjaaGreatDoor.r2 13 rfl fun K hK=>?_;go_simp;refine hK.out _ _ ?_;clear hK K
       (try simp only[Act.put,sA,s0_,s1_])
       refine aD (by kernel_rfl) ?_ _;rw[List.length_map,List.length_map]at HX;have HR:=hid (jA.next HX (by have:=HN.out;omega) c7.out (by omega));clear HX f H1 A hH;go_wp2_with fail
       go_roundw
       case rel=>exact HR
       case measure=>simp[intOf];omega
     ·have f4:d.length < N2:=by have:=c9.out;omega
      obtain⟨ds,b0⟩:=nm (d.map Prod.fst);obtain⟨c3,b2⟩:=nm (d.map Prod.snd);rw[b0,b2]at I;have e5:=hid b0;have e6:=hid b2
      have em:ds.length=d.length:=by rw[<-b0,List.length_map]
      have de:c3.length=d.length:=by rw[<-b2,List.length_map]
      have ao:n<=100000001:=by have:=I.out.nd;omega
      have f3:c3.length<=100000001:=by omega
      have d4:=hid I.out.na;have co:=hid (mV b g r2 wr I.out.tp);obtain⟨x,r3,bk⟩:∃x r3,next r2=(x,r3):=⟨_,_,rfl⟩;have a9:=fV r2;rw[bk]at co a9;replace a9:r3.left.length<=r2.left.length:=a9;obtain⟨q,r5,am⟩:∃q r5,count r3=(q,r5):=⟨_,_,rfl⟩;have t:=bM r3;rw[am]at t;replace t:q<=r5.left.length/\r5.left.length<=r3.left.length:=t;obtain⟨l,bx⟩:=r5;replace t:q<=l.length/\l.length<=r3.left.length:=t;obtain⟨bl,f5⟩:=t
      have ct:spnd r2=((x,l.take q),⟨l.drop q,bx⟩):=by
       simp only[spnd,both,bk,list,am]
      have cb:Hid (aC spnd m2 ⟨l.drop q,bx⟩ (d++[(x,l.take q)])=C):=by
       show _=_
       rw[<-b4.out,bO,ct]
      have dl:=hid am;clear b0 b2 em de bk am ct b4;go_wp2_with (go_at_call 177;refine co.mono ?_);rintro e w3 ⟨rfl,t3,k3⟩;have I3:=hid (I.out.read k3 t3);clear t3 k3 co I;go_wp2_with (at_builtin;refine aE rfl _ _ rfl w7.heap.size (.slice ad n cd) n ds rfl (I3.out.alloc _).od _ 1 [x] rfl (Row.one1 _ _) (by omega) (I3.out.alloc _).le ?_);intro a4 c4 w4 b6 k4 dj;have I4:=hid ((I3.out.alloc _).pushd k4 rfl b6 (fun z hz=>by rw[World.size_alloc];exact dj z hz));clear b6 k4 dj I3;have cm:=hid (gD b g r3 w4 I4.out.tp);rw[dl.out]at cm;go_wp2_with (go_at_call 176;refine cm.mono ?_);rintro e w5 ⟨rfl,t5,k5⟩;have I5:=hid (I4.out.read k5 t5);clear t5 k5 cm dl I4;obtain⟨⟨a,c,hb,hs⟩,ap⟩:=I5.out.tp;have c0:w5.cell? ⟨b,0,none⟩=some (.slice a l.length c):=hb.cell 0;have ej:l.length<=c:=hs.1;have cl:=hid (mh g a c q l w5 hs bl (by omega))
      have bt:(l.take q).length=q:=by rw[List.length_take];omega
      generalize hT:l.take q=T at cl cb bt
      have b3:=hid bt;clear hb hs ap hT bt;go_wp2_with (go_at_call 54;refine cl.mono ?_);rintro e w6 ⟨a6,c6,rfl,a0,k6⟩;rw[b3.out];have I6:=hid (I5.out.keep k6);obtain⟨X2,x1,x2,x3,x4,G5⟩:=I5.out.ga;have bc:Kept [] w6 (w6.alloc (.cells #[.slice a6 T.length c6] 24)):=kr.alloc _
      have c5:ae X2 (fun w=>aM w [.slice a6 T.length c6] T) (w6.alloc (.cells #[.slice a6 T.length c6] 24)) :=
       (ae.row (af a0 bc (by simp)) (fun z hz hm=>by have:=(ak a0 z hz).1;have:=x2 z hm;omega) (by have:=b3.out;omega)).imp fun _ h=>⟨_,rfl,h⟩
      have G6:=G5.step (X':=X2) (k6.trans bc) (by simp) (by simp) (fun z hz=>Or.inl hz);have Q:Row (w6.alloc (.cells #[.slice a6 T.length c6] 24)) 1 (.slice (some ⟨w6.heap.size,0,none⟩) 1 1) 1 [.slice a6 T.length c6]:=aH (Blk.new w6 24 #[.slice a6 T.length c6]) rfl (by omega);rw[b3.out]at c5 G6 Q;have eu:=k6.size;have e7:=hid c5;have e3:=hid G6;have dm:=hid Q;have X1:=hid x1;have XL:=hid x2;have X3:=hid x3;have X4:=hid x4;have d7:=hid (I6.out.alloc (.cells #[.slice a6 q c6] 24)).le;have d3:=hid d4.out;clear a0 k6 cl c0 G5 bc c5 G6 Q x1 x2 x3 x4;obtain⟨i0,hi,cs,cq,cp⟩:=info_parts nx;go_wp2_with (at_builtin;refine aq rfl _ _ 55 rfl i0 (.slice none 0 0) 24 underlying55 hi cs cq cp rfl (by decide) (by decide) rfl e3.out _ [.slice a6 q c6] T rfl dm.out e7.out (by simp[Value.oneCell']) (by omega) d7.out X4.out ?_);intro a8 c8 w8 G8 k8 di;have I8:=hid ((I6.out.alloc _).pusha X1.out (fun z hz=>Nat.lt_of_lt_of_le (XL.out z hz) (by simp only[World.size_alloc];omega)) X3.out k8 (by rw[d4.out]) G8 (fun z hz=>by rw[World.size_alloc];exact di z hz));clear G8 k8 di e7 e3 dm X1 XL X3 X4 hi cs cq cp I6 I5;obtain⟨M,hM⟩:=nm (c3.length+1);rw[hM]at I8;obtain⟨⟨a,c,hb,hs⟩,ap⟩:=I8.out.tp;have c0:w8.cell? ⟨b,0,none⟩=some (.slice a l.length c):=hb.cell 0;have d0:=hb.frozen 0;have ej:l.length<=c:=hs.1
      have b7:∀(x':Option Addr) (mm cc:Nat),mm=l.length - q->Src w8 g x' cc (l.drop q)->Hid (zl w7 b g X C N2 (.slice a4 (n+1) c4) (.slice a8 M c8) (.int .i64 ((d.length:Int)+1)) (w8.setCell ⟨b,0,none⟩ (.slice x' mm cc))):=fun x' mm cc hmm Z=>by
       refine⟨m2,⟨l.drop q,bx⟩,d++[(x,T)],a4,a8,n+1,c4,M,c8,rfl,rfl,by simp,by have:=c9.out;simp;omega,cb.out,by show(l.drop q).length<=_;rw[List.length_drop];omega,?_⟩;rw[List.map_append,List.map_append,e5.out,e6.out];exact I8.out.read (kr.setCell (by simp) _) (TpAt.put hb Z (by rw[List.length_drop];exact hmm) ap)
      have HP:=hid b7;have HS:=hid hs;have HM:=hid hM;rw[hM];clear b7 hb hs ap hM I8 e5 e6 cb b3
      cases a with
      |none =>
       have h0:l=[]:=by
        rcases Nat.eq_zero_or_pos l.length with h|h
        ·exact List.eq_nil_of_length_eq_zero h
        ·obtain⟨off,ha,_⟩:=HS.2.2 h
         cases ha
       subst h0
       obtain rfl:q=0:=by simpa using bl
       have HF:=hid (HP.out none 0 c (by simp) (Src.empty _ _ _ _));clear HP;go_wp2
       go_roundw
       case rel=>exact HF
       case measure=>simp[intOf];omega
      |some ad =>
       by_cases d3:q=c
       ·have ao:q=l.length:=by omega
        have hd:l.drop q=[]:=by rw[ao];simp
        have HF:=hid (HP.out (some ad) 0 0 (by omega) (by rw[hd];exact Src.empty _ _ _ _));clear HP hd;subst d3;subst ao;go_wp2
        go_roundw
        case rel=>exact HF
        case measure=>simp[intOf];omega
       ·have HF:=hid (HP.out (some (ad.add q)) (l.length - q) (c - q) rfl (HS.out.drop q bl _ (fun _ o ho=>by injection ho with ho;subst ho;rw[nC])));clear HP;go_wp2
        go_roundw
        case rel=>exact HF
        case measure=>simp[intOf];omega
end Go.Proofs.YtcidfldeiklcjaaGreatDoor
namespace Go.Proofs.YtcidfldeiklcjaaGreatDoor
open Go.RowKit Tape
open Go.Proofs.Tryz
theorem wK:(prog.info? 178).map (fun i=>(i.zero,i.size,i.bytes))=some (some (.agg #[.int .i64 0,.int .i64 0,.int .i64 0,.int .i64 0,.int .i64 0,.int .i64 0]),6,48):=by kernel_rfl
theorem wL:(prog.info? 181).map (fun i=>(i.zero,i.size,i.bytes))=some (some (.agg #[.int .i64 0,()]),2,32):=by kernel_rfl
theorem oE:(prog.info? 185).map (fun i=>(i.zero,i.size,i.bytes))=some (some (.agg #[.int .i64 0,.int .i64 0,.int .i64 0,.int .i64 0,.int .i64 0,.int .i64 0,.int .i64 0,(),.string ⟨#[]⟩]),9,96):=by kernel_rfl
theorem sH:(prog.info? 183).map (fun i=>(i.zero,i.size,i.bytes))=some (some (.slice none 0 0),1,24):=by kernel_rfl
theorem gK(w:World):Row w 1 () ([]:List Int).length (ints []):=⟨rfl,by simp,none,0,rfl,by simp,fun h=>absurd h (by simp)⟩
def se(q:Rec × Bool)(w:World)(e:Ending)(w':World):Prop:=∃v,e=.returned (.tuple #[v,.bool q.2])/\RecV w' v q.1/\Kept [] w w'
def zT(b:Nat)(l:List (List UInt8))(rd:Wire.Rd)(w:World)(e:Ending)(w':World):Prop:=∃a c,e=.returned (.slice a l.length c)/\w'.ownsRow w.heap.size 9 1 (.slice a l.length c) l.length (strs l)/\RdAt w' b rd/\Kept [b] w w'
theorem tH{l:List (List UInt8)}{r':Wire.Rd}(b:Nat)(r:Wire.Rd)(hq:Wire.texts r=(l,r'))(w:World)(h:RdAt w b r)(hE:Env w)(hs:Fits r) :
  Calls prog 130 #[.pointer (some ⟨b,0,none⟩)] w (zT b l r' w) :=
 (mR b r hq w h hE hs).mono fun e w' ⟨v,h1,h2,h3,h4⟩=>by
  obtain⟨a,c,rfl⟩:=eW h2 (by decide);exact⟨a,c,h1,h2,h3,h4⟩
def TextP(b:Nat)(l:List UInt8)(rd:Wire.Rd)(w:World)(e:Ending)(w':World):Prop:=e=.returned l/\RdAt w' b rd/\Kept [b] w w'
def zm(x:Bool)(w:World)(e:Ending)(w':World):Prop:=e=.returned x/\Kept [] w w'
def zS(b g:Nat)(t1 t2 t3 t4 t5 t6:Int)(r:Tp)(w:World)(e:Ending)(w':World):Prop:=e=.returned (.agg #[t1,t2,t3,t4,t5,t6])/\TpAt 174 w' b g r/\Kept [b] w w'
theorem eV{w:World}{B:Nat}{e:TypeId}{size n:Nat}{v:Value}{xs:List Value}(h:w.ownsRow B e size v n xs)(hs:0 < size):n<=9223372036854775807:=by
 rcases h.2 with⟨_,h4⟩|⟨g,cap,cur,_,_,_,h1,h2,_⟩
 ·have h5:=h.1;rw[h4]at h5
  rcases Nat.eq_zero_or_pos n with h|h
  ·omega
  ·have:=Nat.mul_pos h hs;simp at h5;omega
 ·unfold maxLen at h2
  omega
theorem bL(w:World):RecV w (.agg aQ) gL := ⟨_,_,_,_,_,_,_,_,_,rfl,ag.nil_ _ _ _,ag.nil_ _ _ _,ag.nil_ _ _ _,gK w,gK w,ag.nil_ _ _ _,gK w,ag.nil_ _ _ _,ag.nil_ _ _ _⟩
theorem pK{s tx:List UInt8}{ts:List (List UInt8)}{ns:List Int}{rd1 rd2 rd3:Wire.Rd}{p:Pf}{ok:Bool}(h1:Wire.texts ⟨s,false⟩=(ts,rd1))(h2:Wire.nums rd1=(ns,rd2))(h3:Wire.text rd2=(tx,rd3))(h4:cG tx=(p,ok)) :
  cS s=jK ts ns rd3 (p,ok):=by
 unfold cS
 rw[h1]
 simp only
 rw[h2]
 simp only
 rw[h3]
 simp only
 rw[h4]
theorem vY{r r1 r2 r3 r4 r5 r6 r7:Tp}{tk:List Tick}{sp:List Spnd}{lk:List (List Lnk)}{cm ch es:List Int}{bt:List (List Int)}(h1:many tick r=(tk,r1))(h2:many spnd r1=(sp,r2))(h3:many (many lnk) r2=(lk,r3))(h4:list r3=(cm,r4))(h5:list r4=(ch,r5))(h6:many list r5=(bt,r6))(h7:list r6=(es,r7)) :
  eG r=((tk,sp,lk,cm,ch,bt,es),r7):=by
 simp only[eG,both,h1,h2,h3,h4,h5,h6,h7]
end Go.Proofs.YtcidfldeiklcjaaGreatDoor
