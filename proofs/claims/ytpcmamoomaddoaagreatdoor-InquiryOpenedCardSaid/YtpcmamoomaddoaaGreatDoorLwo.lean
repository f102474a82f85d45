import Derived.Test.YtpcmamoomaddoaaGreatDoorLes
set_option maxRecDepth 100000
set_option maxHeartbeats 32000000
namespace Go.Proofs.YtpcmamoomaddoaaGreatDoor
open Go.RowKit
open Go.Proofs.Tryz
open Lib(hid)
theorem opened_walk{B:Nat}{w:World}{vk vl vi vs:Value}{ks:List Pss}{log:List Int}{is:List Iss}{ss:List Sgt}{wh:Int}
  (hE:EnvB B w) (hks:aj PssR 4 w vk ks) (hlog:Row w 1 vl log.length (ints log)) (his:aj IssR 7 w vi is) (hwf:∀x∈is,∀a∈x.attrs,(Lit.int .i64 a).wf=true) (hss:aj SgtR 18 w vs ss) (hwh:(Lit.int .u8 wh).wf=true)
  (hsane:Calls prog 7 #[] w fun e w'=>e=.returned (.bool true)/\Kept [] w w') :
  Calls prog 6 #[vk,vl,vi,vs,.int .u8 wh] w fun e w'=>e=.returned (.bool true)/\Kept [] w w':=by
 have G:=fun(w':World) (k:Kept [] w w')=>ji (aj.kept (w':=w') hks (fun _ _ h=>PssR.kept h k) k);have E:=fun(w':World) (k:Kept [] w w')=>gw 12 (by decide) (aj.kept (w':=w') his (fun _ _ h=>IssR.kept h k) k);have D:=fun(w':World) (k:Kept [] w w')=>gv 6 (by decide) (aj.kept (w':=w') hss (fun _ _ h=>SgtR.kept h k) k)
 have ek:0<=wh/\wh<=255:=by
  have h1:(decide (IntKind.u8.min<=wh)&&decide (wh<=IntKind.u8.max))=true:=hwh;rw[Bool.and_eq_true,decide_eq_true_eq,decide_eq_true_eq]at h1;exact h1
 obtain⟨gp,gm,rfl,cp,_⟩:=aj.form hks;obtain⟨ga,g5,rfl,co,_⟩:=hlog.form;obtain⟨ia,ic,rfl,cu,en⟩:=aj.form his;obtain⟨sa,sc,rfl,cl,el⟩:=aj.form hss;obtain⟨b1,c7⟩:∃b,eb ks=b:=⟨_,rfl⟩;obtain⟨b2,c6⟩:∃b,cP is 12=b:=⟨_,rfl⟩;obtain⟨b3,c5⟩:∃b,cO ss 6=b:=⟨_,rfl⟩;rw[c7]at G;rw[c6]at E;rw[c5]at D;obtain⟨kn,bv⟩:∃n,ks.length=n:=⟨_,rfl⟩;obtain⟨gn,c1⟩:∃n,log.length=n:=⟨_,rfl⟩;obtain⟨iN,bx⟩:∃n,is.length=n:=⟨_,rfl⟩;obtain⟨J,bk⟩:∃n,ss.length=n:=⟨_,rfl⟩;rw[bv]at G hks cp ⊢;rw[c1]at hlog co ⊢;rw[bx]at E his cu en ⊢;rw[bk]at D hss cl el ⊢;have FK:=hid G;have FI:=hid E;have FZ:=hid D;have g0:=hid hks;have g1:=hid his;have ca:=hid hss;have e3:=hid hlog;have Z:=hid hsane;have HE:=hid hE;have f4:=hid hwf;have eg:=hid c7;have e9:=hid c6;have e8:=hid c5;have h3:=hid bv;have e6:=hid c1;have h4:=hid bx;have t:=hid bk;clear G E D hks his hss hlog hsane hE hwf c7 c6 c5 bv c1 bx bk hwh
 go_enter func6,ntmps6
 go_upto_region 2 with(go_at_call 7;refine Z.out.mono ?_;rintro e w5 ⟨rfl,k5⟩);have m:=hid k5;clear Z k5
 cases b1 with
 |false =>
  go_wp2_with (go_at_call 8;refine(FK.out _ m.out).mono ?_;rintro e N ⟨rfl,A⟩);go_ret;exact⟨rfl,m.out.trans A⟩
 |true =>
 by_cases hg18:18 < gn
 ·have hg18':(18:Int) < (gn:Int):=by omega
  go_wp2_with (go_at_call 8;refine(FK.out _ m.out).mono ?_;rintro e N ⟨rfl,A⟩);go_ret;exact⟨rfl,m.out.trans A⟩
 have hg18':¬(18:Int) < (gn:Int):=by omega
 cases b2 with
 |false =>
  go_wp2_with (first
   |(go_at_call 8;refine(FK.out _ m.out).mono ?_;rintro e N ⟨rfl,A⟩;have o:=m.out.trans A)
   |(go_at_call 9;refine(FI.out _ o).mono ?_;rintro e w7 ⟨rfl,L⟩))
  go_ret;exact⟨rfl,o.trans L⟩
 |true =>
 cases b3 with
 |false =>
  go_wp2_with (first
   |(go_at_call 8;refine(FK.out _ m.out).mono ?_;rintro e N ⟨rfl,A⟩;have o:=m.out.trans A)
   |(go_at_call 9;refine(FI.out _ o).mono ?_;rintro e w7 ⟨rfl,L⟩;have C:=o.trans L)
   |(go_at_call 10;refine(FZ.out _ C).mono ?_;rintro e w8 ⟨rfl,k8⟩))
  go_ret;exact⟨rfl,C.trans k8⟩
 |true =>
 by_cases hz0:J=0
 ·subst hz0
  go_wp2_with (first
   |(go_at_call 8;refine(FK.out _ m.out).mono ?_;rintro e N ⟨rfl,A⟩;have o:=m.out.trans A)
   |(go_at_call 9;refine(FI.out _ o).mono ?_;rintro e w7 ⟨rfl,L⟩;have C:=o.trans L)
   |(go_at_call 10;refine(FZ.out _ C).mono ?_;rintro e w8 ⟨rfl,k8⟩))
  go_ret;exact⟨rfl,C.trans k8⟩
 have hz0':((J:Int)==0)=false:=by simp;omega
 go_upto_region 4 with(first
  |(go_at_call 8;refine(FK.out _ m.out).mono ?_;rintro e N ⟨rfl,A⟩;have o:=m.out.trans A)
  |(go_at_call 9;refine(FI.out _ o).mono ?_;rintro e w7 ⟨rfl,L⟩;have C:=o.trans L)
  |(go_at_call 10;refine(FZ.out _ C).mono ?_;rintro e w8 ⟨rfl,k8⟩;have O:=C.trans k8))
 have G:=rA eg.out;have E:=rC e9.out;have D:=rz e8.out;have X:=fun(w':World) (k:Kept [] w w') (v:Value) (s2:List Sgt) (hs2:aj SgtR 18 w' v s2) (hq:∀x∈s2,x.q.length<=300) (hl:s2.length<=6)=>fN (HE.out.kept0 k) (aj.kept (w':=w') g0.out (fun _ _ h=>PssR.kept h k) k) G (by rw[e6.out];exact e3.out.kept k) (aj.kept (w':=w') g1.out (fun _ _ h=>IssR.kept h k) k) (fun x P=>⟨f4.out x P,by have:=E.2 x P;omega⟩) hs2 (fun x P=>by have:=hq x P;omega) (by have:=e6.out;omega) (by have:=E.1;omega) (by omega);have f:=X w8 O _ ss (aj.kept (w':=w8) ca.out (fun _ _ h=>SgtR.kept h O) O) D.2 D.1;have e5:=hid O;have e7:=hid E;have a9:=hid D;have aq:=hid X;clear o C O A L k8 G E D X eg e9 e8 FK FI FZ m
 cases hR:accountB ks log is ss with
 |error c =>
  have hc:=jm hR;rw[hR]at f;have M:=hid f;clear f hR aq;go_upto_region 5 with(go_at_call 18;refine M.out.mono ?_;rintro e w9 ⟨k9,he⟩;have he:e=.returned (.tuple #[.agg #[.slice none 0 0,.slice none 0 0,.slice none 0 0],.slice none 0 0,.int .i64 c]):=he;subst he);go_wp2_with fail;go_ret;exact⟨rfl,(e5.out.trans k9).alloc _⟩
 |ok r =>
  obtain⟨c,ns⟩:=r;have dn:=hid (ef hR (by have:=e7.out.1;omega));have HR:=hid hR;rw[hR]at f;have M:=hid f;clear f hR;obtain⟨qs,ms,us⟩:=c;go_upto_region 5 with(go_at_call 18;refine M.out.mono ?_;rintro e w9 ⟨k9,cs,vn,rfl,⟨vq,vm,vu,rfl,hq,hm,hu⟩,hn⟩;obtain⟨qa,qc,rfl,_,_⟩:=aj.form hq;obtain⟨ma,mc,rfl,_,_⟩:=aj.form hm;obtain⟨ua,uc,rfl,_,_⟩:=aj.form hu;obtain⟨na,nc,rfl,_,_⟩:=hn.form);obtain⟨nq,bq⟩:∃n,qs.length=n:=⟨_,rfl⟩;obtain⟨nm,br⟩:∃n,ms.length=n:=⟨_,rfl⟩;obtain⟨nu,bp⟩:∃n,us.length=n:=⟨_,rfl⟩;obtain⟨nn,a4⟩:∃n,ns.length=n:=⟨_,rfl⟩
  have d3:CrR w9 [.slice qa nq qc,.slice ma nm mc,.slice ua nu uc] ⟨qs,ms,us⟩:=by subst bq br bp;exact⟨_,_,_,rfl,hq,hm,hu⟩
  (try dsimp only)
  rw[bq,br,bp,a4];obtain⟨gb,c3⟩:∃y,w9.heap.size=y:=⟨_,rfl⟩;obtain⟨wA,a3⟩:∃y,w9.alloc (.cells #[.slice qa nq qc,.slice ma nm mc,.slice ua nu uc] 67)=y:=⟨_,rfl⟩;have kA:Kept [] w9 wA:=a3▸(Kept.refl _ _).alloc _
  have U:Blk wA gb 67 #[.slice qa nq qc,.slice ma nm mc,.slice ua nu uc]:=by rw[<-a3,<-c3];exact Blk.new _ _ _
  rw[a3,c3];have KA:=hid ((e5.out.trans k9).trans kA);have bo:=dx (d3.kept kA) dn.out (HE.out.kept0 KA.out) (hn.kept kA);rw[a4,t.out]at bo;have dc:=hid bo;have h5:=hid U;have ds:=hid a4;have C0:=hid (Kept.cellOf (U.cell 0));have C1:=hid (Kept.cellOf (U.cell 1));have C2:=hid (Kept.cellOf (U.cell 2));have d7:Hid (∀u,(posN ⟨qs,ms,us⟩ ns u).length<=64):=hid fun u=>fy dn.out.valid
  obtain⟨kx,gr,g4⟩:∃k:Nat,wh.tmod (J:Int)=(k:Int)/\k < J:=by
   have h1:0<=wh.tmod (J:Int):=Int.tmod_nonneg _ ek.1;have h2:wh.tmod (J:Int) < (J:Int):=Int.tmod_lt_of_pos _ (by omega);exact⟨(wh.tmod (J:Int)).toNat,by omega,by omega⟩
  have g3:¬((J:Int)=0):=by omega
  clear hq hm hu hn U kA a3 c3 k9 bq br bp a4 d3 bo M;go_wp2_with fail
  go_loopw [16] (fun v wr=>∃i:Nat,i<=J/\v=.int .i64 i/\Kept [] wA wr) (fun v _=>J - (intOf v).toNat)
  case atStart=>exact⟨0,Nat.zero_le _,rfl,Kept.refl _ _⟩
  case round =>
   obtain⟨i,hi,rfl,F⟩:=hrel;have I:=hid F;have d0:=C0.out _ F;have d1:=C1.out _ F;have d2:=C2.out _ F
   by_cases hlt:i < J
   ·have hlt':(i:Int) < (J:Int):=by omega
    obtain⟨sb,so,rfl,ad⟩:=ca.out.at_ (by have:=t.out;omega);obtain⟨x,P⟩:∃x,ss[i]?=some x:=⟨_,List.getElem?_eq_getElem (by have:=t.out;omega)⟩;obtain⟨cx,q1,q2,q3⟩:=ad i x P;obtain⟨hd,a5⟩:∃h,x.holder=h:=⟨_,rfl⟩
    have y0:w.cell? ⟨sb,so+i*18+17,none⟩=some (.int .i64 hd):=by
     obtain⟨ge,vp,vr,da,qu,ju,k0,k1,vl,k3,k4,k5,A,L,k8,rfl,_⟩:=q2;exact a5▸q3 17 _ (by decide) rfl
    have Y0:=hid (Kept.cellOf y0);have fn:=hid (dc.out wr F i hlt);have cm:hd≠0->subB (posN ⟨qs,ms,us⟩ ns i) [hd]=true:=fun h0=>a5▸nT HR.out P (a5▸h0);have fs:=hid cm;clear ad q1 q2 q3 y0 F P a5 cm;go_upto_region 12 with(go_at_call 23;refine fn.out.mono ?_;rintro e N ⟨A,v6,rfl,o6⟩);have y1:=Y0.out N ((KA.out.trans I.out).trans A);have R6:=hid (Row.of_own o6 (by have:=d7.out i;omega));obtain⟨pa,pc,rfl,_,_⟩:=R6.out.form;have K6:=hid A;clear d0 d1 d2 o6 A
    by_cases h0:hd=0
    ·subst h0;go_wp2_with fail
     go_roundw
     case rel=>exact⟨i+1,by omega,by go_num,I.out.trans K6.out⟩
     case measure=>simp[intOf];omega
    ·have h0':(hd==0)=false:=by simpa using h0
     obtain⟨wB,a1⟩:∃y,N.alloc (.cells #[.int .i64 hd] 3)=y:=⟨_,rfl⟩;have kB:Kept [] N wB:=a1▸(Kept.refl _ _).alloc _;have rB:Row wB 1 (.slice (some ⟨N.heap.size,0,none⟩) 1 1) 1 (ints [hd]):=a1▸Row.lit N [hd] (by simp);have bb:=bP (R6.out.kept kB) rB;rw[fs.out h0]at bb;have f3:=hid bb;have KB:=hid kB;have f5:=hid a1;clear bb kB rB a1;go_wp2_with (go_at_call 24;rw[f5.out];refine f3.out.mono ?_;rintro e w7 ⟨rfl,L⟩)
     go_roundw
     case rel=>exact⟨i+1,by omega,by go_num,((I.out.trans K6.out).trans KB.out).trans L⟩
     case measure=>simp[intOf];omega
   ·obtain rfl:i=J:=by omega
    obtain⟨wF,cb⟩:∃y,wr=y:=⟨_,rfl⟩;rw[cb]at I ⊢;obtain⟨x,P⟩:∃x,ss[kx]?=some x:=⟨_,List.getElem?_eq_getElem (by have:=t.out;omega)⟩;obtain⟨eh,bd,ci,bc,cc⟩:=ca.out;have KF:=hid (KA.out.trans I.out);have f6:=hid (cc.kept KF.out);have f9:=hid bd;have f8:=hid ci;have f7:=hid bc;have fv:=hid (mP bd bc (fun _ _ h=>iK h));have HX:=hid P;obtain⟨ip,cq,ac,ab,aa⟩:=info_parts rj;clear bd ci bc cc P F d0 d1 d2 cb
    have gt:i<=6:=by have:=a9.out.1;have:=t.out;omega
    go_upto_region 15 with(first
     |(at_builtin;refine aH rfl _ _ 25 rfl wF.heap.size 61 ip _ 18 328 underlying25 cq ac ab aa rfl (by decide) (.slice (some ⟨wF.heap.size,0,none⟩) 0 0) 0 [] rfl (dM wF _ 18) _ i eh.flatten rfl (by have:=f6.out;rw[t.out]at this;exact this.kept ((Kept.refl _ _).alloc _)) fv.out (by unfold maxLen;omega) (by omega) (by rw[World.size_alloc];omega) ?_;intro a2 c2 w2 o2 k2 h2)
     |go_in)
    rw[Nat.zero_add,List.nil_append]at o2;have ba:Kept [] wF w2:=((Kept.refl [] wF).alloc _).fresh k2 (fun z hz=>by have:=aA (dM wF 61 18) z hz;omega);obtain⟨g,gc,cv,cy,fz,ev,kS,rS⟩:=uS f9.out f8.out f7.out (by rw[t.out];exact o2) KF.out.size (KF.out.trans ba) HX.out (by have:=t.out;omega);rw[t.out]at cv;injection cv with hga _ hgc;subst hga hgc;have RS:=hid rS;have KS:=hid kS;have GB:Hid (wF.heap.size<=g):=hid cy;have f1:=hid ba
    have gs:(kx:Int) < (i:Int):=by omega
    clear rS kS o2 k2 h2 ba cy cq ac ab aa;go_upto_region 16 with(fail);obtain⟨V,hV⟩:∃y,w2.setCell ⟨g,kx*18+17,none⟩ (.int .i64 0)=y:=⟨_,rfl⟩;rw[hV];have c8:=RS.out;have a7:=KS.out
    have eq:wA.heap.size<=g:=by have:=I.out.size;have:=GB.out;omega
    have d4:Kept [] wA V:=by
     rw[<-hV];exact(I.out.trans f1.out).setCell (p:=⟨g,kx*18+17,none⟩) (Or.inr eq) _
    rw[hV]at c8 a7;obtain⟨d,c4,es,er,cz⟩:=qe HR.out HX.out
    have Y:=aq.out V a7 (.slice (some ⟨g,0,none⟩) i c2) (ss.set kx (cM x 0)) c8 (fun y hy=>by
     rcases List.mem_or_eq_of_mem_set hy with h|rfl
     ·exact a9.out.2 y h
     ·exact a9.out.2 x (List.mem_of_getElem? HX.out)) (by rw[List.length_set];exact a9.out.1)
    have af:=ef c4 (by have:=e7.out.1;omega);rw[c4]at Y;obtain⟨dq,dm,du⟩:=d;have ap:=hid Y;have ao:=hid af;have g2:=hid cz;have f2:=hid d4;have KV:=hid a7;clear Y af c4 es er cz c8 a7 d4 hV ev fz;go_upto_region 17 with(go_at_call 18;refine ap.out.mono ?_;rintro e wG ⟨kG,gx,g8,rfl,⟨g7,g9,g6,rfl,bl,bt,be⟩,bs⟩;obtain⟨b4,b0,rfl,_,_⟩:=aj.form bl;obtain⟨b9,b8,rfl,_,_⟩:=aj.form bt;obtain⟨av,au,rfl,_,_⟩:=aj.form be;obtain⟨gl,gf,rfl,_,_⟩:=bs.form);obtain⟨b6,R⟩:∃n,dq.length=n:=⟨_,rfl⟩;obtain⟨b7,T⟩:∃n,dm.length=n:=⟨_,rfl⟩;obtain⟨b5,Q⟩:∃n,du.length=n:=⟨_,rfl⟩
    have ag:CrR wG [.slice b4 b6 b0,.slice b9 b7 b8,.slice av b5 au] ⟨dq,dm,du⟩:=by subst R T Q;exact⟨_,_,_,rfl,bl,bt,be⟩
    (try dsimp only)
    rw[R,T,Q,ds.out];obtain⟨hb,c0⟩:∃y,wG.heap.size=y:=⟨_,rfl⟩;obtain⟨wH,a0⟩:∃y,wG.alloc (.cells #[.slice b4 b6 b0,.slice b9 b7 b8,.slice av b5 au] 67)=y:=⟨_,rfl⟩;have kH:Kept [] wG wH:=a0▸(Kept.refl _ _).alloc _
    have a6:Blk wH hb 67 #[.slice b4 b6 b0,.slice b9 b7 b8,.slice av b5 au]:=by rw[<-a0,<-c0];exact Blk.new _ _ _
    rw[a0,c0];have a8:=hid ((f2.out.trans kG).trans kH);have d5:=hid ((KV.out.trans kG).trans kH);have bn:=dx (ag.kept kH) ao.out (HE.out.kept0 d5.out) (bs.kept kH);rw[ds.out,List.length_set,t.out]at bn;have fr:=hid bn;have E0:=hid (Kept.cellOf (a6.cell 0));have E1:=hid (Kept.cellOf (a6.cell 1));have E2:=hid (Kept.cellOf (a6.cell 2));clear bl bt be bs a6 kH a0 c0 kG R T Q ag bn ap;go_wp2_with fail
    go_loopw [22] (fun v wr=>∃j:Nat,j<=i/\v=.int .i64 j/\Kept [] wH wr) (fun v _=>i - (intOf v).toNat)
    case atStart=>exact⟨0,Nat.zero_le _,rfl,Kept.refl _ _⟩
    case round =>
     obtain⟨j,hj,rfl,s⟩:=hrel;have e4:=hid s
     by_cases hlt2:j < i
     ·have hlt2':(j:Int) < (i:Int):=by omega
      have d0:=fun w' (k:Kept [] wr w')=>C0.out w' (a8.out.trans (s.trans k));have d1:=fun w' (k:Kept [] wr w')=>C1.out w' (a8.out.trans (s.trans k));have d2:=fun w' (k:Kept [] wr w')=>C2.out w' (a8.out.trans (s.trans k));have e0:=fun w' (k:Kept [] wr w')=>E0.out w' (s.trans k);have e1:=fun w' (k:Kept [] wr w')=>E1.out w' (s.trans k);have e2:=fun w' (k:Kept [] wr w')=>E2.out w' (s.trans k);have d9:=hid (fun w' (k:Kept [] wr w')=>dc.out w' (a8.out.trans (s.trans k)) j hlt2);have d8:=hid (fun w' (k:Kept [] wr w')=>fr.out w' (s.trans k) j hlt2);have d6:=hid (g2.out j (by have:=t.out;omega));have an:Hid ((posN ⟨qs,ms,us⟩ ns j).length<=64/\(posN ⟨dq,dm,du⟩ ns j).length<=64):=hid ⟨d7.out j,fy ao.out.valid⟩;clear s;go_upto_region 22 with(fail);refine ar [] (fun w'=>Kept [] wr w') (by kernel_rfl) (Kept.refl _ _).drew (fun hH=>?_);refine ah [] (i:=0) (v:=?tv0p) rfl (by kernel_rfl) (by kernel_rfl) (by kernel_rfl) (by kernel_rfl) (fun _ _ _ h=>h) (Or.inl ⟨by rfl,?ty0p⟩) hH ?tr0p
      case ty0p=>intro w' l;(try dsimp only at l);go_simp;first|done|with_reducible rfl
      (try simp only[Act.put,List.setIfInBounds_toArray,List.set_cons_zero,List.set_cons_succ])
      refine ah [] (i:=1) (v:=?tv1p) rfl (by kernel_rfl) (by kernel_rfl) (by kernel_rfl) (by kernel_rfl) (fun _ _ _ h=>h) (Or.inl ⟨by rfl,?ty1p⟩) hH ?tr1p
      case ty1p=>intro w' l;(try dsimp only at l);go_simp;first|done|with_reducible rfl
      (try simp only[Act.put,List.setIfInBounds_toArray,List.set_cons_zero,List.set_cons_succ])
      refine ah [] (i:=2) (v:=?tv2p) rfl (by kernel_rfl) (by kernel_rfl) (by kernel_rfl) (by kernel_rfl) (fun _ _ _ h=>h) (Or.inl ⟨by rfl,?ty2p⟩) hH ?tr2p
      case ty2p=>intro w' l;(try dsimp only at l);go_simp;first|done|with_reducible rfl
      (try simp only[Act.put,List.setIfInBounds_toArray,List.set_cons_zero,List.set_cons_succ])
      refine ah [] (i:=4) (v:=?tv4p) rfl (by kernel_rfl) (by kernel_rfl) (by kernel_rfl) (by kernel_rfl) (fun _ _ _ h=>h) (Or.inl ⟨by rfl,?ty4p⟩) hH ?tr4p
      case ty4p=>intro w' l;(try dsimp only at l);go_simp;first|done|with_reducible rfl
      (try simp only[Act.put,List.setIfInBounds_toArray,List.set_cons_zero,List.set_cons_succ])
      refine ah [] (i:=5) (v:=?tv5p) rfl (by kernel_rfl) (by kernel_rfl) (by kernel_rfl) (by kernel_rfl) (fun _ _ _ h=>h) (Or.inl ⟨by rfl,?ty5p⟩) hH ?tr5p
      case ty5p=>intro w' l;(try dsimp only at l);go_simp;first|done|with_reducible rfl
      (try simp only[Act.put,List.setIfInBounds_toArray,List.set_cons_zero,List.set_cons_succ])
      refine ah [] (i:=6) (v:=?tv6p) rfl (by kernel_rfl) (by kernel_rfl) (by kernel_rfl) (by kernel_rfl) (fun _ _ _ h=>h) (Or.inl ⟨by rfl,?ty6p⟩) hH ?tr6p
      case ty6p=>intro w' l;(try dsimp only at l);go_simp;first|done|with_reducible rfl
      (try simp only[Act.put,List.setIfInBounds_toArray,List.set_cons_zero,List.set_cons_succ])
      refine ai (rs:=[3]) (by kernel_rfl) (by simp) ?_;refine ae.cons rfl (fun K hK=>?_) ae.nil;go_simp;refine(d9.out _ hH).mono ?_;rintro e N ⟨A,v6,rfl,o6⟩;have f0:=hH.trans A;have R6:=Row.of_own o6 (by have:=an.out;omega);refine hK.out _ _ f0 (fun hH=>?_);clear hK K
      (try simp only[Act.put,List.setIfInBounds_toArray,List.set_cons_zero,List.set_cons_succ])
      refine ai (rs:=[7]) (by kernel_rfl) (by simp) ?_;refine ae.cons rfl (fun K hK=>?_) ae.nil;go_simp;refine(d8.out _ hH).mono ?_;rintro e w7 ⟨L,v7,rfl,o7⟩;have ey:=hH.trans L;have R7:=Row.of_own o7 (by have:=an.out;omega);have R6':=R6.kept L;refine hK.out _ _ ey (fun hH=>?_);clear hK K
      (try simp only[Act.put,List.setIfInBounds_toArray,List.set_cons_zero,List.set_cons_succ])
      refine ai (rs:=[8]) (by kernel_rfl) (by simp) ?_;refine ae.cons rfl (fun K hK=>?_) ae.nil;have c9:=bP (w:=w7) R6' R7;rw[d6.out]at c9;go_simp;refine c9.mono ?_;rintro e w8 ⟨rfl,k8⟩;have ex:=hH.trans k8;refine hK.out _ _ ex (fun hH=>?_);clear hK K c9
      (try simp only[Act.put,List.setIfInBounds_toArray,List.set_cons_zero,List.set_cons_succ])
      refine ah [] (i:=9) (v:=?tv9a) rfl (by kernel_rfl) (by kernel_rfl) (by kernel_rfl) (by kernel_rfl) (fun _ _ _ h=>h) (Or.inl ⟨by rfl,?ty9a⟩) hH ?tr9a
      case ty9a=>intro w' l;(try dsimp only at l);go_simp;first|done|with_reducible rfl
      (try simp only[Act.put,List.setIfInBounds_toArray,List.set_cons_zero,List.set_cons_succ])
      refine ak (by kernel_rfl) ?_ _;go_wp2_with fail
      go_roundw
      case rel=>exact⟨j+1,by omega,by go_num,e4.out.trans hH⟩
      case measure=>simp[intOf];omega
     ·obtain rfl:j=i:=by omega
      clear s;go_wp2_with fail;go_ret;exact⟨rfl,d5.out.trans e4.out⟩
end Go.Proofs.YtpcmamoomaddoaaGreatDoor
