import Derived.Test.YtcidfldeiklcjaaGreatDoorDecT
import Derived.Test.YtcidfldeiklcjaaGreatDoorDeL
set_option maxRecDepth 100000
set_option maxHeartbeats 32000000
namespace Go.Proofs.YtcidfldeiklcjaaGreatDoor
open Go.RowKit Tape
open Go.Proofs.Tryz
open Lib(hid)
theorem yI(s:List UInt8)(w:World)(hE:Env w)(hs:s.length<=100000000) :
  Calls prog 83 #[s] w (se (cS s) w):=by
 obtain⟨ts,eb,eq⟩:∃ts rd,Wire.texts ⟨s,false⟩=(ts,rd):=⟨_,_,rfl⟩;obtain⟨ns,ea,di⟩:∃ns rd,Wire.nums eb=(ns,rd):=⟨_,_,rfl⟩;obtain⟨tx,e9,en⟩:∃tx rd,Wire.text ea=(tx,rd):=⟨_,_,rfl⟩;obtain⟨p,ok,hp⟩:∃p ok,cG tx=(p,ok):=⟨_,_,rfl⟩;have nb:=hid (pK eq di en hp);have g5:Fits ⟨s,false⟩:=hs;have e0:Fits eb:=eo eq g5;have g0:Fits ea:=ce di e0
 have oi:ns.length<=100000001:=by have:=dt eb e0;rw[di]at this;exact this
 have o6:tx.length<=100000000:=by have:=(eN g0).2;rw[en]at this;exact this
 obtain⟨W,hW⟩:=nm (w.alloc (.cells aQ 135));have lp:=bn hW;have i3:=ka (S:=[]) hW
 have jm:w.heap.size < W.heap.size:=by rw[<-hW];simp
 have rl:0 < w.heap.size:=by have:=hE.size;have:0 < NG:=(by decide);omega
 have ir:=hid (hE.kept0 i3);have HO:=hid (ow s W ir);have HW:=hid hW;have m8:=hid eq;have mc:=hid di;have m7:=hid en;have mb:=hid hp;clear eq di en hp hW hE
 go_enter func83,ntmps83
 go_upto_region 1 with(fail);rw[show w.alloc (.cells #[(),(),(),(),(),(),(),(),()] 135)=W from HW.out];go_wp2_with (go_at_call 124;refine HO.mono ?_)
 first|rintro e w1 rfl P k1|rintro e w1 ⟨rfl,P,k1⟩
 have E1:=hid (ir.kept0 k1);have HT:=hid (tH W.heap.size ⟨s,false⟩ m8 w1 P E1.out g5);have K1:=hid (i3.trans k1);have hk:=k1.size;have lx:=P.2.lt;have B1:=hid (lp.kept k1 (by simp))
 generalize f1:W.heap.size=rb at HT hk lx jm ⊢
 clear P k1 HO lp ir m8 i3 HW f1;go_upto_region 2 with(fail);go_wp2_with (go_at_call 130;refine HT.mono ?_);rintro e w2 ⟨at_,ct,rfl,d3,Q,k2⟩;have E2:=hid (E1.out.kept k2 (by intro z d;obtain rfl:=ms d;exact Q.1));have HN:=hid (pN rb eb mc w2 Q E2.out e0);have K2:=hid (K1.out.fresh k2 (by simp;omega));have B2:=hid (B1.out.kept k2 (by simp;omega));have kn:=k2.size;have ih:=hid d3;have m9:=hid (ak d3);clear Q k2 HT K1 B1 E1 mc d3;go_upto_region 3 with(fail);go_wp2_with (go_at_call 125;refine HN.mono ?_);rintro e w3 ⟨av,cv,rfl,fr,h3,k3⟩;have E3:=hid (E2.out.kept k3 (by intro z d;obtain rfl:=ms d;exact h3.1));have K3:=hid (K2.out.fresh k3 (by simp;omega));have B3:=hid (B2.out.kept k3 (by simp;omega));have eu:=k3.size;have m2:=hid (af ih.out k3 (fun z d hm=>by have:=ak ih.out z d;rw[List.mem_singleton]at hm;omega));obtain⟨g,fs,hg⟩:=Src.of_own fr (by omega);have lc:g=0\/w2.heap.size<=g/\g < w3.heap.size:=hg;have ma:=hid fs;have H3:=hid h3;clear h3 k3 HN K2 B2 E2 ih fr fs hg;go_upto_region 4 with(fail);obtain⟨w4,d9⟩:=nm (w3.alloc (.cells #[.slice av ns.length cv,.bool false] 174));have bm:Kept [] w3 w4:=d9▸kr.alloc _
 have kf:w3.heap.size < w4.heap.size:=by rw[<-d9];simp
 have T4:Hid (TpAt 174 w4 w3.heap.size g ⟨ns,false⟩):=⟨⟨av,cv,d9▸Blk.new _ _ _,ma.out.keep bm (by simp)⟩,by omega⟩;have K4:=hid (K3.trans bm);have B4:=hid (B3.out.kept bm (by simp));have E4:=hid (E3.out.kept0 bm);have ig:=hid (af m2.out bm (by simp));have h4:RdAt w4 rb ea:=⟨H3.out.1,H3.out.2.kept bm (by simp)⟩;have HX:=hid (ly rb ea m7 w4 h4 E4.out g0);rw[d9]
 generalize hb:w3.heap.size=b at T4 kf lc eu ⊢
 clear d9 bm K3 B3 E3 m2 h4 H3 ma m7 hb;go_wp2_with (go_at_call 126;refine HX.mono ?_);rintro e w5 ⟨rfl,h5,k5⟩;have E5:=hid (E4.out.kept k5 (by intro z d;obtain rfl:=ms d;exact h5.1));have K5:=hid (K4.out.fresh k5 (by simp;omega));have B5:=hid (B4.out.kept k5 (by simp;omega));have T5:=hid (T4.out.keep k5 (by simp;omega) (by simp;omega));have m1:=hid (af ig.out k5 (fun z d hm=>by have:=ak ig.out z d;rw[List.mem_singleton]at hm;omega));have oc:=k5.size
 have HP:Hid (Calls prog 133 #[tx] w5 (PfDP (p,ok) w5)):=by have:=tN tx w5 E5.out o6;rwa [mb]at this
 have H5:=hid h5;clear h5 k5 HX K4 B4 E4 ig T4 mb;go_wp2_with (go_at_call 133;refine HP.mono ?_);rintro e w6 ⟨ad,cd,aa,ca,rfl,lk,ls,k6⟩;obtain⟨w7,em⟩:=nm (w6.alloc (.cells #[.slice ad p.dares.length cd,.slice aa p.answers.length ca] 133));have bk:Kept [] w6 w7:=em▸kr.alloc _
 have kc:w6.heap.size < w7.heap.size:=by rw[<-em];simp
 have fn:=hid (em▸Blk.new _ _ _);have ke:=k6.size;have K7:=hid (K5.trans (k6.trans bk));have B7:=hid (B5.out.kept (k6.trans bk) (by simp));have T7:=hid (T5.out.keep (k6.trans bk) (by simp) (by simp));have m0:=hid (af m1.out (k6.trans bk) (by simp));have nc:=hid lk;have ni:=hid ls;have HD:Hid (Calls prog 131 #[.pointer (some ⟨rb,0,none⟩)] w7 (zm (done e9) w7)):=oy rb e9 w7 ⟨H5.out.1,H5.out.2.kept (k6.trans bk) (by simp)⟩;have fz:=hid bk;go_upto_region 5 with(fail)
 generalize l5:w6.heap.size=pb at fn kc ke ⊢
 have l4:=hid l5;clear lk ls bk em k6 K5 B5 T5 m1 H5 E5 HP l5
 generalize i5:done e9=dn at HD
 have i4:Hid (cS s=jK ts ns e9 (p,ok)):=nb.out
 have C:Hid ((dn&&ok)=false->cS s=(gL,false)):=fun h=>by
  rw[i4.out];unfold jK;rw[if_neg (by rw[i5];simp only[Bool.and_eq_true];intro Q;rw[Q.1.1.1,Q.1.1.2]at h;cases h)]
 have f2:Hid (dn=true->ok=true->cS s=if ended (eG ⟨ns,false⟩).2&&decide (total (eG ⟨ns,false⟩).1.2.2.1=ts.length)then(mkR (eG ⟨ns,false⟩).1 ts p,true)else(gL,false)):=fun P Q=>by
  rw[i4.out];unfold jK;rw[i5,P,Q];simp only[Bool.true_and]
 clear i5 nb i4;go_wp2_with (go_at_call 131;refine HD.mono ?_);rintro e w8 ⟨rfl,k8⟩;have B8:=hid (B7.out.kept k8 (by simp));have K8:=hid (K7.trans k8);clear HD
 cases hdd:dn
 ·have HR:=hid (C.out (by rw[hdd];rfl));clear C f2;obtain⟨z0,z1,z2,z3,z4,z5,z6,z7,z8⟩:=bc9 B8.out rfl;obtain⟨y0,y1,y2,y3,y4,y5,y6,y7,y8⟩:=bf9 B8.out;go_wp2_with fail;refine bodyPost_ret (v:=.tuple #[.agg aQ,.bool false]) (by simp[results,results83,go_sem,aQ,z0,z1,z2,z3,z4,z5,z6,z7,z8]) rfl ?_;rw[HR.out];refine⟨_,rfl,bL _,?_⟩
  repeat (refine Kept.setCell ?_ (Or.inr (Nat.le_refl _)) _)
  exact K8
 ·cases hok:ok
  ·have HR:=hid (C.out (by rw[hdd,hok];rfl));clear C f2;obtain⟨z0,z1,z2,z3,z4,z5,z6,z7,z8⟩:=bc9 B8.out rfl;obtain⟨y0,y1,y2,y3,y4,y5,y6,y7,y8⟩:=bf9 B8.out;go_wp2_with fail;refine bodyPost_ret (v:=.tuple #[.agg aQ,.bool false]) (by simp[results,results83,go_sem,aQ,z0,z1,z2,z3,z4,z5,z6,z7,z8]) rfl ?_;rw[HR.out];refine⟨_,rfl,bL _,?_⟩
   repeat (refine Kept.setCell ?_ (Or.inr (Nat.le_refl _)) _)
   exact K8
  ·have e6:=hid (f2.out hdd hok);clear C f2;have j9:=(fn.out.kept k8 (by simp)).cell 0;have j8:=(fn.out.kept k8 (by simp)).cell 1;have T8:=hid (T7.out.keep k8 (by simp) (by simp));have ic:=hid (af m0.out k8 (by simp));have er:=k8.size;have m5:=hid (fz.out.trans k8);clear K7 B7 T7 m0 k8 fn fz;go_upto_region 8 with(fail);obtain⟨w9,d8⟩:=nm (w8.alloc (.cells #[(),(),(),(),(),(),(),.slice ad p.dares.length cd,.slice aa p.answers.length ca] 135));have cy:Kept [] w8 w9:=d8▸kr.alloc _
   have ob:w8.heap.size < w9.heap.size:=by rw[<-d8];simp
   obtain⟨po,ho⟩:=nm w8.heap.size
   have ln:Blk w9 po 135 #[(),(),(),(),(),(),(),.slice ad p.dares.length cd,.slice aa p.answers.length ca]:=by rw[<-ho,<-d8];exact Blk.new _ _ _
   have dl:ae [b,po,w.heap.size] (fun w=>(ag aM 1 w (.slice ad p.dares.length cd) p.dares/\ag bJ 1 w (.slice aa p.answers.length ca) p.answers)/\Row w 1 (.slice at_ ts.length ct) ts.length (strs ts)) w9 :=
    ((nc.out.and ni.out).step (m5.out.trans cy) (by simp) (fun z d=>by
     have h6:=l4.out;simp only[List.mem_cons,List.not_mem_nil,or_false]at d;rw[List.mem_range]
     rcases d with rfl|rfl|rfl <;> omega)).and (ae.row (af ic.out cy (by simp)) (fun z d hm=>by
     have:=m9 z d;simp only[List.mem_cons,List.not_mem_nil,or_false]at hm
     rcases hm with rfl|rfl|rfl <;> omega) (eV ic.out (by decide)))
   obtain⟨F0,ib⟩:∃F:World->Prop,(fun w=>(ag aM 1 w (.slice ad p.dares.length cd) p.dares/\ag bJ 1 w (.slice aa p.answers.length ca) p.answers)/\Row w 1 (.slice at_ ts.length ct) ts.length (strs ts))=F:=⟨_,rfl⟩
   have n9:Hid (∀w,F0 w->(ag aM 1 w (.slice ad p.dares.length cd) p.dares/\ag bJ 1 w (.slice aa p.answers.length ca) p.answers)/\Row w 1 (.slice at_ ts.length ct) ts.length (strs ts)):=fun w h=>by rw[<-ib]at h;exact h
   rw[ib]at dl
   have D9:Hid (De w w9 b g po [b,po,w.heap.size] F0 #[(),(),(),(),(),(),(),.slice ad p.dares.length cd,.slice aa p.answers.length ca] ⟨ns,false⟩) := ⟨T8.out.keep cy (by simp) (by simp),ln,dl,by simp,by simp,by simp,fun z d=>by simp only[List.mem_cons,List.not_mem_nil,or_false]at d;rcases d with rfl|rfl|rfl <;> omega,by omega,by omega,by omega,by omega,by omega,B8.out.kept cy (by simp),K8.out.trans cy⟩
   rw[d8];rw[ho];clear ln dl ib cy d8 ho T8 ic B8 K8 m5 nc ni j9 j8 m9;clear hk lx jm kn eu kf oc ke kc er ob lc;have o4:(⟨ns,false⟩:Tp).left.length<=100000001:=oi;have j0:=hid (cU b g (⟨ns,false⟩:Tp) w9 D9.out.tp);obtain⟨N1,q1,l3⟩:∃N q,count (⟨ns,false⟩:Tp)=(N,q):=⟨_,_,rfl⟩;have cp:=bM (⟨ns,false⟩:Tp);have i1:many tick (⟨ns,false⟩:Tp)=aC tick (count (⟨ns,false⟩:Tp)).1 (count (⟨ns,false⟩:Tp)).2 []:=rfl;rw[l3]at j0 cp i1;replace cp:N1<=q1.left.length/\q1.left.length<=((⟨ns,false⟩:Tp)).left.length:=cp;have ky:q1.left.length<=100000001:=Nat.le_trans cp.2 o4;obtain⟨e2,bx⟩:=nm (aC tick N1 q1 []);have mm:=hid (i1.trans bx);have gc:=hid bx;clear l3 i1 bx;go_wp2_with (go_at_call 134;refine j0.mono ?_);rintro e y1 ⟨rfl,t,kk⟩;have G1:Hid (Dg fG 6 178 0 w y1 b g po y1.heap.size _ F0 #[(),(),(),(),(),(),(),.slice ad p.dares.length cd,.slice aa p.answers.length ca] none 0 0 [] q1):=Dg.start (D9.out.read kk t) rfl;clear t kk j0 D9
   generalize p1:y1.heap.size=B1 at G1
   clear p1;go_wp2_with fail
   go_loopw [38] (fun vi wr=>GRel fG 6 178 0 tick w b g po B1 F0 #[(),(),(),(),(),(),(),.slice ad p.dares.length cd,.slice aa p.answers.length ca] e2 N1 vi wr) (fun vi _=>N1 - (intOf vi).toNat)
   case atStart=>exact⟨N1,q1,[],_,_,_,_,rfl,by simp,gc.out,ky,G1.out⟩
   case round =>
    obtain⟨j,r1,o,X1,a1,n1,c1,rfl,hN,hf,kp,hD⟩:=hrel;have E:=hid hD;have HF:=hid hf;have HN:=hid hN
    have q5:o.length<=N1:=by omega
    clear hD hf G1 gc
    rcases j with _|j
    rotate_left
    ·have i2:o.length < N1:=by have:=HN.out;omega
     obtain⟨⟨t1,Z,Y,X,V,U⟩,r',hone'⟩:∃t r',tick r1=(t,r'):=⟨_,_,rfl⟩;have bd:=hid hone'
     have b5:Hid (∀u,TpAt 174 u b g r1->g≠u.heap.size->Calls prog 135 #[.pointer (some ⟨b,0,none⟩)] u (zf b g (t1,Z,Y,X,V,U) r' u)):=fun u P Q=>by have:=jF b g r1 u P Q;rwa [hone']at this
     have b6:Hid (aC tick j r' (o++[(t1,Z,Y,X,V,U)])=e2):=by show _=_;rw[<-HF.out,bO,hone']
     clear hone';have q0:=E.out.cell (by simp);have qf:=hid E.frozen
     have dk:g≠wr.drew.heap.size:=by have:=E.out.lg;have:=E.out.lB;show g≠wr.heap.size;omega
     have ds:TpAt 174 wr.drew b g r1:=E.out.de.tp.keep (S:=[]) kr.drew (by simp) (by simp)
     have b2:r'.left.length<=100000001:=by have:=dJ.le r1;rw[bd.out]at this;have:r'.left.length<=r1.left.length:=this;omega
     obtain⟨i0,hi,ac,ab,a9⟩:=info_parts wK;go_upto_region 10 with(fail);refine aJ [6,7] (fun w'=>Kept (b::obl (.slice a1 n1 c1)) wr w') (by kernel_rfl) kr.drew (fun hH=>?_);refine tk [1,5,6,7] 0 rfl hH ?_;simp only[Act.put,sA,s0_,s1_];refine tk [5,6,7] 1 rfl hH ?_;simp only[Act.put,sA,s0_,s1_];refine tk [3,4,5,6,7] 2 rfl hH ?_;simp only[Act.put,sA,s0_,s1_];refine YtcidfldeiklcjaaGreatDoor.r1 3 rfl fun K hK=>?_;go_simp;refine(b5 wr.drew ds dk).mono ?_;rintro e y ⟨rfl,d2,kb⟩;have bc:Kept [b] wr y:=(Kept.refl [b] wr).drew.trans kb
     have b3:Kept (b::obl (.slice a1 n1 c1)) wr y:=bc.mono fun z _ d=>by obtain rfl:=ms d;exact List.mem_cons_self
     refine hK.out _ _ b3 (fun hH=>?_);clear hK K
     (try simp only[Act.put,sA,s0_,s1_])
     refine YtcidfldeiklcjaaGreatDoor.r1 4 rfl fun K hK=>?_;go_simp;refine hK.out _ _ (hH.alloc _) (fun hH=>?_);clear hK K
     (try simp only[Act.put,sA,s0_,s1_])
     refine YtcidfldeiklcjaaGreatDoor.r1 5 rfl fun K hK=>?_;refine jg (E.out.read bc d2) rfl _ _ 128 rfl i0 (.agg #[.int .i64 0,.int .i64 0,.int .i64 0,.int .i64 0,.int .i64 0,.int .i64 0]) 48 underlying128 hi ac ab a9 rfl (by decide) (by decide) rfl _ rfl [t1,Z,Y,X,V,U] (t1,Z,Y,X,V,U) (rowS rfl _ _ _ rfl) (kr.alloc _) (ae.const rfl) (by simp[Value.oneCell']) (by omega) ?_;intro p q y2 ks HX;have ah:Kept (b::obl (.slice a1 n1 c1)) wr y2:=b3.trans (ks.mono fun z _ d=>List.mem_cons_of_mem _ d);have z0:=q0 _ ah;have f0:=qf.out _ ah;refine hK.out _ _ ah (fun hH=>?_);clear hK K
     (try simp only[Act.put,List.setIfInBounds_toArray])
     refine YtcidfldeiklcjaaGreatDoor.r2 6 rfl fun K hK=>?_;go_simp;refine hK.out _ _ ?_;clear hK K
     (try simp only[Act.put,sA,s0_,s1_])
     refine YtcidfldeiklcjaaGreatDoor.r2 7 rfl fun K hK=>?_;go_simp;refine hK.out _ _ ?_;clear hK K
     (try simp only[Act.put,sA,s0_,s1_])
     refine aD (by kernel_rfl) ?_ _;have b4:=hid (GRel.next (one:=tick) (fin:=e2) HX HN b6 b2);clear HX ah b3 q0 hH;go_wp2_with fail
     go_roundw
     case rel=>exact b4
     case measure=>simp[intOf];omega
    ·have e1:Hid (o.length=N1):=by show _=_;have:=HN.out;omega
     have E1:Hid (many tick (⟨ns,false⟩:Tp)=(o,r1)):=by show _=_;rw[mm.out,<-HF.out];rfl
     have hn:=E.nl;subst hn;obtain⟨Y1,hD',hX',hv'⟩:=E.out.done (by omega);obtain⟨F1,R⟩:∃F:World->Prop,(fun w=>F0 w/\ag fG 6 w (.slice a1 o.length c1) o)=F:=⟨_,rfl⟩
     have n8:Hid (∀w,F1 w->F0 w/\ag fG 6 w (.slice a1 o.length c1) o):=fun w h=>by rw[<-R]at h;exact h
     rw[R]at hD';have D1:Hid (De w wr b g po Y1 F1 #[.slice a1 o.length c1,(),(),(),(),(),(),.slice ad p.dares.length cd,.slice aa p.answers.length ca] r1):=hD';rw[e1.out];clear hD' hX' hv' R E HF HN mm;obtain⟨x1,jc⟩:∃x,wr=x:=⟨_,rfl⟩;rw[jc]at D1 ⊢;clear jc;have iz:=hid (cU b g r1 x1 D1.out.tp);obtain⟨N2,q2,l2⟩:∃N q,count r1=(N,q):=⟨_,_,rfl⟩;have co:=bM r1;have hy:many spnd r1=aC spnd (count r1).1 (count r1).2 []:=rfl;rw[l2]at iz co hy;replace co:N2<=q2.left.length/\q2.left.length<=(r1).left.length:=co;have kx:q2.left.length<=100000001:=Nat.le_trans co.2 kp;obtain⟨cu,bv⟩:=nm (aC spnd N2 q2 []);have ml:Hid (many spnd r1=cu):=hy.trans bv;have gb:=hid bv;clear l2 hy bv;go_wp2_with (go_at_call 134;refine iz.mono ?_);rintro e y2 ⟨rfl,t,kk⟩;have G2:Hid (Dg eQ 2 181 1 w y2 b g po y2.heap.size _ F1 #[.slice a1 o.length c1,(),(),(),(),(),(),.slice ad p.dares.length cd,.slice aa p.answers.length ca] none 0 0 [] q2):=Dg.start (D1.out.read kk t) rfl;clear t kk iz D1
     generalize p0:y2.heap.size=B2 at G2
     clear p0;go_wp2_with fail
     go_loopw [50] (fun vi wr=>GRel eQ 2 181 1 spnd w b g po B2 F1 #[.slice a1 o.length c1,(),(),(),(),(),(),.slice ad p.dares.length cd,.slice aa p.answers.length ca] cu N2 vi wr) (fun vi _=>N2 - (intOf vi).toNat)
     case atStart=>exact⟨N2,q2,[],_,_,_,_,rfl,by simp,gb.out,kx,G2.out⟩
     case round =>
      obtain⟨j,r2,A,X2,a2,n2,c2,rfl,hN,hf,b2,hD⟩:=hrel;have E:=hid hD;have HF:=hid hf;have HN:=hid hN
      have q4:A.length<=N2:=by omega
      clear hD hf G2 gb
      rcases j with _|j
      rotate_left
      ·have i2:A.length < N2:=by have:=HN.out;omega
       obtain⟨⟨f,B⟩,r',hone'⟩:∃t r',spnd r2=(t,r'):=⟨_,_,rfl⟩;have bd:=hid hone'
       have b5:Hid (∀u,TpAt 174 u b g r2->g≠u.heap.size->Calls prog 136 #[.pointer (some ⟨b,0,none⟩)] u (xE b g (f,B) r' u)):=fun u P Q=>by have:=kR b g r2 u P Q (by omega);rwa [hone']at this
       have b6:Hid (aC spnd j r' (A++[(f,B)])=cu):=by show _=_;rw[<-HF.out,bO,hone']
       have d1:B.length<=9223372036854775807:=by have P:=eJ (next r2).2;have Q:=fV r2;have h3:(list (next r2).2).1=B:=congrArg (fun x=>x.1.2) hone';rw[h3]at P;omega
       have i6:=hid E.de.hX;clear hone';have q0:=E.out.cell (by simp);have qf:=hid E.frozen
       have dk:g≠wr.drew.heap.size:=by have:=E.out.lg;have:=E.out.lB;show g≠wr.heap.size;omega
       have ds:TpAt 174 wr.drew b g r2:=E.out.de.tp.keep (S:=[]) kr.drew (by simp) (by simp)
       have b2:r'.left.length<=100000001:=by have:=bH.le r2;rw[bd.out]at this;have:r'.left.length<=r2.left.length:=this;omega
       obtain⟨i0,hi,ac,ab,a9⟩:=info_parts wL;go_upto_region 14 with(fail);refine aJ [6,7] (fun w'=>Kept (b::obl (.slice a2 n2 c2)) wr w') (by kernel_rfl) kr.drew (fun hH=>?_);refine tk [1,5,6,7] 0 rfl hH ?_;simp only[Act.put,sA,s0_,s1_];refine tk [5,6,7] 1 rfl hH ?_;simp only[Act.put,sA,s0_,s1_];refine tk [3,4,5,6,7] 2 rfl hH ?_;simp only[Act.put,sA,s0_,s1_];refine YtcidfldeiklcjaaGreatDoor.r1 3 rfl fun K hK=>?_;go_simp;refine(b5 wr.drew ds dk).mono ?_;rintro e y ⟨M,J,rfl,bb,d2,kb⟩;have bc:Kept [b] wr y:=(Kept.refl [b] wr).drew.trans kb
       have b3:Kept (b::obl (.slice a2 n2 c2)) wr y:=bc.mono fun z _ d=>by obtain rfl:=ms d;exact List.mem_cons_self
       have i7:Hid (ae X2 (fun w=>eQ w [f,.slice M B.length J] (f,B)) y) :=
        (ae.row bb (fun z d hm=>by have P:=(ak bb z d).1;have Q:=i6.out z hm;have h3:wr.drew.heap.size=wr.heap.size:=rfl;omega) d1).imp fun _ h=>⟨_,rfl,h⟩
       refine hK.out _ _ b3 (fun hH=>?_);clear hK K
       (try skip)
       refine YtcidfldeiklcjaaGreatDoor.r1 4 rfl fun K hK=>?_;go_simp;refine hK.out _ _ (hH.alloc _) (fun hH=>?_);clear hK K
       (try simp only[Act.put,sA,s0_,s1_])
       refine YtcidfldeiklcjaaGreatDoor.r1 5 rfl fun K hK=>?_;refine jg (E.out.read bc d2) rfl _ _ 129 rfl i0 (.agg #[.int .i64 0,()]) 32 underlying129 hi ac ab a9 rfl (by decide) (by decide) rfl _ rfl [f,.slice M B.length J] (f,B) (rowS rfl _ _ _ rfl) (kr.alloc _) i7.out (by simp[Value.oneCell']) (by omega) ?_;intro p q y2 ks HX;have ah:Kept (b::obl (.slice a2 n2 c2)) wr y2:=b3.trans (ks.mono fun z _ d=>List.mem_cons_of_mem _ d);have z0:=q0 _ ah;have f0:=qf.out _ ah;refine hK.out _ _ ah (fun hH=>?_);clear hK K
       (try simp only[Act.put,List.setIfInBounds_toArray])
       refine YtcidfldeiklcjaaGreatDoor.r2 6 rfl fun K hK=>?_;go_simp;refine hK.out _ _ ?_;clear hK K
       (try simp only[Act.put,sA,s0_,s1_])
       refine YtcidfldeiklcjaaGreatDoor.r2 7 rfl fun K hK=>?_;go_simp;refine hK.out _ _ ?_;clear hK K
       (try simp only[Act.put,sA,s0_,s1_])
       refine aD (by kernel_rfl) ?_ _;have b4:=hid (GRel.next (one:=spnd) (fin:=cu) HX HN b6 b2);clear HX ah b3 q0 hH;go_wp2_with fail
       go_roundw
       case rel=>exact b4
       case measure=>simp[intOf];omega
      ·have e1:Hid (A.length=N2):=by show _=_;have:=HN.out;omega
       have E2:Hid (many spnd r1=(A,r2)):=by show _=_;rw[ml.out,<-HF.out];rfl
       have hn:=E.nl;subst hn;obtain⟨Y2,hD',hX',hv'⟩:=E.out.done (by omega);obtain⟨F2,R⟩:∃F:World->Prop,(fun w=>F1 w/\ag eQ 2 w (.slice a2 A.length c2) A)=F:=⟨_,rfl⟩
       have n7:Hid (∀w,F2 w->F1 w/\ag eQ 2 w (.slice a2 A.length c2) A):=fun w h=>by rw[<-R]at h;exact h
       rw[R]at hD';have D2:Hid (De w wr b g po Y2 F2 #[.slice a1 o.length c1,.slice a2 A.length c2,(),(),(),(),(),.slice ad p.dares.length cd,.slice aa p.answers.length ca] r2):=hD';rw[e1.out];clear hD' hX' hv' R E HF HN ml;obtain⟨x2,d0⟩:∃x,wr=x:=⟨_,rfl⟩;rw[d0]at D2 ⊢;clear d0;have ix:=hid (cU b g r2 x2 D2.out.tp);obtain⟨N3,q3,l1⟩:∃N q,count r2=(N,q):=⟨_,_,rfl⟩;have cl:=bM r2;have hx:many (many lnk) r2=aC (many lnk) (count r2).1 (count r2).2 []:=rfl;rw[l1]at ix cl hx;replace cl:N3<=q3.left.length/\q3.left.length<=(r2).left.length:=cl;have kw:q3.left.length<=100000001:=Nat.le_trans cl.2 b2;obtain⟨cs,bt⟩:=nm (aC (many lnk) N3 q3 []);have ip:=hid (hx.trans bt);have ga:=hid bt;clear l1 hx bt;go_wp2_with (go_at_call 134;refine ix.mono ?_);rintro e y3 ⟨rfl,t,kk⟩;have G3:Hid (Dg cr 1 183 2 w y3 b g po y3.heap.size _ F2 #[.slice a1 o.length c1,.slice a2 A.length c2,(),(),(),(),(),.slice ad p.dares.length cd,.slice aa p.answers.length ca] none 0 0 [] q3):=Dg.start (D2.out.read kk t) rfl;clear t kk ix D2
       generalize ot:y3.heap.size=B3 at G3
       clear ot;go_wp2_with fail;have lz:=hid (G3.out.de.fin.imp fun w h=>(n9 w (n8 w (n7 w h).1).1).2)
       go_loopw [5,62] (fun vt vi wr=>LRel w b g po B3 F2 #[.slice a1 o.length c1,.slice a2 A.length c2,(),(),(),(),(),.slice ad p.dares.length cd,.slice aa p.answers.length ca] cs N3 ts vt vi wr) (fun _ vi _=>N3 - (intOf vi).toNat)
       case atStart=>exact⟨N3,q3,[],_,none,0,0,ts,at_,ts.length,ct,rfl,rfl,by simp,ga.out,by simp[terms],kw,rfl,G3.out,lz.out⟩
       case round =>
        obtain⟨j,r3,i,X3,a3,n3,c3,e8,ta,nt,tc,rfl,rfl,hN,hf,ht,pl,l6,hD,hT⟩:=hrel;have E:=hid hD;have HF:=hid hf;have HN:=hid hN;have ik:=hid ht;have f7:=hid hT;have il:=hid l6
        have pz:i.length<=N3:=by omega
        clear hD hf ht hT l6 G3 ga lz
        rcases j with _|j
        rotate_left
        ·have i2:i.length < N3:=by have:=HN.out;omega
         have it:=hid (cU b g r3 wr E.de.tp);obtain⟨Ni,qi,kz⟩:∃N q,count r3=(N,q):=⟨_,_,rfl⟩;have dm:=bM r3;have hv:many lnk r3=aC lnk (count r3).1 (count r3).2 []:=rfl;rw[kz]at it dm hv;replace dm:Ni<=qi.left.length/\qi.left.length<=r3.left.length:=dm
         have ku:qi.left.length<=100000001:=by omega
         obtain⟨b7,bo⟩:=nm (aC lnk Ni qi []);have im:Hid (many lnk r3=b7):=hv.trans bo;have g7:=hid bo;clear kz hv bo;go_wp2_with (go_at_call 134;refine it.mono ?_);rintro e yo ⟨rfl,t,kk⟩;have Do:=hid (E.read kk t)
         have I0:Hid (Li w yo yo b g po B3 X3 F2 #[.slice a1 o.length c1,.slice a2 A.length c2,(),(),(),(),(),.slice ad p.dares.length cd,.slice aa p.answers.length ca] a3 n3 c3 i qi qi none 0 0 [] ta nt tc e8) := ⟨Do.out,kr,t,rfl,il.out,⟨X3,fun _ h=>h,Do.out.de.hX,by simp[obl,Value.ownBlock],Grow.nil_ _ _ _ _ _ _,f7.out.step kk (fun z d _=>by obtain rfl:=ms d;exact E.out.de.bX) (fun z d=>Or.inl d)⟩⟩
         clear t kk it E f7 Do;go_wp2_with fail
         go_loopw [5,10,66] (fun vt v10 vi wr=>InL w yo b g po B3 X3 F2 #[.slice a1 o.length c1,.slice a2 A.length c2,(),(),(),(),(),.slice ad p.dares.length cd,.slice aa p.answers.length ca] a3 n3 c3 i qi b7 Ni ts vt v10 vi wr) (fun _ _ vi _=>Ni - (intOf vi).toNat)
         case atStart=>exact⟨Ni,qi,[],none,0,0,e8,ta,nt,tc,rfl,rfl,rfl,by simp,g7.out,ik.out,ku,I0.out⟩
         case round =>
          obtain⟨j2,r4,D,e4,d7,e3,ba,j7,ec,an,rfl,rfl,rfl,op,lf,js,ko,hI⟩:=hrel;have II:=hid hI;have b6:=hid lf;have f9:=hid op;have HT2':=hid js
          have pw:D.length<=Ni:=by omega
          clear hI lf js I0 g7
          rcases j2 with _|j2
          ·have e1:Hid (D.length=Ni):=by show _=_;have:=f9.out;omega
           have Ei:Hid (many lnk r3=(D.map Prod.fst,r4)):=by show _=_;rw[im.out,<-b6.out];rfl
           have pf:Hid (aC (many lnk) j r4 (cA (i++[D]))=cs):=by show _=_;rw[<-HF.out,bO,Ei.out,kQ]
           rw[e1.out];have E:=hid II.dg;have HE:=hid (II.out.done (by omega))
           have TR:Hid (ae X3 (fun w=>Row w 1 (.slice j7 ec an) ba.length (strs ba)) wr):=by
            obtain⟨X2,x1,x2,x3,G,T⟩:=II.gr;exact T.less fun z d=>Or.inl (x1 z d)
           have fg:=hid II.et;clear II HF im e1 b6;have z2:=E.out.cell (by simp) wr kr;have GA:Hid (Grow cr 1 183 B3 X3 (wr.alloc (.cells #[.slice e4 d7 e3] 183)) (.slice a3 n3 c3) i):=E.out.gr.step ((Kept.refl [] _).alloc _) (by simp) (by simp) (fun z d=>Or.inl d);have EA:Hid (ae X3 (fun w=>cr w [.slice e4 d7 e3] D) (wr.alloc (.cells #[.slice e4 d7 e3] 183))):=HE.out.step ((Kept.refl [] _).alloc _) (by simp) (fun z d=>Or.inl d);have dj:=hid (show B3<=(wr.alloc (.cells #[.slice e4 d7 e3] 183)).heap.size by have:=E.out.lB;simp only[World.size_alloc];omega);obtain⟨i0,hi,ac,ab,a9⟩:=info_parts sH;go_wp2_with (at_builtin;refine aq rfl _ _ 130 rfl i0 () 24 underlying130 hi ac ab a9 rfl (by decide) (by decide) rfl GA.out _ [.slice e4 d7 e3] D rfl (rowS rfl _ _ _ rfl) EA.out (by simp[Value.oneCell']) (by omega) dj.out E.out.vX ?_);intro p9 q9 y9 G9 k9 t9;obtain⟨ed,X9,D9',h9⟩:=E.out.pushed ((Kept.refl [] wr).alloc _) G9 k9 (fun z d=>by first|exact t9 z d|(rw[World.size_alloc];exact t9 z d));have j1:=E.out.cell (by simp) y9 (ed.mono fun z _ d=>List.mem_cons_of_mem _ d);have s5:=E.frozen y9 (ed.mono fun z _ d=>List.mem_cons_of_mem _ d)
           have T9:ae X9 (fun w=>Row w 1 (.slice j7 ec an) ba.length (strs ba)) (y9.setCell ⟨po,2,none⟩ (.slice p9 (i.length+1) q9)) :=
            (TR.out.step ed (fun z d _=>E.out.vX z d) h9).step (X':=X9) ((Kept.refl [po] _).setCell (by simp) _) (fun z d _=>by obtain rfl:=ms d;exact D9'.de.pX) (fun z d=>Or.inl d)
           have b4:=hid (LRel.next ⟨X9,D9',T9⟩ HN pf HT2'.out ko fg);clear G9 k9 t9 ed D9' h9 T9 E GA EA hi ac ab a9 z2;go_wp2_with fail
           go_roundw
           case rel=>exact b4
           case measure=>simp[intOf];omega
          ·have pp:D.length < Ni:=by have:=f9.out;omega
           obtain⟨⟨t1,Z,Y,X,V,U⟩,ra,hone'⟩:∃t r',tick r4=(t,r'):=⟨_,_,rfl⟩;obtain⟨⟨f,B⟩,rb',hone2'⟩:∃t r',spnd ra=(t,r'):=⟨_,_,rfl⟩
           have l7:lnk r4=(((t1,Z,Y,X,V,U),(f,B)),rb'):=by simp only[lnk,both,hone',hone2']
           have rn:ra.left.length<=100000001:=by have:=dJ.le r4;rw[hone']at this;have:ra.left.length<=r4.left.length:=this;omega
           have f1:rb'.left.length<=100000001:=by have:=bH.le ra;rw[hone2']at this;have:rb'.left.length<=ra.left.length:=this;omega
           have d1:B.length<=9223372036854775807:=by have P:=eJ (next ra).2;have Q:=fV ra;have h3:(list (next ra).2).1=B:=congrArg (fun x=>x.1.2) hone2';rw[h3]at P;omega
           have na:Hid (aC lnk j2 rb' (D.map Prod.fst++[((t1,Z,Y,X,V,U),(f,B))])=b7):=by show _=_;rw[<-b6.out,bO,l7]
           have rt:g < yo.heap.size:=II.do_.de.gl;have ri:=II.kb.size
           have nd:Hid (Calls prog 135 #[.pointer (some ⟨b,0,none⟩)] wr (zS b g t1 Z Y X V U ra wr)):=by have:=jF b g r4 wr II.out.tp (by omega);rw[hone']at this;exact this
           have H2':=hid hone2';clear hone' hone2' l7;go_wp2_with (go_at_call 135;refine nd.mono ?_);rintro e v1 ⟨rfl,gg,ej⟩;have I1:=hid (II.read ej gg);have hk:=ej.size
           have ne:Hid (Calls prog 136 #[.pointer (some ⟨b,0,none⟩)] v1 (xE b g (f,B) rb' v1)):=by have:=kR b g ra v1 gg (by omega) (by omega);rwa [H2'.out]at this
           obtain⟨X2,x1,x2,x3,G4,T4⟩:=II.gr;have XA:=hid x1;have f5:=hid x2;have XC:=hid x3;have fb:=hid G4;have e5:=hid T4;have m4:=hid ej;have lo:=hid (x1 b II.do_.de.bX);have la:=hid (fun z d=>(II.ge z d).1);have s3:=II.do_.de.bl;clear gg ej nd II x1 x2 x3 G4 T4 H2';go_wp2_with (go_at_call 136;refine ne.mono ?_);rintro e v2 ⟨M,J,rfl,bb,j6,eg⟩;have I2:=hid (I1.out.read eg j6);have kn:=eg.size;have f8:=hid bb;have m3:=hid (m4.trans eg);have fg:=hid I2.out.et;clear j6 eg ne I1 bb m4;go_upto_region 22 with(fail);obtain⟨v3,da⟩:=nm (v2.alloc (.cells #[t1,Z,Y,X,V,U,f,.slice M B.length J,.string ⟨#[]⟩] 185));have hh:Kept [] v2 v3:=da▸kr.alloc _
           have eu:v2.heap.size < v3.heap.size:=by rw[<-da];simp
           have BL:=hid (da▸Blk.new _ _ _);have I3:=hid (I2.out.keep hh);have bh:=hid hh;have m6:=hid da;clear hh da;rw[m6.out]
           generalize l9:v2.heap.size=lb at BL eu ⊢
           have iq:=hid l9;clear l9 m6
           rcases ba with _|⟨t,tl⟩
           ·have hu:ec=0:=fg.out;subst hu
            have HR:Hid (cS s=(gL,false)):=by
             have P:=td (m:=j) (m':=j2) (r':=r4) (accL:=i) (acc:=D) (fin:=cs) (ts:=ts) (li:=b7) b6.out (by rw[<-HF.out,bO,im.out]) (by simpa using HT2'.out)
             have Q:(eG (⟨ns,false⟩:Tp)).1.2.2.1=cs.1:=by
              show(many (many lnk) (many spnd (many tick _).2).2).1=_
              rw[E1.out]
              show(many (many lnk) (many spnd r1).2).1=_
              rw[E2.out]
              show(many (many lnk) r2).1=_
              rw[ip.out]
             show _=_
             rw[e6.out,Q,decide_eq_false (by omega),Bool.and_false]
             rfl
            have BQ:=hid I3.out.dg.de.bq;have KQ:=hid I3.out.dg.de.k0;obtain⟨z0,z1,z2,z3,z4,z5,z6,z7,z8⟩:=bc9 BQ rfl;obtain⟨y0,y1,y2,y3,y4,y5,y6,y7,y8⟩:=bf9 BQ;go_wp2_with fail;refine bodyPost_ret (v:=.tuple #[.agg aQ,.bool false]) (by simp[results,results83,go_sem,aQ,z0,z1,z2,z3,z4,z5,z6,z7,z8]) rfl ?_;rw[HR.out];refine⟨_,rfl,bL _,?_⟩
            repeat (refine Kept.setCell ?_ (Or.inr (Nat.le_refl _)) _)
            exact KQ
           ·have hq:ec=tl.length+1:=fg.out;subst hq;have cb:=I2.out.row;obtain⟨tb,ao,o9,dr⟩:=Row.at_ (n:=tl.length+1) (m:=(t::tl).length) cb (by simp)
            have d0:v2.cell? ⟨tb,ao,none⟩=some (.string ⟨t.toArray⟩):=by simpa using dr 0 _ rfl
            have hj:v3.cell? ⟨tb,ao,none⟩=some (.string ⟨t.toArray⟩):=Kept.cellOf d0 v3 bh
            have lm:tl.length+1<=an:=cb.2.2.elim fun a h=>h.elim fun c h=>by have P:=h.1;injection P with _ _ h3;subst h3;exact h.2.1
            have oj:tl.length+1<=9223372036854775807:=cb.2.1;subst o9
            have o7:tb≠lb:=fun e=>by have P:=World.block_lt_of_cell? v2 _ d0;have Q:=iq.out;simp only at P;omega
            have q0:=fun(w':World) (k:Kept [lb] v3 w')=>(k.cell (World.block_lt_of_cell? v3 _ hj) (by simp;exact o7)).trans hj;have qf:=BL.frozen 8;have ql:v3.cell? ⟨lb,8,none⟩=some (.string ⟨#[]⟩):=BL.cell 8;clear cb dr hj d0;obtain⟨L,hL⟩:=nm tl.length;have HL:=hid hL;rw[hL]at I2 lm oj e5 ⊢;clear hL I3
            have s4:(1:Int)<=(L:Int)+1:=by omega
            have ft:∀(x:Option Addr) (cc:Nat),(an=1->x=some ⟨tb,ao,none⟩/\cc=0)->(an≠1->x=some ⟨tb,ao+1,none⟩/\cc=an - 1)->∀w,Row w 1 (.slice (some ⟨tb,ao,none⟩) (L+1) an) (t::tl).length (strs (t::tl))->Row w 1 (.slice x L cc) tl.length (strs tl):=fun x cc P Q w hr=>by
             have hl:=HL.out
             by_cases hc:an=1
             ·obtain⟨rfl,rfl⟩:=P hc;have oa:tl=[]:=List.eq_nil_of_length_eq_zero (by omega);subst oa;obtain rfl:L=0:=hl.symm;exact Row.none1 _ _
             ·obtain⟨rfl,rfl⟩:=Q hc;subst hl;exact Row.tail (n:=tl.length+1) hr rfl
            have cx:=hid ft;clear ft
            by_cases hc1:an=1
            ·subst hc1
             obtain rfl:L=0:=by omega
             go_upto_region 24 with(fail);refine aJ [] (fun w'=>Kept [lb] v3 w') (by kernel_rfl) kr.drew (fun hH=>?_);refine tk [1,2,5,6,7] 0 rfl hH ?_;simp only[Act.put,sA,s0_,s1_];refine tk [2,5,6,7] 1 rfl hH ?_;simp only[Act.put,sA,s0_,s1_];refine tk [5,6,7] 2 rfl hH ?_;simp only[Act.put,sA,s0_,s1_];refine tk [4,7] 3 rfl hH ?_;simp only[Act.put,sA,s0_,s1_];refine tk [7] 4 rfl hH ?_;simp only[Act.put,sA,s0_,s1_];refine tk [6,7] 5 rfl hH ?_;simp only[Act.put,sA,s0_,s1_];refine YtcidfldeiklcjaaGreatDoor.r1 6 rfl fun K hK=>?_;go_simp;refine hK.out _ _ (hH.setCell (Or.inl (by simp)) _) (fun hH=>?_);clear hK K
             (try skip)
             refine YtcidfldeiklcjaaGreatDoor.r1 7 rfl fun K hK=>?_;go_simp;refine hK.out _ _ hH (fun hH=>?_);clear hK K
             (try simp only[Act.put,sA,s0_,s1_])
             refine aD (by kernel_rfl) ?_ _;obtain⟨v4,b9⟩:=nm ((v3.setCell ⟨lb,8,none⟩ t).drew);have ap:Kept [] v2 v4:=b9▸(bh.out.setCell (p:=⟨lb,8,none⟩) (Or.inr (by have:=iq.out;show v2.heap.size<=lb;omega)) _).drew
             have O:Hid (Blk v4 lb 185 #[t1,Z,Y,X,V,U,f,.slice M B.length J,t]):=by show Blk _ _ _ _;have:=(BL.out.set_ 8 t).drew;rw[b9]at this;simpa using this
             have I4:=hid ((I2.out.keep ap).terms (tsl':=tl) (ta':=(some ⟨tb,ao,none⟩)) (nt':=0) (tc':=0) HL.symm (cx _ _ (fun h=>⟨rfl,rfl⟩) (fun h=>absurd rfl h)));have c9:=hid (af f8.out ap (by simp));rw[b9];have kl:=ap.size;have k24':=ap;clear q0 qf ql hH b9 ap bh BL f8;have he:=O.cell 0;have ha:=O.cell 1;have h0:=O.cell 2;have gv:=O.cell 3;have gt:=O.cell 4;have gs:=O.cell 5;have gp:=O.cell 6;have go:=O.cell 7;have gn:=O.cell 8;have ka:Kept [] v4 (v4.alloc (.cells #[t1,Z,Y,X,V,U,f,.slice M B.length J,t] 185)):=(Kept.refl [] _).alloc _;have a0:Kept [b] wr (v4.alloc (.cells #[t1,Z,Y,X,V,U,f,.slice M B.length J,t] 185)):=m3.out.trans ((k24'.trans ka).mono (by simp))
             have c0:∀z∈[b],z < wr.heap.size->z∈X2:=fun z d _=>by obtain rfl:=ms d;exact lo.out
             have EL:Hid (ae X2 (fun w=>LnkR w [t1,Z,Y,X,V,U,f,.slice M B.length J,t] (((t1,Z,Y,X,V,U),(f,B)),t)) (v4.alloc (.cells #[t1,Z,Y,X,V,U,f,.slice M B.length J,t] 185))) :=
              (ae.row (af c9.out ka (by simp)) (fun z d hm=>by have P:=(ak c9.out z d).1;have Q:=f5.out z hm;omega) d1).imp fun _ h=>⟨_,rfl,h⟩
             have GA:=hid (fb.out.step a0 (fun z d hm=>by have:=la.out z d;rw[List.mem_singleton]at hm;omega) c0 (fun z d=>Or.inl d));have IA:=hid (I4.out.keep ka);have TA:=hid ((e5.step a0 c0 (fun z d=>Or.inl d)).imp (cx _ _ (fun h=>⟨rfl,rfl⟩) (fun h=>absurd rfl h)));have XB:=hid (fun z d=>Nat.lt_of_lt_of_le (f5 z d) a0.size);have dj:=hid (show yo.heap.size<=(v4.alloc (.cells #[t1,Z,Y,X,V,U,f,.slice M B.length J,t] 185)).heap.size by have:=IA.out.kb.size;exact this);have e7:=hid I4.out.e10;obtain⟨i0,hi,ac,ab,a9⟩:=info_parts oE;clear ka a0 c0 c9 k24' fb e5;go_wp2_with (at_builtin;refine aq rfl _ _ 183 rfl i0 (.agg #[.int .i64 0,.int .i64 0,.int .i64 0,.int .i64 0,.int .i64 0,.int .i64 0,.int .i64 0,(),.string ⟨#[]⟩]) 96 underlying183 hi ac ab a9 rfl (by decide) (by decide) rfl GA.out _ [t1,Z,Y,X,V,U,f,.slice M B.length J,t] (((t1,Z,Y,X,V,U),(f,B)),t) rfl (rowS rfl _ _ _ rfl) EL.out (by simp[Value.oneCell']) (by omega) dj.out XC.out ?_);intro p9 q9 y9 G9 k9 t9;have IP:=hid (IA.out.push XA.out XB.out TA.out XC.out k9 (by rw[e7.out]) G9 (fun z d=>by first|exact t9 z d|(rw[World.size_alloc];exact t9 z d)))
             have b4:Hid (InL w yo b g po B3 X3 F2 #[.slice a1 o.length c1,.slice a2 A.length c2,(),(),(),(),(),.slice ad p.dares.length cd,.slice aa p.answers.length ca] a3 n3 c3 i qi b7 Ni ts (.slice (some ⟨tb,ao,none⟩) 0 0) (.slice p9 (D.length+1) q9) (.int .i64 ((D.length:Int)+1)) y9) := ⟨j2,rb',D++[(((t1,Z,Y,X,V,U),(f,B)),t)],p9,D.length+1,q9,tl,(some ⟨tb,ao,none⟩),0,0,rfl,rfl,by simp,by have:=f9.out;simp;omega,by rw[List.map_append];exact na.out,by have:=HT2'.out;simpa using this,f1,IP.out⟩
             clear G9 k9 t9 IP he ha h0 gv gt gs gp go gn hi ac ab a9 GA EL;go_wp2_with fail
             go_roundw
             case rel=>exact b4
             case measure=>simp[intOf];omega
            ·go_upto_region 24 with(fail);refine aJ [] (fun w'=>Kept [lb] v3 w') (by kernel_rfl) kr.drew (fun hH=>?_);refine tk [1,2,5,6,7] 0 rfl hH ?_;simp only[Act.put,sA,s0_,s1_];refine tk [2,5,6,7] 1 rfl hH ?_;simp only[Act.put,sA,s0_,s1_];refine tk [5,6,7] 2 rfl hH ?_;simp only[Act.put,sA,s0_,s1_];refine tk [4,7] 3 rfl hH ?_;simp only[Act.put,sA,s0_,s1_];refine tk [7] 4 rfl hH ?_;simp only[Act.put,sA,s0_,s1_];refine tk [6,7] 5 rfl hH ?_;simp only[Act.put,sA,s0_,s1_];refine YtcidfldeiklcjaaGreatDoor.r1 6 rfl fun K hK=>?_;go_simp;refine hK.out _ _ (hH.setCell (Or.inl (by simp)) _) (fun hH=>?_);clear hK K
             (try skip)
             refine YtcidfldeiklcjaaGreatDoor.r1 7 rfl fun K hK=>?_;go_simp;refine hK.out _ _ hH (fun hH=>?_);clear hK K
             (try simp only[Act.put,sA,s0_,s1_])
             refine aD (by kernel_rfl) ?_ _;obtain⟨v4,b9⟩:=nm ((v3.setCell ⟨lb,8,none⟩ t).drew);have ap:Kept [] v2 v4:=b9▸(bh.out.setCell (p:=⟨lb,8,none⟩) (Or.inr (by have:=iq.out;show v2.heap.size<=lb;omega)) _).drew
             have O:Hid (Blk v4 lb 185 #[t1,Z,Y,X,V,U,f,.slice M B.length J,t]):=by show Blk _ _ _ _;have:=(BL.out.set_ 8 t).drew;rw[b9]at this;simpa using this
             have I4:=hid ((I2.out.keep ap).terms (tsl':=tl) (ta':=(some ⟨tb,ao+1,none⟩)) (nt':=L) (tc':=(an - 1)) HL.symm (cx _ _ (fun h=>absurd h hc1) (fun h=>⟨rfl,rfl⟩)));have c9:=hid (af f8.out ap (by simp));rw[b9];have kl:=ap.size;have k24':=ap;clear q0 qf ql hH b9 ap bh BL f8;have he:=O.cell 0;have ha:=O.cell 1;have h0:=O.cell 2;have gv:=O.cell 3;have gt:=O.cell 4;have gs:=O.cell 5;have gp:=O.cell 6;have go:=O.cell 7;have gn:=O.cell 8;have ka:Kept [] v4 (v4.alloc (.cells #[t1,Z,Y,X,V,U,f,.slice M B.length J,t] 185)):=(Kept.refl [] _).alloc _;have a0:Kept [b] wr (v4.alloc (.cells #[t1,Z,Y,X,V,U,f,.slice M B.length J,t] 185)):=m3.out.trans ((k24'.trans ka).mono (by simp))
             have c0:∀z∈[b],z < wr.heap.size->z∈X2:=fun z d _=>by obtain rfl:=ms d;exact lo.out
             have EL:Hid (ae X2 (fun w=>LnkR w [t1,Z,Y,X,V,U,f,.slice M B.length J,t] (((t1,Z,Y,X,V,U),(f,B)),t)) (v4.alloc (.cells #[t1,Z,Y,X,V,U,f,.slice M B.length J,t] 185))) :=
              (ae.row (af c9.out ka (by simp)) (fun z d hm=>by have P:=(ak c9.out z d).1;have Q:=f5.out z hm;omega) d1).imp fun _ h=>⟨_,rfl,h⟩
             have GA:=hid (fb.out.step a0 (fun z d hm=>by have:=la.out z d;rw[List.mem_singleton]at hm;omega) c0 (fun z d=>Or.inl d));have IA:=hid (I4.out.keep ka);have TA:=hid ((e5.step a0 c0 (fun z d=>Or.inl d)).imp (cx _ _ (fun h=>absurd h hc1) (fun h=>⟨rfl,rfl⟩)));have XB:=hid (fun z d=>Nat.lt_of_lt_of_le (f5 z d) a0.size);have dj:=hid (show yo.heap.size<=(v4.alloc (.cells #[t1,Z,Y,X,V,U,f,.slice M B.length J,t] 185)).heap.size by have:=IA.out.kb.size;exact this);have e7:=hid I4.out.e10;obtain⟨i0,hi,ac,ab,a9⟩:=info_parts oE;clear ka a0 c0 c9 k24' fb e5;go_wp2_with (at_builtin;refine aq rfl _ _ 183 rfl i0 (.agg #[.int .i64 0,.int .i64 0,.int .i64 0,.int .i64 0,.int .i64 0,.int .i64 0,.int .i64 0,(),.string ⟨#[]⟩]) 96 underlying183 hi ac ab a9 rfl (by decide) (by decide) rfl GA.out _ [t1,Z,Y,X,V,U,f,.slice M B.length J,t] (((t1,Z,Y,X,V,U),(f,B)),t) rfl (rowS rfl _ _ _ rfl) EL.out (by simp[Value.oneCell']) (by omega) dj.out XC.out ?_);intro p9 q9 y9 G9 k9 t9;have IP:=hid (IA.out.push XA.out XB.out TA.out XC.out k9 (by rw[e7.out]) G9 (fun z d=>by first|exact t9 z d|(rw[World.size_alloc];exact t9 z d)))
             have b4:Hid (InL w yo b g po B3 X3 F2 #[.slice a1 o.length c1,.slice a2 A.length c2,(),(),(),(),(),.slice ad p.dares.length cd,.slice aa p.answers.length ca] a3 n3 c3 i qi b7 Ni ts (.slice (some ⟨tb,ao+1,none⟩) L (an - 1)) (.slice p9 (D.length+1) q9) (.int .i64 ((D.length:Int)+1)) y9) := ⟨j2,rb',D++[(((t1,Z,Y,X,V,U),(f,B)),t)],p9,D.length+1,q9,tl,(some ⟨tb,ao+1,none⟩),L,(an - 1),rfl,rfl,by simp,by have:=f9.out;simp;omega,by rw[List.map_append];exact na.out,by have:=HT2'.out;simpa using this,f1,IP.out⟩
             clear G9 k9 t9 IP he ha h0 gv gt gs gp go gn hi ac ab a9 GA EL;go_wp2_with fail
             go_roundw
             case rel=>exact b4
             case measure=>simp[intOf];omega
        ·have e1:Hid (i.length=N3):=by show _=_;have:=HN.out;omega
         have E3:Hid (many (many lnk) r2=(cA i,r3)):=by show _=_;rw[ip.out,<-HF.out];rfl
         have hn:=E.nl;subst hn;obtain⟨Y3,hD',hX',hv'⟩:=E.out.done (by omega);obtain⟨F3,R⟩:∃F:World->Prop,(fun w=>F2 w/\ag cr 1 w (.slice a3 i.length c3) i)=F:=⟨_,rfl⟩
         have pc:Hid (∀w,F3 w->F2 w/\ag cr 1 w (.slice a3 i.length c3) i):=fun w h=>by rw[<-R]at h;exact h
         rw[R]at hD';have D3:Hid (De w wr b g po Y3 F3 #[.slice a1 o.length c1,.slice a2 A.length c2,.slice a3 i.length c3,(),(),(),(),.slice ad p.dares.length cd,.slice aa p.answers.length ca] r3):=hD';have g6:=hid (show nt=e8.length from il.out)
         have pn:nt<=9223372036854775807:=by have:=f7.out.get.2.1;have:=il.out;omega
         rw[e1.out];clear hD' hX' hv' R E HF HN ip f7;obtain⟨x3,ja⟩:∃x,wr=x:=⟨_,rfl⟩;rw[ja]at D3 ⊢;clear ja;obtain⟨cm,r4,dd⟩:∃l r,list r3=(l,r):=⟨_,_,rfl⟩
         have rr:r4.left.length<=100000001:=by have:=kh r3;rw[dd]at this;have:r4.left.length<=r3.left.length:=this;omega
         have s1:cm.length<=100000001:=by have:=eJ r3;rw[dd]at this;have:cm.length<=r3.left.length:=this;omega
         have n5:Hid (Calls prog 137 #[.pointer (some ⟨b,0,none⟩)] x3 (mu b g cm r4 x3)):=by have:=eC b g r3 x3 D3.out.tp (by omega);rwa [dd]at this
         have E4:=hid dd;clear dd;go_wp2_with (go_at_call 137;refine n5.mono ?_);rintro e x4 ⟨a4,c4,rfl,d6,j5,k4⟩;have am:=hid D3.out.hX;have D4:=hid ((D3.out.read k4 j5).more (ae.row d6 (fun z d hm=>by have P:=(ak d6 z d).1;have Q:=am.out z hm;omega) (by omega)));clear d6 j5 k4 n5 D3 am;obtain⟨F4,ia⟩:∃F:World->Prop,(fun w=>F3 w/\Row w 1 (.slice a4 cm.length c4) cm.length (ints cm))=F:=⟨_,rfl⟩
         have pa:Hid (∀w,F4 w->F3 w/\Row w 1 (.slice a4 cm.length c4) cm.length (ints cm)):=fun w h=>by rw[<-ia]at h;exact h
         rw[ia]at D4;clear ia;obtain⟨ch,r5,dc⟩:∃l r,list r4=(l,r):=⟨_,_,rfl⟩
         have od:r5.left.length<=100000001:=by have:=kh r4;rw[dc]at this;have:r5.left.length<=r4.left.length:=this;omega
         have s2:ch.length<=100000001:=by have:=eJ r4;rw[dc]at this;have:ch.length<=r4.left.length:=this;omega
         have n4:Hid (Calls prog 137 #[.pointer (some ⟨b,0,none⟩)] x4 (mu b g ch r5 x4)):=by have:=eC b g r4 x4 D4.out.tp (by omega);rwa [dc]at this
         have E5:=hid dc;clear dc;go_wp2_with (go_at_call 137;refine n4.mono ?_);rintro e x5 ⟨a5,c5,rfl,d5,j4,k5⟩;have am:=hid D4.out.hX;have D5:=hid ((D4.out.read k5 j4).more (ae.row d5 (fun z d hm=>by have P:=(ak d5 z d).1;have Q:=am.out z hm;omega) (by omega)));clear d5 j4 k5 n4 D4 am;obtain⟨F5,i9⟩:∃F:World->Prop,(fun w=>F4 w/\Row w 1 (.slice a5 ch.length c5) ch.length (ints ch))=F:=⟨_,rfl⟩
         have p8:Hid (∀w,F5 w->F4 w/\Row w 1 (.slice a5 ch.length c5) ch.length (ints ch)):=fun w h=>by rw[<-i9]at h;exact h
         rw[i9]at D5;clear i9;obtain⟨-,-,-,p3,p4⟩:=bc5 D5.out.bp rfl;obtain⟨-,-,-,f3,f4⟩:=bf5 D5.out.bp;have D6:=hid ((D5.out.store 3 (.slice a4 cm.length c4)).store 4 (.slice a5 ch.length c5));clear D5;go_upto_region 30 with(fail)
         generalize ek:(x5.setCell ⟨po,3,none⟩ (.slice a4 cm.length c4)).setCell ⟨po,4,none⟩ (.slice a5 ch.length c5)=x6 at D6 ⊢
         clear ek p3 p4 f3 f4;have iw:=hid (cU b g r5 x6 D6.out.tp);obtain⟨N6,q6,l0⟩:∃N q,count r5=(N,q):=⟨_,_,rfl⟩;have cg:=bM r5;have hw:many list r5=aC list (count r5).1 (count r5).2 []:=rfl;rw[l0]at iw cg hw;replace cg:N6<=q6.left.length/\q6.left.length<=(r5).left.length:=cg;have kv:q6.left.length<=100000001:=Nat.le_trans cg.2 od;obtain⟨cq,bs⟩:=nm (aC list N6 q6 []);have mk:Hid (many list r5=cq):=hw.trans bs;have g9:=hid bs;clear l0 hw bs;go_wp2_with (go_at_call 134;refine iw.mono ?_);rintro e y6 ⟨rfl,t,kk⟩;have G6:Hid (Dg aM 1 24 5 w y6 b g po y6.heap.size _ F5 #[.slice a1 o.length c1,.slice a2 A.length c2,.slice a3 i.length c3,.slice a4 cm.length c4,.slice a5 ch.length c5,(),(),.slice ad p.dares.length cd,.slice aa p.answers.length ca] none 0 0 [] q6):=Dg.start (D6.out.read kk t) rfl;clear t kk iw D6
         generalize os:y6.heap.size=B6 at G6
         clear os;go_wp2_with fail
         go_loopw [103] (fun vi wr=>GRel aM 1 24 5 list w b g po B6 F5 #[.slice a1 o.length c1,.slice a2 A.length c2,.slice a3 i.length c3,.slice a4 cm.length c4,.slice a5 ch.length c5,(),(),.slice ad p.dares.length cd,.slice aa p.answers.length ca] cq N6 vi wr) (fun vi _=>N6 - (intOf vi).toNat)
         case atStart=>exact⟨N6,q6,[],_,_,_,_,rfl,by simp,g9.out,kv,G6.out⟩
         case round =>
          obtain⟨j,r6,I,X6,a6,n6,c6,rfl,hN,hf,pk,hD⟩:=hrel;have E:=hid hD;have HF:=hid hf;have HN:=hid hN
          have pt:I.length<=N6:=by omega
          clear hD hf G6 g9
          rcases j with _|j
          rotate_left
          ·have i2:I.length < N6:=by have:=HN.out;omega
           obtain⟨bl,r',hone'⟩:∃t r',list r6=(t,r'):=⟨_,_,rfl⟩;have bd:=hid hone'
           have b5:Hid (∀u,TpAt 174 u b g r6->g≠u.heap.size->Calls prog 137 #[.pointer (some ⟨b,0,none⟩)] u (mu b g bl r' u)):=fun u P _=>by have:=eC b g r6 u P (by omega);rwa [hone']at this
           have b6:Hid (aC list j r' (I++[bl])=cq):=by show _=_;rw[<-HF.out,bO,hone']
           have d1:bl.length<=9223372036854775807:=by have P:=eJ r6;rw[hone']at P;have:bl.length<=r6.left.length:=P;omega
           have i6:=hid E.de.hX;clear hone';have q0:=E.out.cell (by simp);have qf:=hid E.frozen
           have dk:g≠wr.drew.heap.size:=by have:=E.out.lg;have:=E.out.lB;show g≠wr.heap.size;omega
           have ds:TpAt 174 wr.drew b g r6:=E.out.de.tp.keep (S:=[]) kr.drew (by simp) (by simp)
           have b2:r'.left.length<=100000001:=by have:=kh r6;rw[bd.out]at this;have:r'.left.length<=r6.left.length:=this;omega
           obtain⟨i0,hi,ac,ab,a9⟩:=info_parts nx;go_upto_region 32 with(fail);refine aJ [6,7] (fun w'=>Kept (b::obl (.slice a6 n6 c6)) wr w') (by kernel_rfl) kr.drew (fun hH=>?_);refine tk [1,5,6,7] 0 rfl hH ?_;simp only[Act.put,sA,s0_,s1_];refine tk [5,6,7] 1 rfl hH ?_;simp only[Act.put,sA,s0_,s1_];refine tk [3,4,5,6,7] 2 rfl hH ?_;simp only[Act.put,sA,s0_,s1_];refine YtcidfldeiklcjaaGreatDoor.r1 3 rfl fun K hK=>?_;go_simp;refine(b5 wr.drew ds dk).mono ?_;rintro e y ⟨M,J,rfl,bb,d2,kb⟩;have bc:Kept [b] wr y:=(Kept.refl [b] wr).drew.trans kb
           have b3:Kept (b::obl (.slice a6 n6 c6)) wr y:=bc.mono fun z _ d=>by obtain rfl:=ms d;exact List.mem_cons_self
           have i7:Hid (ae X6 (fun w=>aM w [.slice M bl.length J] bl) y) :=
            (ae.row bb (fun z d hm=>by have P:=(ak bb z d).1;have Q:=i6.out z hm;have h3:wr.drew.heap.size=wr.heap.size:=rfl;omega) d1).imp fun _ h=>⟨_,rfl,h⟩
           refine hK.out _ _ b3 (fun hH=>?_);clear hK K
           (try skip)
           refine YtcidfldeiklcjaaGreatDoor.r1 4 rfl fun K hK=>?_;go_simp;refine hK.out _ _ (hH.alloc _) (fun hH=>?_);clear hK K
           (try simp only[Act.put,sA,s0_,s1_])
           refine YtcidfldeiklcjaaGreatDoor.r1 5 rfl fun K hK=>?_;refine jg (E.out.read bc d2) rfl _ _ 55 rfl i0 () 24 underlying55 hi ac ab a9 rfl (by decide) (by decide) rfl _ rfl [.slice M bl.length J] bl (rowS rfl _ _ _ rfl) (kr.alloc _) i7.out (by simp[Value.oneCell']) (by omega) ?_;intro p q y2 ks HX;have ah:Kept (b::obl (.slice a6 n6 c6)) wr y2:=b3.trans (ks.mono fun z _ d=>List.mem_cons_of_mem _ d);have z0:=q0 _ ah;have f0:=qf.out _ ah;refine hK.out _ _ ah (fun hH=>?_);clear hK K
           (try simp only[Act.put,List.setIfInBounds_toArray])
           refine YtcidfldeiklcjaaGreatDoor.r2 6 rfl fun K hK=>?_;go_simp;refine hK.out _ _ ?_;clear hK K
           (try simp only[Act.put,sA,s0_,s1_])
           refine YtcidfldeiklcjaaGreatDoor.r2 7 rfl fun K hK=>?_;go_simp;refine hK.out _ _ ?_;clear hK K
           (try simp only[Act.put,sA,s0_,s1_])
           refine aD (by kernel_rfl) ?_ _;have b4:=hid (GRel.next (one:=list) (fin:=cq) HX HN b6 b2);clear HX ah b3 q0 hH;go_wp2_with fail
           go_roundw
           case rel=>exact b4
           case measure=>simp[intOf];omega
          ·have e1:Hid (I.length=N6):=by show _=_;have:=HN.out;omega
           have E6:Hid (many list r5=(I,r6)):=by show _=_;rw[mk.out,<-HF.out];rfl
           have hn:=E.nl;subst hn;obtain⟨Y6,hD',hX',hv'⟩:=E.out.done (by omega);obtain⟨F6,R⟩:∃F:World->Prop,(fun w=>F5 w/\ag aM 1 w (.slice a6 I.length c6) I)=F:=⟨_,rfl⟩
           have p7:Hid (∀w,F6 w->F5 w/\ag aM 1 w (.slice a6 I.length c6) I):=fun w h=>by rw[<-R]at h;exact h
           rw[R]at hD';have D6:Hid (De w wr b g po Y6 F6 #[.slice a1 o.length c1,.slice a2 A.length c2,.slice a3 i.length c3,.slice a4 cm.length c4,.slice a5 ch.length c5,.slice a6 I.length c6,(),.slice ad p.dares.length cd,.slice aa p.answers.length ca] r6):=hD';rw[e1.out];clear hD' hX' hv' R E HF HN mk;obtain⟨x6,ek⟩:∃x,wr=x:=⟨_,rfl⟩;rw[ek]at D6 ⊢;clear ek;obtain⟨es,r7,db⟩:∃l r,list r6=(l,r):=⟨_,_,rfl⟩
           have ro:r7.left.length<=100000001:=by have:=kh r6;rw[db]at this;have:r7.left.length<=r6.left.length:=this;omega
           have s0:es.length<=100000001:=by have:=eJ r6;rw[db]at this;have:es.length<=r6.left.length:=this;omega
           have n0:Hid (Calls prog 137 #[.pointer (some ⟨b,0,none⟩)] x6 (mu b g es r7 x6)):=by have:=eC b g r6 x6 D6.out.tp (by omega);rwa [db]at this
           have E7:=hid db;clear db;go_wp2_with (go_at_call 137;refine n0.mono ?_);rintro e x7 ⟨a7,c7,rfl,d4,j3,k7⟩;have am:=hid D6.out.hX;have D7:=hid ((D6.out.read k7 j3).more (ae.row d4 (fun z d hm=>by have P:=(ak d4 z d).1;have Q:=am.out z hm;omega) (by omega)));clear d4 j3 k7 n0 D6 am;obtain⟨F7,i8⟩:∃F:World->Prop,(fun w=>F6 w/\Row w 1 (.slice a7 es.length c7) es.length (ints es))=F:=⟨_,rfl⟩
           have p5:Hid (∀w,F7 w->F6 w/\Row w 1 (.slice a7 es.length c7) es.length (ints es)):=fun w h=>by rw[<-i8]at h;exact h
           rw[i8]at D7;have p6:x7.cell? ⟨po,6,none⟩=some ():=D7.out.bp.cell 6;have f6:=D7.out.bp.frozen 6;have D8:=hid (D7.out.store 6 (.slice a7 es.length c7));clear D7 i8;go_upto_region 35 with(fail)
           generalize o5:x7.setCell ⟨po,6,none⟩ (.slice a7 es.length c7)=x8 at D8 ⊢
           clear o5 p6 f6;have md:=hid (vY E1.out E2.out E3.out E4.out E5.out E6.out E7.out);rw[md.out]at e6;have oo:=D8.out.tp.st;obtain⟨a8,c8,lq,er⟩:=oo;have ol:=er.2.1;obtain⟨b0,b1⟩:=bc2 lq rfl;have BQ:=hid D8.out.bq;have KQ:=hid D8.out.k0;have p2:=hid (dp i)
           have C:Hid ((r7.bad=true\/0 < r7.left.length\/0 < nt)->cS s=(gL,false)):=fun h=>by
            rw[e6.out,if_neg];intro Q;rw[Bool.and_eq_true,gd,decide_eq_true_eq]at Q;obtain⟨⟨g1,g2⟩,g3⟩:=Q;have g4:total (cA i)=ts.length:=g3;rw[p2.out,<-ik.out,List.length_append]at g4
            rcases h with h|h|h
            ·rw[g1]at h;cases h
            ·rw[g2]at h;simp at h
            ·have:=g6.out;omega
           have al:Hid (r7.bad=false->r7.left.length=0->nt=0->cS s=(⟨o,A,i,cm,ch,I,es,p⟩,true)):=fun P Q h3=>by
            have h4:e8=[]:=List.eq_nil_of_length_eq_zero (by have:=g6.out;omega)
            have h5:terms i=ts:=by have:=ik.out;rw[h4,List.append_nil]at this;exact this
            obtain⟨h6,h7⟩:=nP (accL:=i) rfl h5;rw[e6.out,if_pos]
            ·unfold mkR
             simp only
             rw[h6]
            ·rw[Bool.and_eq_true,gd,decide_eq_true_eq];exact⟨⟨P,List.eq_nil_of_length_eq_zero Q⟩,h7⟩
           clear lq er e6 md
           generalize hL:r7.left.length=L at b0 ol C al
           clear hL
           cases hbd:r7.bad
           ·rw[hbd]at b1
            by_cases hL0:L=0
            ·subst hL0
             by_cases hu:nt=0
             ·subst hu;have HR:=hid (al.out hbd rfl rfl);clear C al;obtain⟨j9,j8,rh,rc,r9,r8,r0,q8,q7⟩:=bc9 D8.out.bp rfl;obtain⟨z0,z1,z2,z3,z4,z5,z6,z7,z8⟩:=bc9 BQ rfl;obtain⟨y0,y1,y2,y3,y4,y5,y6,y7,y8⟩:=bf9 BQ
              have oh:po≠w.heap.size:=by have:=D8.out.wp;omega
              have rs:w.heap.size≠po:=fun h=>oh h.symm;go_wp2_with fail;obtain⟨wf,el⟩:=nm ((((((((((x8.setCell ⟨w.heap.size,0,none⟩ (.slice a1 o.length c1)).setCell ⟨w.heap.size,1,none⟩ (.slice a2 A.length c2)).setCell ⟨w.heap.size,2,none⟩ (.slice a3 i.length c3)).setCell ⟨w.heap.size,3,none⟩ (.slice a4 cm.length c4)).setCell ⟨w.heap.size,4,none⟩ (.slice a5 ch.length c5)).setCell ⟨w.heap.size,5,none⟩ (.slice a6 I.length c6)).setCell ⟨w.heap.size,6,none⟩ (.slice a7 es.length c7)).setCell ⟨w.heap.size,7,none⟩ (.slice ad p.dares.length cd)).setCell ⟨w.heap.size,8,none⟩ (.slice aa p.answers.length ca)));have kk:Kept [w.heap.size] x8 wf:=el▸((((((((((Kept.refl [w.heap.size] x8).setCell (by simp) _).setCell (by simp) _).setCell (by simp) _).setCell (by simp) _).setCell (by simp) _).setCell (by simp) _).setCell (by simp) _).setCell (by simp) _).setCell (by simp) _);have kq:Kept [] w wf:=el▸(((((((((KQ.out.setCell (Or.inr (Nat.le_refl _)) _).setCell (Or.inr (Nat.le_refl _)) _).setCell (Or.inr (Nat.le_refl _)) _).setCell (Or.inr (Nat.le_refl _)) _).setCell (Or.inr (Nat.le_refl _)) _).setCell (Or.inr (Nat.le_refl _)) _).setCell (Or.inr (Nat.le_refl _)) _).setCell (Or.inr (Nat.le_refl _)) _).setCell (Or.inr (Nat.le_refl _)) _)
              have BB:Blk wf w.heap.size 135 #[.slice a1 o.length c1,.slice a2 A.length c2,.slice a3 i.length c3,.slice a4 cm.length c4,.slice a5 ch.length c5,.slice a6 I.length c6,.slice a7 es.length c7,.slice ad p.dares.length cd,.slice aa p.answers.length ca]:=by have:=(((((((((BQ.out.set_ 0 (.slice a1 o.length c1)).set_ 1 (.slice a2 A.length c2)).set_ 2 (.slice a3 i.length c3)).set_ 3 (.slice a4 cm.length c4)).set_ 4 (.slice a5 ch.length c5)).set_ 5 (.slice a6 I.length c6)).set_ 6 (.slice a7 es.length c7)).set_ 7 (.slice ad p.dares.length cd)).set_ 8 (.slice aa p.answers.length ca));rw[el]at this;simpa [aQ]using this
              have o3:=BB.cell 0;have o2:=BB.cell 1;have j1:=BB.cell 2;have o1:=BB.cell 3;have o0:=BB.cell 4;have nu:=BB.cell 5;have nr:=BB.cell 6;have nn:=BB.cell 7;have nk:=BB.cell 8;rw[el];have hF:=D8.out.fin [w.heap.size] wf kk (fun z d _=>by obtain rfl:=ms d;exact D8.out.qX);refine bodyPost_ret (v:=.tuple #[.agg #[.slice a1 o.length c1,.slice a2 A.length c2,.slice a3 i.length c3,.slice a4 cm.length c4,.slice a5 ch.length c5,.slice a6 I.length c6,.slice a7 es.length c7,.slice ad p.dares.length cd,.slice aa p.answers.length ca],.bool true]) (by simp[results,results83,go_sem,o3,o2,j1,o1,o0,nu,nr,nn,nk]) rfl ?_;rw[HR.out];obtain⟨hF,h7⟩:=p5 _ hF;obtain⟨hF,h6⟩:=p7 _ hF;obtain⟨hF,h5⟩:=p8 _ hF;obtain⟨hF,h4⟩:=pa _ hF;obtain⟨hF,h3⟩:=pc _ hF;obtain⟨hF,Q⟩:=n7 _ hF;obtain⟨hF,P⟩:=n8 _ hF;obtain⟨⟨h8,h9⟩,_⟩:=n9 _ hF;exact⟨_,rfl,⟨_,_,_,_,_,_,_,_,_,rfl,P,Q,h3,h4,h5,h6,h7,h8,h9⟩,kq⟩
             ·have hq:0 < nt:=by omega
              have HR:=hid (C.out (Or.inr (Or.inr hq)));clear C al D8;obtain⟨z0,z1,z2,z3,z4,z5,z6,z7,z8⟩:=bc9 BQ rfl;obtain⟨y0,y1,y2,y3,y4,y5,y6,y7,y8⟩:=bf9 BQ;go_wp2_with fail;refine bodyPost_ret (v:=.tuple #[.agg aQ,.bool false]) (by simp[results,results83,go_sem,aQ,z0,z1,z2,z3,z4,z5,z6,z7,z8]) rfl ?_;rw[HR.out];refine⟨_,rfl,bL _,?_⟩
              repeat (refine Kept.setCell ?_ (Or.inr (Nat.le_refl _)) _)
              exact KQ
            ·have HR:=hid (C.out (Or.inr (Or.inl (by omega))));clear C al D8;obtain⟨z0,z1,z2,z3,z4,z5,z6,z7,z8⟩:=bc9 BQ rfl;obtain⟨y0,y1,y2,y3,y4,y5,y6,y7,y8⟩:=bf9 BQ;go_wp2_with fail;refine bodyPost_ret (v:=.tuple #[.agg aQ,.bool false]) (by simp[results,results83,go_sem,aQ,z0,z1,z2,z3,z4,z5,z6,z7,z8]) rfl ?_;rw[HR.out];refine⟨_,rfl,bL _,?_⟩
             repeat (refine Kept.setCell ?_ (Or.inr (Nat.le_refl _)) _)
             exact KQ
           ·rw[hbd]at b1;have HR:=hid (C.out (Or.inl hbd));clear C al D8;obtain⟨z0,z1,z2,z3,z4,z5,z6,z7,z8⟩:=bc9 BQ rfl;obtain⟨y0,y1,y2,y3,y4,y5,y6,y7,y8⟩:=bf9 BQ;go_wp2_with fail;refine bodyPost_ret (v:=.tuple #[.agg aQ,.bool false]) (by simp[results,results83,go_sem,aQ,z0,z1,z2,z3,z4,z5,z6,z7,z8]) rfl ?_;rw[HR.out];refine⟨_,rfl,bL _,?_⟩
            repeat (refine Kept.setCell ?_ (Or.inr (Nat.le_refl _)) _)
            exact KQ
end Go.Proofs.YtcidfldeiklcjaaGreatDoor
