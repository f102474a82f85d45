import Derived.Test.YtcidfldeiklcjaaGreatDoorQeL
set_option maxRecDepth 100000
set_option maxHeartbeats 32000000
namespace Go.Proofs.YtcidfldeiklcjaaGreatDoor
open Go.RowKit Tape
open Go.Proofs.Tryz
open Lib(hid)
theorem vI(s:List UInt8)(w:World)(hE:Env w)(hs:s.length<=100000000) :
  Calls prog 153 #[s] w (se (cS s) w):=by
 obtain⟨U,bv,d4⟩:∃U rd,Wire.texts ⟨s,false⟩=(U,rd):=⟨_,_,rfl⟩;obtain⟨ns,cq,c0⟩:∃ns rd,Wire.nums bv=(ns,rd):=⟨_,_,rfl⟩;obtain⟨tx,cp,e7⟩:∃tx rd,Wire.text cq=(tx,rd):=⟨_,_,rfl⟩;obtain⟨p,ok,gg⟩:∃p ok,cG tx=(p,ok):=⟨_,_,rfl⟩;have lp:=hid (pK d4 c0 e7 gg);have eu:Fits ⟨s,false⟩:=hs;have dj:Fits bv:=eo d4 eu;have et:Fits cq:=ce c0 dj
 have im:Hid (Wire.Ok bv):=by have:=vU ⟨s,false⟩ (Wire.ok_fresh s);rw[d4]at this;exact this
 have ml:Hid (Wire.Ok cq):=by have:=Wire.ok_nums bv im.out;rw[c0]at this;exact this
 have ni:ns.length<=100000001:=by have:=dt bv dj;rw[c0]at this;exact this
 have n8:tx.length<=100000000:=by have:=(eN et).2;rw[e7]at this;exact this
 obtain⟨W,hW⟩:=nm (w.alloc (.cells aQ 135));have jm:Blk W w.heap.size 135 aQ:=hW▸Blk.new _ _ _;have gp:Kept [] w W:=hW▸kr.alloc _
 have iw:w.heap.size < W.heap.size:=by rw[<-hW];simp
 have pa:0 < w.heap.size:=by have:=hE.size;have:0 < NG:=(by decide);omega
 have i7:=hid (hE.kept0 gp);have HO:=hid (nZ s W i7);have HW:=hid hW;have l6:=hid d4;have lc:=hid c0;have l5:=hid e7;have la:=hid gg;clear d4 c0 e7 gg hW hE
 go_enter func153,ntmps153
 go_upto_region 1 with(fail);rw[show w.alloc (.cells #[(),(),(),(),(),(),(),(),()] 135)=W from HW.out];go_wp2_with (go_at_call 192;refine HO.mono ?_)
 first|rintro e w1 rfl h1 k1|rintro e w1 ⟨rfl,h1,k1⟩
 have E1:=hid (i7.kept0 k1);have HT:=hid (tz W.heap.size ⟨s,false⟩ l6 w1 h1 (Wire.ok_fresh s) eu);have K1:=hid (gp.trans k1);have j4:=k1.size;have kp:=h1.2.lt;have B1:=hid (jm.kept k1 (by simp))
 generalize nb:W.heap.size=rb at HT j4 kp iw ⊢
 clear h1 k1 HO jm i7 l6 gp HW nb;go_upto_region 2 with(fail);go_wp2_with (go_at_call 197;refine HT.mono ?_);rintro e w2 ⟨at_,ct,rfl,cs,h2,k2⟩;have E2:=hid (E1.out.kept k2 (by intro z o;obtain rfl:=ms o;exact h2.1));have HN:=hid (pC rb bv lc w2 h2 im.out dj);have K2:=hid (K1.out.fresh k2 (by simp;omega));have B2:=hid (B1.out.kept k2 (by simp;omega));have j3:=k2.size;have ea:=hid cs;have od:U.length<=9223372036854775807:=eV cs (by decide);clear h2 k2 HT K1 B1 E1 lc cs;go_upto_region 3 with(fail);go_wp2_with (go_at_call 193;refine HN.mono ?_);rintro e w3 ⟨av,cv,rfl,ed,h3,k3⟩;have E3:=hid (E2.out.kept k3 (by intro z o;obtain rfl:=ms o;exact h3.1));have K3:=hid (K2.out.fresh k3 (by simp;omega));have B3:=hid (B2.out.kept k3 (by simp;omega));have gb:=k3.size;have l0:=hid (af ea.out k3 (fun z o hm=>by have:=ak ea.out z o;rw[List.mem_singleton]at hm;omega));have l7:=hid (ak ea);obtain⟨g,ek,hg⟩:=Src.of_own ed (by omega);have j7:g=0\/w2.heap.size<=g/\g < w3.heap.size:=hg;have l9:=hid ek;have H3:=hid h3;clear h3 k3 HN K2 B2 E2 ea ed ek hg;go_upto_region 4 with(fail);obtain⟨w4,d3⟩:=nm (w3.alloc (.cells #[.slice av ns.length cv,.int .i64 0,.bool false] 233));have bk:Kept [] w3 w4:=d3▸kr.alloc _
 have ga:w3.heap.size < w4.heap.size:=by rw[<-d3];simp
 have T4:Hid (RwAt 233 w4 w3.heap.size g ⟨ns,false⟩):=⟨⟨av,cv,ns,0,d3▸Blk.new _ _ _,l9.out.keep bk (by simp),Nat.zero_le _,ni,fun _=>rfl,(by intro h;cases h)⟩,by omega⟩;have K4:=hid (K3.trans bk);have B4:=hid (B3.out.kept bk (by simp));have E4:=hid (E3.out.kept0 bk);have i3:=hid (af l0.out bk (by simp));have h4:RrAt w4 rb cq:=⟨H3.out.1,H3.out.2.kept bk (by simp)⟩;have HX:Hid (Calls prog 194 #[.pointer (some ⟨rb,0,none⟩)] w4 (xF rb tx cp w4)):=vD rb cq l5 w4 h4 ml.out et;rw[d3]
 generalize hb:w3.heap.size=b at T4 ga j7 gb ⊢
 clear d3 bk K3 B3 E3 l0 h4 H3 l9 l5 hb;go_wp2_with (go_at_call 194;refine HX.mono ?_);rintro e w5 ⟨rfl,h5,k5⟩;have E5:=hid (E4.out.kept k5 (by intro z o;obtain rfl:=ms o;exact h5.1));have K5:=hid (K4.out.fresh k5 (by simp;omega));have B5:=hid (B4.out.kept k5 (by simp;omega));have T5:=hid (T4.out.keep k5 (by simp;omega) (by simp;omega));have kz:=hid (af i3.out k5 (fun z o hm=>by have:=ak i3.out z o;rw[List.mem_singleton]at hm;omega));have j1:=k5.size
 have HP:Hid (Calls prog 199 #[tx] w5 (PfDP (p,ok) w5)):=by have:=qY tx w5 E5.out n8;rwa [la]at this
 have H5:=hid h5;clear h5 k5 HX K4 B4 E4 i3 T4 la;go_wp2_with (go_at_call 199;refine HP.mono ?_);rintro e w6 ⟨Q,O,T,P,rfl,j9,kc,k6⟩;obtain⟨w7,e3⟩:=nm (w6.alloc (.cells #[.slice Q p.dares.length O,.slice T p.answers.length P] 133));have bh:Kept [] w6 w7:=e3▸kr.alloc _
 have j0:w6.heap.size < w7.heap.size:=by rw[<-e3];simp
 have ec:Hid (Blk w7 w6.heap.size 133 #[.slice Q p.dares.length O,.slice T p.answers.length P]):=e3▸Blk.new _ _ _;have e8:=k6.size;have K7:=hid (K5.trans (k6.trans bh));have B7:=hid (B5.out.kept (k6.trans bh) (by simp));have T7:=hid (T5.out.keep (k6.trans bh) (by simp) (by simp));have kx:=hid (af kz.out (k6.trans bh) (by simp));have lq:=hid j9;have m5:=hid kc;have HD:Hid (Calls prog 198 #[.pointer (some ⟨rb,0,none⟩)] w7 (zm (done cp) w7)):=oe rb cp w7 ⟨H5.out.1,H5.out.2.kept (k6.trans bh) (by simp)⟩;have er:=hid bh;go_upto_region 5 with(fail)
 generalize j6:w6.heap.size=pb at ec j0 e8 ⊢
 have j5:=hid j6;clear j9 kc bh e3 k6 K5 B5 T5 kz H5 E5 HP j6
 generalize h0:done cp=dn at HD
 have gs:Hid (cS s=jK U ns cp (p,ok)):=lp.out
 have r:Hid ((dn&&ok)=false->cS s=(gL,false)):=fun h=>by
  rw[gs.out];unfold jK;rw[if_neg (by rw[h0];simp only[Bool.and_eq_true];intro h2;rw[h2.1.1.1,h2.1.1.2]at h;cases h)]
 have G:Hid (dn=true->ok=true->cS s=if ended (eG ⟨ns,false⟩).2&&decide (total (eG ⟨ns,false⟩).1.2.2.1=U.length)then(mkR (eG ⟨ns,false⟩).1 U p,true)else(gL,false)):=fun h1 h2=>by
  rw[gs.out];unfold jK;rw[h0,h1,h2];simp only[Bool.true_and]
 clear h0 lp gs;go_wp2_with (go_at_call 198;refine HD.mono ?_);rintro e w8 ⟨rfl,k8⟩;have B8:=hid (B7.out.kept k8 (by simp));have K8:=hid (K7.trans k8);clear HD
 cases hdd:dn
 ·have HR:=hid (r.out (by rw[hdd];rfl));clear r G;obtain⟨z0,z1,z2,z3,z4,z5,z6,z7,z8⟩:=bc9 B8.out rfl;obtain⟨y0,y1,y2,y3,y4,y5,y6,y7,y8⟩:=bf9 B8.out;go_wp2_with fail;refine bodyPost_ret (v:=.tuple #[.agg aQ,.bool false]) (by simp[results,results153,go_sem,aQ,z0,z1,z2,z3,z4,z5,z6,z7,z8]) rfl ?_;rw[HR.out];refine⟨_,rfl,bL _,?_⟩
  repeat (refine Kept.setCell ?_ (Or.inr (Nat.le_refl _)) _)
  exact K8
 ·cases hok:ok
  ·have HR:=hid (r.out (by rw[hdd,hok];rfl));clear r G;obtain⟨z0,z1,z2,z3,z4,z5,z6,z7,z8⟩:=bc9 B8.out rfl;obtain⟨y0,y1,y2,y3,y4,y5,y6,y7,y8⟩:=bf9 B8.out;go_wp2_with fail;refine bodyPost_ret (v:=.tuple #[.agg aQ,.bool false]) (by simp[results,results153,go_sem,aQ,z0,z1,z2,z3,z4,z5,z6,z7,z8]) rfl ?_;rw[HR.out];refine⟨_,rfl,bL _,?_⟩
   repeat (refine Kept.setCell ?_ (Or.inr (Nat.le_refl _)) _)
   exact K8
  ·have i6:=hid (G.out hdd hok);clear r G;have il:=(ec.out.kept k8 (by simp)).cell 0;have ik:=(ec.out.kept k8 (by simp)).cell 1;have T8:=hid (T7.out.keep k8 (by simp) (by simp));have i2:=hid (af kx.out k8 (by simp));have g9:=k8.size;have l4:=hid (er.out.trans k8);clear K7 B7 T7 kx k8 ec er;go_upto_region 8 with(fail);obtain⟨w9,d2⟩:=nm (w8.alloc (.cells #[(),(),(),(),(),(),(),.slice Q p.dares.length O,.slice T p.answers.length P] 135));have bx:Kept [] w8 w9:=d2▸kr.alloc _
   have na:w8.heap.size < w9.heap.size:=by rw[<-d2];simp
   obtain⟨N,gc⟩:=nm w8.heap.size
   have jc:Blk w9 N 135 #[(),(),(),(),(),(),(),.slice Q p.dares.length O,.slice T p.answers.length P]:=by rw[<-gc,<-d2];exact Blk.new _ _ _
   have d9:ae [b,N,w.heap.size] (fun w=>(ag aM 1 w (.slice Q p.dares.length O) p.dares/\ag bJ 1 w (.slice T p.answers.length P) p.answers)/\Row w 1 (.slice at_ U.length ct) U.length (strs U)) w9 :=
    ((lq.out.and m5.out).step (l4.out.trans bx) (by simp) (fun z o=>by
     have h6:=j5.out;simp only[List.mem_cons,List.not_mem_nil,or_false]at o;rw[List.mem_range]
     rcases o with rfl|rfl|rfl <;> omega)).and (ae.row (af i2.out bx (by simp)) (fun z o hm=>by
     have:=l7 z o;simp only[List.mem_cons,List.not_mem_nil,or_false]at hm
     rcases hm with rfl|rfl|rfl <;> omega) (eV i2.out (by decide)))
   obtain⟨F0,hl⟩:∃F:World->Prop,(fun w=>(ag aM 1 w (.slice Q p.dares.length O) p.dares/\ag bJ 1 w (.slice T p.answers.length P) p.answers)/\Row w 1 (.slice at_ U.length ct) U.length (strs U))=F:=⟨_,rfl⟩
   have ln:Hid (∀w,F0 w->(ag aM 1 w (.slice Q p.dares.length O) p.dares/\ag bJ 1 w (.slice T p.answers.length P) p.answers)/\Row w 1 (.slice at_ U.length ct) U.length (strs U)):=fun w h=>by rw[<-hl]at h;exact h
   rw[hl]at d9
   have D9:Hid (Qe w w9 b g N [b,N,w.heap.size] F0 #[(),(),(),(),(),(),(),.slice Q p.dares.length O,.slice T p.answers.length P] ⟨ns,false⟩) := ⟨T8.out.keep bx (by simp) (by simp),jc,d9,by simp,by simp,by simp,fun z o=>by simp only[List.mem_cons,List.not_mem_nil,or_false]at o;rcases o with rfl|rfl|rfl <;> omega,by omega,by omega,by omega,by omega,by omega,B8.out.kept bx (by simp),K8.out.trans bx⟩
   rw[d2];rw[gc];clear jc d9 hl bx d2 gc T8 i2 B8 K8 l4 lq m5 il ik l7;clear j4 kp iw j3 gb ga j1 e8 j0 g9 na j7;have m3:=hid (eE b g (⟨ns,false⟩:Tp) w9 D9.out.tp);go_wp2_with (go_at_call 200;refine m3.mono ?_);rintro e y1 ⟨N1,q1,rfl,B,_,ba,t,kk⟩
   have p0:N1<=100000001:=by have:=t.len;omega
   have hv:=hid (TR.start dJ B);have G1:Hid (Qg fG 6 178 0 w y1 b g N y1.heap.size _ F0 #[(),(),(),(),(),(),(),.slice Q p.dares.length O,.slice T p.answers.length P] none 0 0 [] q1):=Qg.start (D9.out.read kk t) rfl;clear t kk m3 D9 B ba
   generalize o3:y1.heap.size=B1 at G1
   clear o3
   go_upto_block 0 with(fail)
   go_cut [10] (fun _ wc=>QEnd fG 6 178 0 tick w b g N B1 F0 #[(),(),(),(),(),(),(),.slice Q p.dares.length O,.slice T p.answers.length P] (⟨ns,false⟩:Tp) N1 wc)
   case first =>
    go_wp2_with fail
    go_loopw [10] (fun vi wr=>QRel fG 6 178 0 tick w b g N B1 F0 #[(),(),(),(),(),(),(),.slice Q p.dares.length O,.slice T p.answers.length P] (many tick (⟨ns,false⟩:Tp)) N1 vi wr) (fun vi _=>(intOf vi).toNat)
    case atStart=>exact⟨N1,q1,[],_,_,_,_,rfl,by simp,hv.out,G1.out⟩
    case round =>
     obtain⟨j,r1,d,X1,Y,n1,X,rfl,hN,hf,hD⟩:=hrel;have C:=hid hD;have HF:=hid hf;have HN:=hid hN
     have eq:d.length<=N1:=by omega
     have gt:j<=N1:=by omega
     have cb:=hD.de.tp.cells;clear hD hf G1 hv hN
     by_cases G:0 < j/\r1.bad=false
     rotate_left
     ·skip
      have hk:j=0\/r1.bad=true:=by
       rcases Nat.eq_zero_or_pos j with h|h
       ·exact Or.inl h
       ·right
        cases hb:r1.bad
        ·exact absurd ⟨h,hb⟩ G
        ·rfl
      have HE:Hid (QEnd fG 6 178 0 tick w b g N B1 F0 #[(),(),(),(),(),(),(),.slice Q p.dares.length O,.slice T p.answers.length P] (⟨ns,false⟩:Tp) N1 wr):=⟨r1,d,X1,Y,n1,X,eq,HF.done hk,C⟩;clear G
      by_cases hlt:0 < j
      ·have hb:r1.bad=true:=by
        rcases hk with h|h
        ·omega
        ·exact h
       rw[hb]at cb;clear hb hk;go_wp2_with fail
       go_meet
       case rel=>exact HE
      ·obtain rfl:j=0:=by omega
       clear hk;go_wp2_with fail
       go_meet
       case rel=>exact HE
     ·obtain⟨hj,I⟩:=G;obtain⟨j,rfl⟩:∃k,j=k+1:=⟨j - 1,by omega⟩;rw[I]at cb;have bt:=hid I;clear I hj;have b4:Hid (∀u,RwAt 233 u b g r1->g < u.heap.size->Calls prog 201 #[.pointer (some ⟨b,0,none⟩)] u (ze b g r1 u)):=fun u h1 h2=>mT b g r1 u h1 h2;have q0:=C.out.cell (by simp);have qf:=hid C.frozen;have d7:g < wr.drew.heap.size:=C.de.gl;have dd:RwAt 233 wr.drew b g r1:=C.out.de.tp.keep (S:=[]) kr.drew (by simp) (by simp);obtain⟨i0,hi,ah,ac,ab⟩:=info_parts wK;go_upto_region 11 with(fail);refine aJ [6,7] (fun w'=>Kept (b::obl (.slice Y n1 X)) wr w') (by kernel_rfl) kr.drew (fun hH=>?_);refine tk [1,5,6,7] 0 rfl hH ?_;simp only[Act.put,sA,s0_,s1_];refine tk [5,6,7] 1 rfl hH ?_;simp only[Act.put,sA,s0_,s1_];refine tk [3,4,5,6,7] 2 rfl hH ?_;simp only[Act.put,sA,s0_,s1_];refine YtcidfldeiklcjaaGreatDoor.r1 3 rfl fun K hK=>?_;go_simp;refine(b4 wr.drew dd d7).mono ?_;rintro e y ⟨t1,t2,t3,t4,t5,t6,r',rfl,B,co,kb⟩;have bd:=hid (HF.step dJ bt B);have bc:Kept [b] wr y:=(Kept.refl [b] wr).drew.trans kb
      have ap:Kept (b::obl (.slice Y n1 X)) wr y:=bc.mono fun z _ o=>by obtain rfl:=ms o;exact List.mem_cons_self
      refine hK.out _ _ ap (fun hH=>?_);clear hK K
      (try simp only[Act.put,sA,s0_,s1_])
      refine YtcidfldeiklcjaaGreatDoor.r1 4 rfl fun K hK=>?_;go_simp;refine hK.out _ _ (hH.alloc _) (fun hH=>?_);clear hK K
      (try simp only[Act.put,sA,s0_,s1_])
      refine YtcidfldeiklcjaaGreatDoor.r1 5 rfl fun K hK=>?_;refine gB (C.out.read bc co) rfl _ _ 128 rfl i0 (.agg #[.int .i64 0,.int .i64 0,.int .i64 0,.int .i64 0,.int .i64 0,.int .i64 0]) 48 underlying128 hi ah ac ab rfl (by decide) (by decide) rfl _ rfl [t1,t2,t3,t4,t5,t6] (t1,t2,t3,t4,t5,t6) (rowS rfl _ _ _ rfl) (kr.alloc _) (ae.const rfl) (by simp[Value.oneCell']) (by omega) ?_;intro p q y2 ks HX;have al:Kept (b::obl (.slice Y n1 X)) wr y2:=ap.trans (ks.mono fun z _ o=>List.mem_cons_of_mem _ o);have z0:=q0 _ al;have f0:=qf.out _ al;refine hK.out _ _ al (fun hH=>?_);clear hK K
      (try simp only[Act.put,List.setIfInBounds_toArray])
      refine YtcidfldeiklcjaaGreatDoor.r2 6 rfl fun K hK=>?_;go_simp;refine hK.out _ _ ?_;clear hK K
      (try simp only[Act.put,sA,s0_,s1_])
      refine YtcidfldeiklcjaaGreatDoor.r2 7 rfl fun K hK=>?_;go_simp;refine hK.out _ _ ?_;clear hK K
      (try simp only[Act.put,sA,s0_,s1_])
      refine aD (by kernel_rfl) ?_ _;have b3:=hid (QRel.next (one:=tick) (fin:=many tick (⟨ns,false⟩:Tp)) HX HN bd);clear HX al ap q0 hH;go_wp2_with fail
      go_roundw
      case rel=>exact b3
      case measure=>simp[intOf] <;> omega
   case rest =>
    obtain⟨r1,d,X1,Y,n1,X,eq,hS,hD⟩:=hcut;have C:=hid hD;have E1:=hid hS;clear hD hS G1 hv;have hn:=C.nl;subst hn;obtain⟨Y1,hD',hX',hv'⟩:=C.out.done (by omega);obtain⟨F1,a0⟩:∃F:World->Prop,(fun w=>F0 w/\ag fG 6 w (.slice Y d.length X) d)=F:=⟨_,rfl⟩
    have lm:Hid (∀w,F1 w->F0 w/\ag fG 6 w (.slice Y d.length X) d):=fun w h=>by rw[<-a0]at h;exact h
    rw[a0]at hD';have D1:Hid (Qe w wc b g N Y1 F1 #[.slice Y d.length X,(),(),(),(),(),(),.slice Q p.dares.length O,.slice T p.answers.length P] r1):=hD';clear hD' hX' hv' a0 C;obtain⟨x1,it⟩:∃x,wc=x:=⟨_,rfl⟩;rw[it]at D1 ⊢;clear it wc;have m2:=hid (eE b g r1 x1 D1.out.tp);go_wp2_with (go_at_call 200;refine m2.mono ?_);rintro e y2 ⟨N2,q2,rfl,B,_,ba,t,kk⟩
    have ot:N2<=100000001:=by have:=t.len;omega
    have ht:=hid (TR.start bH B);have G2:Hid (Qg eQ 2 181 1 w y2 b g N y2.heap.size _ F1 #[.slice Y d.length X,(),(),(),(),(),(),.slice Q p.dares.length O,.slice T p.answers.length P] none 0 0 [] q2):=Qg.start (D1.out.read kk t) rfl;clear t kk m2 D1 B ba
    generalize o2:y2.heap.size=B2 at G2
    clear o2
    go_upto_block 2 with(fail)
    go_cut [11] (fun _ wc=>QEnd eQ 2 181 1 spnd w b g N B2 F1 #[.slice Y d.length X,(),(),(),(),(),(),.slice Q p.dares.length O,.slice T p.answers.length P] r1 N2 wc)
    case first =>
     go_wp2_with fail
     go_loopw [11] (fun vi wr=>QRel eQ 2 181 1 spnd w b g N B2 F1 #[.slice Y d.length X,(),(),(),(),(),(),.slice Q p.dares.length O,.slice T p.answers.length P] (many spnd r1) N2 vi wr) (fun vi _=>(intOf vi).toNat)
     case atStart=>exact⟨N2,q2,[],_,_,_,_,rfl,by simp,ht.out,G2.out⟩
     case round =>
      obtain⟨j,r2,i,X2,a2,n2,c2,rfl,hN,hf,hD⟩:=hrel;have C:=hid hD;have HF:=hid hf;have HN:=hid hN
      have en:i.length<=N2:=by omega
      have gt:j<=N2:=by omega
      have cb:=hD.de.tp.cells;clear hD hf G2 ht hN
      by_cases G:0 < j/\r2.bad=false
      rotate_left
      ·skip
       have hk:j=0\/r2.bad=true:=by
        rcases Nat.eq_zero_or_pos j with h|h
        ·exact Or.inl h
        ·right
         cases hb:r2.bad
         ·exact absurd ⟨h,hb⟩ G
         ·rfl
       have HE:Hid (QEnd eQ 2 181 1 spnd w b g N B2 F1 #[.slice Y d.length X,(),(),(),(),(),(),.slice Q p.dares.length O,.slice T p.answers.length P] r1 N2 wr):=⟨r2,i,X2,a2,n2,c2,en,HF.done hk,C⟩;clear G
       by_cases hlt:0 < j
       ·have hb:r2.bad=true:=by
         rcases hk with h|h
         ·omega
         ·exact h
        rw[hb]at cb;clear hb hk;go_wp2_with fail
        go_meet
        case rel=>exact HE
       ·obtain rfl:j=0:=by omega
        clear hk;go_wp2_with fail
        go_meet
        case rel=>exact HE
      ·obtain⟨hj,I⟩:=G;obtain⟨j,rfl⟩:∃k,j=k+1:=⟨j - 1,by omega⟩;rw[I]at cb;have bt:=hid I;clear I hj;have b4:Hid (∀u,RwAt 233 u b g r2->g < u.heap.size->Calls prog 202 #[.pointer (some ⟨b,0,none⟩)] u (zg b g r2 u)):=fun u h1 h2=>pQ b g r2 u h1 h2;have q0:=C.out.cell (by simp);have qf:=hid C.frozen;have d7:g < wr.drew.heap.size:=C.de.gl;have dd:RwAt 233 wr.drew b g r2:=C.out.de.tp.keep (S:=[]) kr.drew (by simp) (by simp);obtain⟨i0,hi,ah,ac,ab⟩:=info_parts wL;go_upto_region 15 with(fail);refine aJ [6,7] (fun w'=>Kept (b::obl (.slice a2 n2 c2)) wr w') (by kernel_rfl) kr.drew (fun hH=>?_);refine tk [1,5,6,7] 0 rfl hH ?_;simp only[Act.put,sA,s0_,s1_];refine tk [5,6,7] 1 rfl hH ?_;simp only[Act.put,sA,s0_,s1_];refine tk [3,4,5,6,7] 2 rfl hH ?_;simp only[Act.put,sA,s0_,s1_];refine YtcidfldeiklcjaaGreatDoor.r1 3 rfl fun K hK=>?_;go_simp;refine(b4 wr.drew dd d7).mono ?_;rintro e y ⟨l,A,r',E,D,rfl,bb,B,ke,co,kb⟩;have bd:=hid (HF.step bH bt B);have bc:Kept [b] wr y:=(Kept.refl [b] wr).drew.trans kb
       have ap:Kept (b::obl (.slice a2 n2 c2)) wr y:=bc.mono fun z _ o=>by obtain rfl:=ms o;exact List.mem_cons_self
       have dc:=C.de.hX
       have ha:Hid (ae X2 (fun w=>eQ w [l,.slice E A.length D] (l,A)) y) :=
        (ae.row bb (fun z o hm=>by have h1:=(ak bb z o).1;have h2:=dc z hm;have h3:wr.drew.heap.size=wr.heap.size:=rfl;omega) (by omega)).imp fun _ h=>⟨_,rfl,h⟩
       clear dc;refine hK.out _ _ ap (fun hH=>?_);clear hK K
       (try skip)
       refine YtcidfldeiklcjaaGreatDoor.r1 4 rfl fun K hK=>?_;go_simp;refine hK.out _ _ (hH.alloc _) (fun hH=>?_);clear hK K
       (try simp only[Act.put,sA,s0_,s1_])
       refine YtcidfldeiklcjaaGreatDoor.r1 5 rfl fun K hK=>?_;refine gB (C.out.read bc co) rfl _ _ 129 rfl i0 (.agg #[.int .i64 0,()]) 32 underlying129 hi ah ac ab rfl (by decide) (by decide) rfl _ rfl [l,.slice E A.length D] (l,A) (rowS rfl _ _ _ rfl) (kr.alloc _) ha.out (by simp[Value.oneCell']) (by omega) ?_;intro p q y2 ks HX;have al:Kept (b::obl (.slice a2 n2 c2)) wr y2:=ap.trans (ks.mono fun z _ o=>List.mem_cons_of_mem _ o);have z0:=q0 _ al;have f0:=qf.out _ al;refine hK.out _ _ al (fun hH=>?_);clear hK K
       (try simp only[Act.put,List.setIfInBounds_toArray])
       refine YtcidfldeiklcjaaGreatDoor.r2 6 rfl fun K hK=>?_;go_simp;refine hK.out _ _ ?_;clear hK K
       (try simp only[Act.put,sA,s0_,s1_])
       refine YtcidfldeiklcjaaGreatDoor.r2 7 rfl fun K hK=>?_;go_simp;refine hK.out _ _ ?_;clear hK K
       (try simp only[Act.put,sA,s0_,s1_])
       refine aD (by kernel_rfl) ?_ _;have b3:=hid (QRel.next (one:=spnd) (fin:=many spnd r1) HX HN bd);clear HX al ap q0 hH;go_wp2_with fail
       go_roundw
       case rel=>exact b3
       case measure=>simp[intOf] <;> omega
    case rest =>
     obtain⟨r2,i,X2,a2,n2,c2,en,hS,hD⟩:=hcut;have C:=hid hD;have E2:=hid hS;clear hD hS G2 ht;have hn:=C.nl;subst hn;obtain⟨Y2,hD',hX',hv'⟩:=C.out.done (by omega);obtain⟨F2,a0⟩:∃F:World->Prop,(fun w=>F1 w/\ag eQ 2 w (.slice a2 i.length c2) i)=F:=⟨_,rfl⟩
     have lk:Hid (∀w,F2 w->F1 w/\ag eQ 2 w (.slice a2 i.length c2) i):=fun w h=>by rw[<-a0]at h;exact h
     rw[a0]at hD';have D2:Hid (Qe w wc b g N Y2 F2 #[.slice Y d.length X,.slice a2 i.length c2,(),(),(),(),(),.slice Q p.dares.length O,.slice T p.answers.length P] r2):=hD';clear hD' hX' hv' a0 C;obtain⟨x2,ir⟩:∃x,wc=x:=⟨_,rfl⟩;rw[ir]at D2 ⊢;clear ir wc;have m1:=hid (eE b g r2 x2 D2.out.tp);go_wp2_with (go_at_call 200;refine m1.mono ?_);rintro e y3 ⟨N3,q3,rfl,B,_,ba,t,kk⟩
     have os:N3<=100000001:=by have:=t.len;omega
     have hr:=hid (TR.start (aW dI) B);have G3:Hid (Qg cr 1 183 2 w y3 b g N y3.heap.size _ F2 #[.slice Y d.length X,.slice a2 i.length c2,(),(),(),(),(),.slice Q p.dares.length O,.slice T p.answers.length P] none 0 0 [] q3):=Qg.start (D2.out.read kk t) rfl;clear t kk m1 D2 B ba
     generalize o1:y3.heap.size=B3 at G3
     clear o1
     go_upto_block 4 with(fail)
     go_cut [12,13,14,15,16] (fun vt _ _ _ _ wc=>zj w b g N B3 F2 #[.slice Y d.length X,.slice a2 i.length c2,(),(),(),(),(),.slice Q p.dares.length O,.slice T p.answers.length P] r2 N3 U vt wc)
     case first =>
      go_wp2_with fail
      go_loopw [12,13] (fun vt vi wr=>sV w b g N B3 F2 #[.slice Y d.length X,.slice a2 i.length c2,(),(),(),(),(),.slice Q p.dares.length O,.slice T p.answers.length P] r2 N3 U vt vi wr) (fun _ vi _=>(intOf vi).toNat)
      case atStart=>exact⟨N3,q3,[],_,none,0,0,0,rfl,rfl,by simp,hr.out,Used.nil_ U,by simp,G3.out⟩
      case round =>
       obtain⟨j,r3,f,X3,a3,n3,c3,nt,rfl,rfl,hN,hf,hu,go,hD⟩:=hrel;have C:=hid hD;have HF:=hid hf;have HN:=hid hN;have HU:=hid hu
       have em:f.length<=N3:=by omega
       have gt:j<=N3:=by omega
       have cb:=hD.de.tp.cells;clear hD hf hu G3 hr hN
       by_cases G:0 < j/\r3.bad=false
       rotate_left
       ·skip
        have hk:j=0\/r3.bad=true:=by
         rcases Nat.eq_zero_or_pos j with h|h
         ·exact Or.inl h
         ·right
          cases hb:r3.bad
          ·exact absurd ⟨h,hb⟩ G
          ·rfl
        have HE:Hid (zj w b g N B3 F2 #[.slice Y d.length X,.slice a2 i.length c2,(),(),(),(),(),.slice Q p.dares.length O,.slice T p.answers.length P] r2 N3 U (.int .i64 (nt:Int)) wr):=⟨r3,f,X3,a3,n3,c3,nt,rfl,em,HF.done hk,HU,go,C⟩;clear G
        by_cases hlt:0 < j
        ·have hb:r3.bad=true:=by
          rcases hk with h|h
          ·omega
          ·exact h
         rw[hb]at cb;clear hb hk;go_wp2_with fail
         go_meet
         case rel=>exact HE
        ·obtain rfl:j=0:=by omega
         clear hk;go_wp2_with fail
         go_meet
         case rel=>exact HE
       ·obtain⟨hj,I⟩:=G;obtain⟨j,rfl⟩:∃k,j=k+1:=⟨j - 1,by omega⟩;rw[I]at cb;have bt:=hid I;clear I hj;have ls:=hid (eE b g r3 wr C.de.tp);go_wp2_with (go_at_call 200;refine ls.mono ?_);rintro e yo ⟨Ni,qi,rfl,B,_,ba,t,kk⟩
        have oo:Ni<=100000001:=by have:=t.len;omega
        have ho:=hid (TR.start dI B);have Do:=hid (C.read kk t)
        have I0:Hid (LiQ w yo yo b g N B3 X3 F2 #[.slice Y d.length X,.slice a2 i.length c2,(),(),(),(),(),.slice Q p.dares.length O,.slice T p.answers.length P] a3 n3 c3 f qi qi none 0 0 []) := ⟨Do.out,kr,t,rfl,⟨X3,fun _ h=>h,Do.out.de.hX,by simp[obl,Value.ownBlock],Grow.nil_ _ _ _ _ _ _⟩⟩
        clear t kk ls C Do B ba cb
        go_upto_block 6 with(fail)
        go_cut [12,14,15,16] (fun vt v14 _ _ w2=>xJ w yo b g N B3 X3 F2 #[.slice Y d.length X,.slice a2 i.length c2,(),(),(),(),(),.slice Q p.dares.length O,.slice T p.answers.length P] a3 n3 c3 f qi r3 Ni U vt v14 w2)
        case first =>
         go_wp2_with fail
         go_loopw [12,14,15] (fun vt v14 vi w2=>InQ w yo b g N B3 X3 F2 #[.slice Y d.length X,.slice a2 i.length c2,(),(),(),(),(),.slice Q p.dares.length O,.slice T p.answers.length P] a3 n3 c3 f qi r3 Ni U vt v14 vi w2) (fun _ _ vi _=>(intOf vi).toNat)
         case atStart=>exact⟨Ni,qi,[],none,0,0,nt,rfl,rfl,rfl,by simp,ho.out,by simpa using HU.out,by simpa using go,I0.out⟩
         case round =>
          obtain⟨j2,r4,R,b7,b5,b6,nu,rfl,rfl,rfl,kn,j8,iz,gn,hI⟩:=hrel;have II:=hid hI;have bd:=hid j8;have le:=hid kn;have i5:=hid iz
          have kf:R.length<=Ni:=by omega
          have ol:j2<=Ni:=by omega
          have cb:=hI.tp.cells;clear hI j8 iz I0 ho kn
          by_cases G:0 < j2/\r4.bad=false
          rotate_left
          ·skip
           have hk:j2=0\/r4.bad=true:=by
            rcases Nat.eq_zero_or_pos j2 with h|h
            ·exact Or.inl h
            ·right
             cases hb:r4.bad
             ·exact absurd ⟨h,hb⟩ G
             ·rfl
           have HE:Hid (xJ w yo b g N B3 X3 F2 #[.slice Y d.length X,.slice a2 i.length c2,(),(),(),(),(),.slice Q p.dares.length O,.slice T p.answers.length P] a3 n3 c3 f qi r3 Ni U (.int .i64 (nu:Int)) (.slice b7 b5 b6) wr):=⟨r4,R,b7,b5,b6,nu,rfl,rfl,kf,bd.done hk,i5,gn,II⟩;clear G
           by_cases hlt:0 < j2
           ·have hb:r4.bad=true:=by
             rcases hk with h|h
             ·omega
             ·exact h
            rw[hb]at cb;clear hb hk;go_wp2_with fail
            go_meet
            case rel=>exact HE
           ·obtain rfl:j2=0:=by omega
            clear hk;go_wp2_with fail
            go_meet
            case rel=>exact HE
          ·obtain⟨hj,I⟩:=G;obtain⟨j2,rfl⟩:∃k,j2=k+1:=⟨j2 - 1,by omega⟩;rw[I]at cb;have m4:=hid I;clear I hj;obtain⟨v1,e6⟩:=nm (wr.alloc (.cells #[.int .i64 0,.int .i64 0,.int .i64 0,.int .i64 0,.int .i64 0,.int .i64 0,.int .i64 0,(),.string ⟨#[]⟩] 185));obtain⟨lb,e9⟩:=nm wr.heap.size
           have i8:Hid (Blk v1 lb 185 #[.int .i64 0,.int .i64 0,.int .i64 0,.int .i64 0,.int .i64 0,.int .i64 0,.int .i64 0,(),.string ⟨#[]⟩]):=by show Blk _ _ _ _;rw[<-e6,<-e9];exact Blk.new _ _ _
           have g7:Kept [] wr v1:=e6▸kr.alloc _;have nk:g < wr.heap.size:=Nat.lt_of_lt_of_le II.do_.de.gl II.kb.size;have nr:b < wr.heap.size:=Nat.lt_of_lt_of_le II.do_.de.bl II.kb.size;have pl:lb < v1.heap.size:=i8.lt;have I1:=hid (II.keep g7);have l3:Hid (Kept [b] wr v1):=g7.mono (by simp);have bs:=hid e9;have o4:=hid e6;rw[e9]at nk nr;clear e6 g7 e9;go_upto_region 25 with(fail);rw[o4.out,bs.out];have lx:=hid (mT b g r4 v1 I1.out.tp (by omega));go_wp2_with (go_at_call 201;refine lx.mono ?_);rintro e v2 ⟨t1,t2,t3,t4,t5,t6,ra,rfl,ej,ih,d0⟩;have I2:=hid (I1.out.read d0 ih);have kw:=hid ej;have am:=i8.out.kept d0 (by simp;omega);have l2:=hid (l3.trans d0);have j3:=d0.size;clear ih d0 ej lx I1 i8 l3;have u0:=am.cell 0;have f0:=am.frozen 0;have u1:=am.cell 1;have f1:=am.frozen 1;have u2:=am.cell 2;have f2:=am.frozen 2;have u3:=am.cell 3;have f3:=am.frozen 3;have u4:=am.cell 4;have f4:=am.frozen 4;have u5:=am.cell 5;have f5:=am.frozen 5;go_upto_region 26 with(fail);obtain⟨v3,e5⟩:=nm (((((((v2.setCell ⟨lb,0,none⟩ t1).setCell ⟨lb,1,none⟩ t2).setCell ⟨lb,2,none⟩ t3).setCell ⟨lb,3,none⟩ t4).setCell ⟨lb,4,none⟩ t5).setCell ⟨lb,5,none⟩ t6))
           have m6:Hid (Blk v3 lb 185 #[t1,t2,t3,t4,t5,t6,.int .i64 0,(),.string ⟨#[]⟩]):=by show Blk _ _ _ _;have:=((((((am.set_ 0 t1).set_ 1 t2).set_ 2 t3).set_ 3 t4).set_ 4 t5).set_ 5 t6);rw[e5]at this;simpa using this
           have e1:Kept [lb] v2 v3:=e5▸(((((((Kept.refl [lb] v2).setCell (by simp) _).setCell (by simp) _).setCell (by simp) _).setCell (by simp) _).setCell (by simp) _).setCell (by simp) _);have i4:Hid (Kept [b] wr v3):=l2.out.fresh e1 (by have:=bs.out;simp;omega);have gb:=e1.size;have hw:=hid (I2.out.tp.keep e1 (by simp;omega) (by simp;omega));have I3:=hid (II.read i4 hw);rw[e5];clear e5 am e1 l2 I2 u0 u1 u2 u3 u4 u5 f0 f1 f2 f3 f4 f5;have lz:=hid (pQ b g ra v3 hw.out (by omega));go_wp2_with (go_at_call 202;refine lz.mono ?_);rintro e v4 ⟨l,A,rb',E,D,rfl,bb,eg,ke,ig,e0⟩;have kv:Hid (Stg lnk r4 ((t1,t2,t3,t4,t5,t6),(l,A)) rb'):=Stg.both bH kw eg;have lo:=hid (bd.step dI m4 kv);have cl:=m6.out.kept e0 (by simp;omega);have l1:=hid (i4.trans e0);have ga:=e0.size;have ku:=hid ig;have i1:=hid bb;have u6:=cl.cell 6;have f6:=cl.frozen 6;have u7:=cl.cell 7;have f7:=cl.frozen 7;clear ig e0 bb eg lz m6 i4 kw kv I3 hw;go_upto_region 27 with(fail);obtain⟨v5,e4⟩:=nm ((v4.setCell ⟨lb,6,none⟩ l).setCell ⟨lb,7,none⟩ (.slice E A.length D))
           have cg:Hid (Blk v5 lb 185 #[t1,t2,t3,t4,t5,t6,l,.slice E A.length D,.string ⟨#[]⟩]):=by show Blk _ _ _ _;have:=(cl.set_ 6 l).set_ 7 (.slice E A.length D);rw[e4]at this;simpa using this
           have d1:Kept [lb] v4 v5:=e4▸((Kept.refl [lb] v4).setCell (by simp) _).setCell (by simp) _;have dr:Hid (Kept [b] wr v5):=l1.out.fresh d1 (by have:=bs.out;simp;omega);have j1:=d1.size;have dl:=hid (ku.out.keep d1 (by simp;omega) (by simp;omega));have c9:=hid (af i1.out d1 (fun z o hm=>by have:=ak i1.out z o;rw[List.mem_singleton]at hm;omega));have I5:=hid (II.read dr dl);rw[e4];clear e4 cl d1 l1 u6 u7 f6 f7 ku i1;have pk:nu<=20000000000000000:=qL gn (by omega) (by omega)
           by_cases hlt:nu < U.length
           ·skip
            have d5:Row v5 1 (.slice at_ U.length ct) U.length (strs U):=(ln _ (lm _ (lk _ I5.out.fin).1).1).2;obtain⟨tb,p1,n9,da⟩:=Row.at_ (n:=U.length) (m:=U.length) d5 (by omega);have hx:=da nu _ (pi hlt);have cc:=hid (i5.hit hlt)
            generalize n7:U[nu]=tm at hx cc
            subst n9
            have ja:U.length<=ct:=d5.2.2.elim fun a h=>h.elim fun c h=>by have h1:=h.1;injection h1 with _ _ h3;subst h3;exact h.2.1
            have u8:=cg.cell 8;have f8:=cg.frozen 8;obtain⟨M,hM⟩:=nm U.length;have bo:=hid hM
            have hlt':nu < M:=by omega
            have ko:M<=9223372036854775807:=by omega
            have hcap':M<=ct:=by omega
            clear d5 da n7 hlt ja hM;rw[bo.out];go_upto_region 29 with(fail);obtain⟨v6,b9⟩:=nm (v5.setCell ⟨lb,8,none⟩ tm)
            have V:Hid (Blk v6 lb 185 #[t1,t2,t3,t4,t5,t6,l,.slice E A.length D,tm]):=by show Blk _ _ _ _;have:=cg.out.set_ 8 tm;rw[b9]at this;simpa using this
            have ao:Kept [lb] v5 v6:=b9▸(Kept.refl [lb] v5).setCell (by simp) _;rw[b9,<-bo.out];clear b9 u8 f8 hx;have dm:Hid (Kept [b] wr v6):=dr.out.fresh ao (by have:=bs.out;simp;omega);have e8:=ao.size;have dk:=hid (dl.out.keep ao (by simp;omega) (by simp;omega));have bm:=hid (af c9.out ao (fun z o hm=>by have:=ak c9.out z o;rw[List.mem_singleton]at hm;omega));have g6:=V.cell 0;have g0:=V.cell 1;have fz:=V.cell 2;have ft:=V.cell 3;have fs:=V.cell 4;have fr:=V.cell 5;have fn:=V.cell 6;have fg:=V.cell 7;have fb:=V.cell 8;obtain⟨X2,x1,x2,x3,G4⟩:=II.gr;have ka:Kept [] v6 (v6.alloc (.cells #[t1,t2,t3,t4,t5,t6,l,.slice E A.length D,tm] 185)):=(Kept.refl [] _).alloc _;have a9:Kept [b] wr (v6.alloc (.cells #[t1,t2,t3,t4,t5,t6,l,.slice E A.length D,tm] 185)):=dm.out.trans (ka.mono (by simp))
            have di:∀z∈[b],z < wr.heap.size->z∈X2:=fun z o _=>by obtain rfl:=ms o;exact x1 _ II.do_.de.bX
            have d8:=II.ge;have db:=II.do_.de.bl
            have EL:Hid (ae X2 (fun w=>LnkR w [t1,t2,t3,t4,t5,t6,l,.slice E A.length D,tm] (((t1,t2,t3,t4,t5,t6),(l,A)),tm)) (v6.alloc (.cells #[t1,t2,t3,t4,t5,t6,l,.slice E A.length D,tm] 185))) :=
             (ae.row (af bm.out ka (by simp)) (fun z o hm=>by have h1:=(ak bm.out z o).1;have h2:=x2 z hm;have:=bs.out;omega) (by omega)).imp fun _ h=>⟨_,rfl,h⟩
            have GA:Hid (Grow LnkR 9 185 yo.heap.size X2 (v6.alloc (.cells #[t1,t2,t3,t4,t5,t6,l,.slice E A.length D,tm] 185)) (.slice b7 b5 b6) R):=G4.step a9 (fun z o hm=>by have:=d8 z o;rw[List.mem_singleton]at hm;omega) di (fun z o=>Or.inl o);have IA:=hid (II.out.read a9 (dk.out.keep ka (by simp) (by simp)));have XA:=hid x1;have XB:=hid (fun z o=>Nat.lt_of_lt_of_le (x2 z o) a9.size);have XC:=hid x3;have d6:=hid (show yo.heap.size<=(v6.alloc (.cells #[t1,t2,t3,t4,t5,t6,l,.slice E A.length D,tm] 185)).heap.size by have:=IA.out.kb.size;exact this);have ds:=hid II.e10;obtain⟨i0,hi,ah,ac,ab⟩:=info_parts oE;clear ka a9 di d8 db G4 x1 x2 x3 II I5 ao dr dl c9 cg dm dk bm;go_wp2_with (at_builtin;refine aq rfl _ _ 183 rfl i0 (.agg #[.int .i64 0,.int .i64 0,.int .i64 0,.int .i64 0,.int .i64 0,.int .i64 0,.int .i64 0,(),.string ⟨#[]⟩]) 96 underlying183 hi ah ac ab rfl (by decide) (by decide) rfl GA.out _ [t1,t2,t3,t4,t5,t6,l,.slice E A.length D,tm] (((t1,t2,t3,t4,t5,t6),(l,A)),tm) rfl (rowS rfl _ _ _ rfl) EL.out (by simp[Value.oneCell']) (by omega) d6.out XC.out ?_);intro p9 q9 y9 G9 k9 t9;have IP:=hid (IA.out.push XA.out XB.out k9 (by rw[ds.out]) G9)
            have b3:Hid (InQ w yo b g N B3 X3 F2 #[.slice Y d.length X,.slice a2 i.length c2,(),(),(),(),(),.slice Q p.dares.length O,.slice T p.answers.length P] a3 n3 c3 f qi r3 Ni U (.int .i64 ((nu:Int)+1)) (.slice p9 (R.length+1) q9) (.int .i64 (j2:Int)) y9) := ⟨j2,rb',R++[(((t1,t2,t3,t4,t5,t6),(l,A)),tm)],p9,R.length+1,q9,nu+1,by simp,rfl,rfl,by have:=le.out;simp;omega,by rw[List.map_append];exact lo.out,by rw[List.map_append,<-List.append_assoc];exact cc.out,by simp;omega,IP.out⟩
            clear G9 k9 t9 IP g6 g0 fz ft fs fr fn fg fb hi ah ac ab GA EL;go_wp2_with fail
            go_roundw
            case rel=>exact b3
            case measure=>simp[intOf] <;> omega
           ·skip
            have cc:=hid (i5.miss (Nat.le_of_not_lt hlt) []);obtain⟨M,hM⟩:=nm U.length;have bo:=hid hM
            have hlt':¬(nu:Int) < (M:Int):=by omega
            have ko:M<=9223372036854775807:=by omega
            clear hlt hM;rw[bo.out];go_upto_region 29 with(fail);obtain⟨v6,b9⟩:∃v,v5=v:=⟨_,rfl⟩;have V:Hid (Blk v6 lb 185 #[t1,t2,t3,t4,t5,t6,l,.slice E A.length D,.string ⟨#[]⟩]):=b9▸cg;have ao:Kept [lb] v5 v6:=b9▸kr;rw[b9,<-bo.out];clear b9;have dm:Hid (Kept [b] wr v6):=dr.out.fresh ao (by have:=bs.out;simp;omega);have e8:=ao.size;have dk:=hid (dl.out.keep ao (by simp;omega) (by simp;omega));have bm:=hid (af c9.out ao (fun z o hm=>by have:=ak c9.out z o;rw[List.mem_singleton]at hm;omega));have g6:=V.cell 0;have g0:=V.cell 1;have fz:=V.cell 2;have ft:=V.cell 3;have fs:=V.cell 4;have fr:=V.cell 5;have fn:=V.cell 6;have fg:=V.cell 7;have fb:=V.cell 8;obtain⟨X2,x1,x2,x3,G4⟩:=II.gr;have ka:Kept [] v6 (v6.alloc (.cells #[t1,t2,t3,t4,t5,t6,l,.slice E A.length D,.string ⟨#[]⟩] 185)):=(Kept.refl [] _).alloc _;have a9:Kept [b] wr (v6.alloc (.cells #[t1,t2,t3,t4,t5,t6,l,.slice E A.length D,.string ⟨#[]⟩] 185)):=dm.out.trans (ka.mono (by simp))
            have di:∀z∈[b],z < wr.heap.size->z∈X2:=fun z o _=>by obtain rfl:=ms o;exact x1 _ II.do_.de.bX
            have d8:=II.ge;have db:=II.do_.de.bl
            have EL:Hid (ae X2 (fun w=>LnkR w [t1,t2,t3,t4,t5,t6,l,.slice E A.length D,.string ⟨#[]⟩] (((t1,t2,t3,t4,t5,t6),(l,A)),[])) (v6.alloc (.cells #[t1,t2,t3,t4,t5,t6,l,.slice E A.length D,.string ⟨#[]⟩] 185))) :=
             (ae.row (af bm.out ka (by simp)) (fun z o hm=>by have h1:=(ak bm.out z o).1;have h2:=x2 z hm;have:=bs.out;omega) (by omega)).imp fun _ h=>⟨_,rfl,h⟩
            have GA:Hid (Grow LnkR 9 185 yo.heap.size X2 (v6.alloc (.cells #[t1,t2,t3,t4,t5,t6,l,.slice E A.length D,.string ⟨#[]⟩] 185)) (.slice b7 b5 b6) R):=G4.step a9 (fun z o hm=>by have:=d8 z o;rw[List.mem_singleton]at hm;omega) di (fun z o=>Or.inl o);have IA:=hid (II.out.read a9 (dk.out.keep ka (by simp) (by simp)));have XA:=hid x1;have XB:=hid (fun z o=>Nat.lt_of_lt_of_le (x2 z o) a9.size);have XC:=hid x3;have d6:=hid (show yo.heap.size<=(v6.alloc (.cells #[t1,t2,t3,t4,t5,t6,l,.slice E A.length D,.string ⟨#[]⟩] 185)).heap.size by have:=IA.out.kb.size;exact this);have ds:=hid II.e10;obtain⟨i0,hi,ah,ac,ab⟩:=info_parts oE;clear ka a9 di d8 db G4 x1 x2 x3 II I5 ao dr dl c9 cg dm dk bm;go_wp2_with (at_builtin;refine aq rfl _ _ 183 rfl i0 (.agg #[.int .i64 0,.int .i64 0,.int .i64 0,.int .i64 0,.int .i64 0,.int .i64 0,.int .i64 0,(),.string ⟨#[]⟩]) 96 underlying183 hi ah ac ab rfl (by decide) (by decide) rfl GA.out _ [t1,t2,t3,t4,t5,t6,l,.slice E A.length D,.string ⟨#[]⟩] (((t1,t2,t3,t4,t5,t6),(l,A)),[]) rfl (rowS rfl _ _ _ rfl) EL.out (by simp[Value.oneCell']) (by omega) d6.out XC.out ?_);intro p9 q9 y9 G9 k9 t9;have IP:=hid (IA.out.push XA.out XB.out k9 (by rw[ds.out]) G9)
            have b3:Hid (InQ w yo b g N B3 X3 F2 #[.slice Y d.length X,.slice a2 i.length c2,(),(),(),(),(),.slice Q p.dares.length O,.slice T p.answers.length P] a3 n3 c3 f qi r3 Ni U (.int .i64 ((nu:Int)+1)) (.slice p9 (R.length+1) q9) (.int .i64 (j2:Int)) y9) := ⟨j2,rb',R++[(((t1,t2,t3,t4,t5,t6),(l,A)),[])],p9,R.length+1,q9,nu+1,by simp,rfl,rfl,by have:=le.out;simp;omega,by rw[List.map_append];exact lo.out,by rw[List.map_append,<-List.append_assoc];exact cc.out,by simp;omega,IP.out⟩
            clear G9 k9 t9 IP g6 g0 fz ft fs fr fn fg fb hi ah ac ab GA EL;go_wp2_with fail
            go_roundw
            case rel=>exact b3
            case measure=>simp[intOf] <;> omega
        case rest =>
         obtain⟨r4,R,b7,b5,b6,nu,rfl,rfl,pn,kl,ix,gn,hI⟩:=hcut;have C:=hid hI.dg;have HE:=hid (hI.done (by omega));have oc:=hid (HF.step (aW dI) bt kl);have cc:=hid ix;clear hI kl ix HF I0 ho;have z2:=C.out.cell (by simp) wc kr;have GA:Hid (Grow cr 1 183 B3 X3 (wc.alloc (.cells #[.slice b7 b5 b6] 183)) (.slice a3 n3 c3) f):=C.out.gr.step ((Kept.refl [] _).alloc _) (by simp) (by simp) (fun z o=>Or.inl o);have EA:Hid (ae X3 (fun w=>cr w [.slice b7 b5 b6] R) (wc.alloc (.cells #[.slice b7 b5 b6] 183))):=HE.out.step ((Kept.refl [] _).alloc _) (by simp) (fun z o=>Or.inl o);have d6:=hid (show B3<=(wc.alloc (.cells #[.slice b7 b5 b6] 183)).heap.size by have:=C.out.lB;simp only[World.size_alloc];omega);obtain⟨i0,hi,ah,ac,ab⟩:=info_parts sH;go_wp2_with (at_builtin;refine aq rfl _ _ 130 rfl i0 () 24 underlying130 hi ah ac ab rfl (by decide) (by decide) rfl GA.out _ [.slice b7 b5 b6] R rfl (rowS rfl _ _ _ rfl) EA.out (by simp[Value.oneCell']) (by omega) d6.out C.out.vX ?_);intro p9 q9 y9 G9 k9 t9;obtain⟨f9,X9,D9',h9⟩:=C.out.pushed ((Kept.refl [] wc).alloc _) G9 k9 (fun z o=>by first|exact t9 z o|(rw[World.size_alloc];exact t9 z o));have i9:=C.out.cell (by simp) y9 (f9.mono fun z _ o=>List.mem_cons_of_mem _ o);have pt:=C.frozen y9 (f9.mono fun z _ o=>List.mem_cons_of_mem _ o);have b3:=hid (sV.next ⟨X9,D9'⟩ HN.out oc.out cc.out (by omega) (by omega))
         clear G9 k9 t9 f9 D9' h9 C GA EA hi ah ac ab z2 HE;go_wp2_with fail
         go_roundw
         case rel=>exact b3
         case measure=>simp[intOf] <;> omega
     case rest =>
      obtain⟨r3,f,X3,a3,n3,c3,nt,rfl,em,hS,hu,go,hD⟩:=hcut;have C:=hid hD;have E3:=hid hS;have HU:=hid hu;clear hD hS G3 hr hu;have hn:=C.nl;subst hn;obtain⟨Y3,hD',hX',hv'⟩:=C.out.done (by omega);obtain⟨F3,a0⟩:∃F:World->Prop,(fun w=>F2 w/\ag cr 1 w (.slice a3 f.length c3) f)=F:=⟨_,rfl⟩
      have ob:Hid (∀w,F3 w->F2 w/\ag cr 1 w (.slice a3 f.length c3) f):=fun w h=>by rw[<-a0]at h;exact h
      rw[a0]at hD';have D3:Hid (Qe w wc b g N Y3 F3 #[.slice Y d.length X,.slice a2 i.length c2,.slice a3 f.length c3,(),(),(),(),.slice Q p.dares.length O,.slice T p.answers.length P] r3):=hD';clear hD' hX' hv' a0 C;obtain⟨x3,iq⟩:∃x,wc=x:=⟨_,rfl⟩;rw[iq]at D3 ⊢;clear iq wc;have li:=hid (gT b g r3 x3 D3.out.tp D3.out.gl);go_wp2_with (go_at_call 203;refine li.mono ?_);rintro e u4 ⟨cm,r4,a4,c4,rfl,cy,B,oj,ic,k4⟩;have E4:=hid B;have an:=hid D3.out.hX;have DM:=hid ((D3.out.read k4 ic).more (ae.row cy (fun z o hm=>by have h1:=(ak cy z o).1;have h2:=an.out z hm;omega) (by omega)));obtain⟨F4,hh⟩:∃F:World->Prop,(fun w=>F3 w/\Row w 1 (.slice a4 cm.length c4) cm.length (ints cm))=F:=⟨_,rfl⟩
      have oa:Hid (∀w,F4 w->F3 w/\Row w 1 (.slice a4 cm.length c4) cm.length (ints cm)):=fun w h=>by rw[<-hh]at h;exact h
      rw[hh]at DM;have pz:u4.cell? ⟨N,3,none⟩=some ():=DM.bp.cell 3;have pf:=DM.bp.frozen 3;have D4:Hid (Qe w (u4.setCell ⟨N,3,none⟩ (.slice a4 cm.length c4)) b g N _ F4 #[.slice Y d.length X,.slice a2 i.length c2,.slice a3 f.length c3,.slice a4 cm.length c4,(),(),(),.slice Q p.dares.length O,.slice T p.answers.length P] r4):=DM.store 3 (.slice a4 cm.length c4);clear cy ic k4 li D3 an DM hh B;go_upto_region 33 with(fail)
      generalize n5:u4.setCell ⟨N,3,none⟩ (.slice a4 cm.length c4)=x4 at D4 ⊢
      clear n5 pz pf;have lg:=hid (gT b g r4 x4 D4.out.tp D4.out.gl);go_wp2_with (go_at_call 203;refine lg.mono ?_);rintro e u5 ⟨ch,r5,a5,c5,rfl,cx,B,oi,ib,k5⟩;have E5:=hid B;have an:=hid D4.out.hX;have DM:=hid ((D4.out.read k5 ib).more (ae.row cx (fun z o hm=>by have h1:=(ak cx z o).1;have h2:=an.out z hm;omega) (by omega)));obtain⟨F5,he⟩:∃F:World->Prop,(fun w=>F4 w/\Row w 1 (.slice a5 ch.length c5) ch.length (ints ch))=F:=⟨_,rfl⟩
      have o9:Hid (∀w,F5 w->F4 w/\Row w 1 (.slice a5 ch.length c5) ch.length (ints ch)):=fun w h=>by rw[<-he]at h;exact h
      rw[he]at DM;have pz:u5.cell? ⟨N,4,none⟩=some ():=DM.bp.cell 4;have pf:=DM.bp.frozen 4;have D5:Hid (Qe w (u5.setCell ⟨N,4,none⟩ (.slice a5 ch.length c5)) b g N _ F5 #[.slice Y d.length X,.slice a2 i.length c2,.slice a3 f.length c3,.slice a4 cm.length c4,.slice a5 ch.length c5,(),(),.slice Q p.dares.length O,.slice T p.answers.length P] r5):=DM.store 4 (.slice a5 ch.length c5);clear cx ib k5 lg D4 an DM he B;go_upto_region 34 with(fail)
      generalize n4:u5.setCell ⟨N,4,none⟩ (.slice a5 ch.length c5)=x5 at D5 ⊢
      clear n4 pz pf;have m0:=hid (eE b g r5 x5 D5.out.tp);go_wp2_with (go_at_call 200;refine m0.mono ?_);rintro e y6 ⟨N6,q6,rfl,B,_,ba,t,kk⟩
      have op:N6<=100000001:=by have:=t.len;omega
      have hp:=hid (TR.start az B);have G6:Hid (Qg aM 1 24 5 w y6 b g N y6.heap.size _ F5 #[.slice Y d.length X,.slice a2 i.length c2,.slice a3 f.length c3,.slice a4 cm.length c4,.slice a5 ch.length c5,(),(),.slice Q p.dares.length O,.slice T p.answers.length P] none 0 0 [] q6):=Qg.start (D5.out.read kk t) rfl;clear t kk m0 D5 B ba
      generalize o0:y6.heap.size=B6 at G6
      clear o0
      go_upto_block 8 with(fail)
      go_cut [17] (fun _ wc=>QEnd aM 1 24 5 list w b g N B6 F5 #[.slice Y d.length X,.slice a2 i.length c2,.slice a3 f.length c3,.slice a4 cm.length c4,.slice a5 ch.length c5,(),(),.slice Q p.dares.length O,.slice T p.answers.length P] r5 N6 wc)
      case first =>
       go_wp2_with fail
       go_loopw [17] (fun vi wr=>QRel aM 1 24 5 list w b g N B6 F5 #[.slice Y d.length X,.slice a2 i.length c2,.slice a3 f.length c3,.slice a4 cm.length c4,.slice a5 ch.length c5,(),(),.slice Q p.dares.length O,.slice T p.answers.length P] (many list r5) N6 vi wr) (fun vi _=>(intOf vi).toNat)
       case atStart=>exact⟨N6,q6,[],_,_,_,_,rfl,by simp,hp.out,G6.out⟩
       case round =>
        obtain⟨j,r6,J,X6,a6,n6,c6,rfl,hN,hf,hD⟩:=hrel;have C:=hid hD;have HF:=hid hf;have HN:=hid hN
        have el:J.length<=N6:=by omega
        have gt:j<=N6:=by omega
        have cb:=hD.de.tp.cells;clear hD hf G6 hp hN
        by_cases G:0 < j/\r6.bad=false
        rotate_left
        ·skip
         have hk:j=0\/r6.bad=true:=by
          rcases Nat.eq_zero_or_pos j with h|h
          ·exact Or.inl h
          ·right
           cases hb:r6.bad
           ·exact absurd ⟨h,hb⟩ G
           ·rfl
         have HE:Hid (QEnd aM 1 24 5 list w b g N B6 F5 #[.slice Y d.length X,.slice a2 i.length c2,.slice a3 f.length c3,.slice a4 cm.length c4,.slice a5 ch.length c5,(),(),.slice Q p.dares.length O,.slice T p.answers.length P] r5 N6 wr):=⟨r6,J,X6,a6,n6,c6,el,HF.done hk,C⟩;clear G
         by_cases hlt:0 < j
         ·have hb:r6.bad=true:=by
           rcases hk with h|h
           ·omega
           ·exact h
          rw[hb]at cb;clear hb hk;go_wp2_with fail
          go_meet
          case rel=>exact HE
         ·obtain rfl:j=0:=by omega
          clear hk;go_wp2_with fail
          go_meet
          case rel=>exact HE
        ·obtain⟨hj,I⟩:=G;obtain⟨j,rfl⟩:∃k,j=k+1:=⟨j - 1,by omega⟩;rw[I]at cb;have bt:=hid I;clear I hj;have b4:Hid (∀u,RwAt 233 u b g r6->g < u.heap.size->Calls prog 203 #[.pointer (some ⟨b,0,none⟩)] u (xG b g r6 u)):=fun u h1 h2=>gT b g r6 u h1 h2;have q0:=C.out.cell (by simp);have qf:=hid C.frozen;have d7:g < wr.drew.heap.size:=C.de.gl;have dd:RwAt 233 wr.drew b g r6:=C.out.de.tp.keep (S:=[]) kr.drew (by simp) (by simp);obtain⟨i0,hi,ah,ac,ab⟩:=info_parts nx;go_upto_region 37 with(fail);refine aJ [6,7] (fun w'=>Kept (b::obl (.slice a6 n6 c6)) wr w') (by kernel_rfl) kr.drew (fun hH=>?_);refine tk [1,5,6,7] 0 rfl hH ?_;simp only[Act.put,sA,s0_,s1_];refine tk [5,6,7] 1 rfl hH ?_;simp only[Act.put,sA,s0_,s1_];refine tk [3,4,5,6,7] 2 rfl hH ?_;simp only[Act.put,sA,s0_,s1_];refine YtcidfldeiklcjaaGreatDoor.r1 3 rfl fun K hK=>?_;go_simp;refine(b4 wr.drew dd d7).mono ?_;rintro e y ⟨bl,r',E,D,rfl,bb,B,ke,co,kb⟩;have bd:=hid (HF.step az bt B);have bc:Kept [b] wr y:=(Kept.refl [b] wr).drew.trans kb
         have ap:Kept (b::obl (.slice a6 n6 c6)) wr y:=bc.mono fun z _ o=>by obtain rfl:=ms o;exact List.mem_cons_self
         have dc:=C.de.hX
         have ha:Hid (ae X6 (fun w=>aM w [.slice E bl.length D] bl) y) :=
          (ae.row bb (fun z o hm=>by have h1:=(ak bb z o).1;have h2:=dc z hm;have h3:wr.drew.heap.size=wr.heap.size:=rfl;omega) (by omega)).imp fun _ h=>⟨_,rfl,h⟩
         clear dc;refine hK.out _ _ ap (fun hH=>?_);clear hK K
         (try skip)
         refine YtcidfldeiklcjaaGreatDoor.r1 4 rfl fun K hK=>?_;go_simp;refine hK.out _ _ (hH.alloc _) (fun hH=>?_);clear hK K
         (try simp only[Act.put,sA,s0_,s1_])
         refine YtcidfldeiklcjaaGreatDoor.r1 5 rfl fun K hK=>?_;refine gB (C.out.read bc co) rfl _ _ 55 rfl i0 () 24 underlying55 hi ah ac ab rfl (by decide) (by decide) rfl _ rfl [.slice E bl.length D] bl (rowS rfl _ _ _ rfl) (kr.alloc _) ha.out (by simp[Value.oneCell']) (by omega) ?_;intro p q y2 ks HX;have al:Kept (b::obl (.slice a6 n6 c6)) wr y2:=ap.trans (ks.mono fun z _ o=>List.mem_cons_of_mem _ o);have z0:=q0 _ al;have f0:=qf.out _ al;refine hK.out _ _ al (fun hH=>?_);clear hK K
         (try simp only[Act.put,List.setIfInBounds_toArray])
         refine YtcidfldeiklcjaaGreatDoor.r2 6 rfl fun K hK=>?_;go_simp;refine hK.out _ _ ?_;clear hK K
         (try simp only[Act.put,sA,s0_,s1_])
         refine YtcidfldeiklcjaaGreatDoor.r2 7 rfl fun K hK=>?_;go_simp;refine hK.out _ _ ?_;clear hK K
         (try simp only[Act.put,sA,s0_,s1_])
         refine aD (by kernel_rfl) ?_ _;have b3:=hid (QRel.next (one:=list) (fin:=many list r5) HX HN bd);clear HX al ap q0 hH;go_wp2_with fail
         go_roundw
         case rel=>exact b3
         case measure=>simp[intOf] <;> omega
      case rest =>
       obtain⟨r6,J,X6,a6,n6,c6,el,hS,hD⟩:=hcut;have C:=hid hD;have E6:=hid hS;clear hD hS G6 hp;have hn:=C.nl;subst hn;obtain⟨Y6,hD',hX',hv'⟩:=C.out.done (by omega);obtain⟨F6,a0⟩:∃F:World->Prop,(fun w=>F5 w/\ag aM 1 w (.slice a6 J.length c6) J)=F:=⟨_,rfl⟩
       have o7:Hid (∀w,F6 w->F5 w/\ag aM 1 w (.slice a6 J.length c6) J):=fun w h=>by rw[<-a0]at h;exact h
       rw[a0]at hD';have D6:Hid (Qe w wc b g N Y6 F6 #[.slice Y d.length X,.slice a2 i.length c2,.slice a3 f.length c3,.slice a4 cm.length c4,.slice a5 ch.length c5,.slice a6 J.length c6,(),.slice Q p.dares.length O,.slice T p.answers.length P] r6):=hD';clear hD' hX' hv' a0 C;obtain⟨x6,ip⟩:∃x,wc=x:=⟨_,rfl⟩;rw[ip]at D6 ⊢;clear ip wc;have lf:=hid (gT b g r6 x6 D6.out.tp D6.out.gl);go_wp2_with (go_at_call 203;refine lf.mono ?_);rintro e u7 ⟨es,r7,a7,c7,rfl,cu,B,oh,ia,k7⟩;have E7:=hid B;have an:=hid D6.out.hX;have DM:=hid ((D6.out.read k7 ia).more (ae.row cu (fun z o hm=>by have h1:=(ak cu z o).1;have h2:=an.out z hm;omega) (by omega)));obtain⟨F7,hc⟩:∃F:World->Prop,(fun w=>F6 w/\Row w 1 (.slice a7 es.length c7) es.length (ints es))=F:=⟨_,rfl⟩
       have o6:Hid (∀w,F7 w->F6 w/\Row w 1 (.slice a7 es.length c7) es.length (ints es)):=fun w h=>by rw[<-hc]at h;exact h
       rw[hc]at DM;have pz:u7.cell? ⟨N,6,none⟩=some ():=DM.bp.cell 6;have pf:=DM.bp.frozen 6;have D7:Hid (Qe w (u7.setCell ⟨N,6,none⟩ (.slice a7 es.length c7)) b g N _ F7 #[.slice Y d.length X,.slice a2 i.length c2,.slice a3 f.length c3,.slice a4 cm.length c4,.slice a5 ch.length c5,.slice a6 J.length c6,.slice a7 es.length c7,.slice Q p.dares.length O,.slice T p.answers.length P] r7):=DM.store 6 (.slice a7 es.length c7);clear cu ia k7 lf D6 an DM hc B;go_upto_region 39 with(fail)
       generalize n0:u7.setCell ⟨N,6,none⟩ (.slice a7 es.length c7)=x7 at D7 ⊢
       clear n0 pz pf
       have eb:Hid (Stg eG (⟨ns,false⟩:Tp) (d,i,cA f,cm,ch,J,es) r7) :=
        Stg.both (au (aW bH) (au (aW (aW dI)) (au az (au az (au (aW az) az))))) E1.out
         (Stg.both (au (aW (aW dI)) (au az (au az (au (aW az) az)))) E2.out
          (Stg.both (au az (au az (au (aW az) az))) E3.out
           (Stg.both (au az (au (aW az) az)) E4.out
            (Stg.both (au (aW az) az) E5.out (Stg.both az E6.out E7.out)))))
       obtain⟨a8,c8,xs,pp,js,g9,ne,mm,gv,nn⟩:=D7.out.tp.st;obtain⟨b0,b1,b2⟩:=bc3 js rfl;have BQ:=hid D7.out.bq;have KQ:=hid D7.out.k0;have o5:Hid (total (cA f)=nt):=(dp f).trans HU.1.symm
       have r:Hid ((r7.bad=true\/pp≠xs.length\/nt≠U.length)->cS s=(gL,false)):=fun h=>by
        rw[i6.out,if_neg];intro h2;rw[Bool.and_eq_true,gd,decide_eq_true_eq]at h2;obtain⟨⟨g1,g2⟩,g3⟩:=h2
        cases hb:r7.bad
        ·rw[eb.out.good hb]at g2 g3;have g4:total (cA f)=U.length:=g3;rw[o5.out]at g4
         rcases h with h|h|h
         ·rw[hb]at h;cases h
         ·have g5:r7.left=[]:=g2;rw[gv hb]at g5;have:=congrArg List.length g5;rw[List.length_drop]at this;simp at this;omega
         ·exact h g4
        ·rw[(eb.out.bad hb).1]at g1;cases g1
       have Z:Hid (r7.bad=false->pp=xs.length->nt=U.length->cS s=(⟨d,i,f,cm,ch,J,es,p⟩,true)):=fun h1 h2 h3=>by
        have h5:terms f=U:=by have:=HU.out.2 (by omega);rw[this,h3];exact List.take_length
        obtain⟨h6,h7⟩:=nP (accL:=f) rfl h5;rw[i6.out,eb.out.good h1,if_pos]
        ·unfold mkR
         simp only
         rw[h6]
        ·rw[Bool.and_eq_true,gd,decide_eq_true_eq];exact⟨⟨h1,by show r7.left=[];rw[gv h1,h2];simp⟩,h7⟩
       obtain⟨L,hL⟩:=nm xs.length;obtain⟨M,hM⟩:=nm U.length;rw[hL]at b0 r Z ne mm;have bo:=hid hM;rw[hM]at r Z
       have ko:M<=9223372036854775807:=by omega
       clear js g9 gv nn i6 eb hL hM;rw[bo.out]
       cases I:r7.bad
       ·rw[I]at b2
        by_cases hpl:pp=L
        ·by_cases hnt2:nt=M
         ·have HR:=hid (Z.out I hpl hnt2)
          have hq:((pp:Int) != (L:Int))=false:=by simp[hpl]
          have nc:((nt:Int) != (M:Int))=false:=by simp[hnt2]
          clear r Z hpl hnt2;go_upto_region 39 with(fail)
          go_quiet (fail)
          obtain⟨y,hy⟩:=nm (x7.drewN nq);have ky:Kept [] x7 y:=hy▸kr.drewN nq;rw[hy];have BY:=hid (BQ.out.kept ky (by simp));have KY:=hid (KQ.trans ky);clear hy b0 b1 b2;obtain⟨il,ik,p8,p7,p6,p5,p4,p3,p2⟩:=bc9 ((D7.out.bp.kept ky (by simp))) rfl;obtain⟨z0,z1,z2,z3,z4,z5,z6,z7,z8⟩:=bc9 BY rfl;obtain⟨y0,y1,y2,y3,y4,y5,y6,y7,y8⟩:=bf9 BY
          have nd:N≠w.heap.size:=by have:=D7.out.wp;omega
          have pc:w.heap.size≠N:=fun h=>nd h.symm;go_wp2_with fail;obtain⟨wf,e2⟩:=nm ((((((((((y.setCell ⟨w.heap.size,0,none⟩ (.slice Y d.length X)).setCell ⟨w.heap.size,1,none⟩ (.slice a2 i.length c2)).setCell ⟨w.heap.size,2,none⟩ (.slice a3 f.length c3)).setCell ⟨w.heap.size,3,none⟩ (.slice a4 cm.length c4)).setCell ⟨w.heap.size,4,none⟩ (.slice a5 ch.length c5)).setCell ⟨w.heap.size,5,none⟩ (.slice a6 J.length c6)).setCell ⟨w.heap.size,6,none⟩ (.slice a7 es.length c7)).setCell ⟨w.heap.size,7,none⟩ (.slice Q p.dares.length O)).setCell ⟨w.heap.size,8,none⟩ (.slice T p.answers.length P)));have kk:Kept [w.heap.size] x7 wf:=e2▸(((((((((((ky.mono (by simp)):Kept [w.heap.size] x7 y).setCell (by simp) _).setCell (by simp) _).setCell (by simp) _).setCell (by simp) _).setCell (by simp) _).setCell (by simp) _).setCell (by simp) _).setCell (by simp) _).setCell (by simp) _);have kq:Kept [] w wf:=e2▸(((((((((KY.out.setCell (Or.inr (Nat.le_refl _)) _).setCell (Or.inr (Nat.le_refl _)) _).setCell (Or.inr (Nat.le_refl _)) _).setCell (Or.inr (Nat.le_refl _)) _).setCell (Or.inr (Nat.le_refl _)) _).setCell (Or.inr (Nat.le_refl _)) _).setCell (Or.inr (Nat.le_refl _)) _).setCell (Or.inr (Nat.le_refl _)) _).setCell (Or.inr (Nat.le_refl _)) _)
          have BB:Blk wf w.heap.size 135 #[.slice Y d.length X,.slice a2 i.length c2,.slice a3 f.length c3,.slice a4 cm.length c4,.slice a5 ch.length c5,.slice a6 J.length c6,.slice a7 es.length c7,.slice Q p.dares.length O,.slice T p.answers.length P]:=by have:=(((((((((BY.out.set_ 0 (.slice Y d.length X)).set_ 1 (.slice a2 i.length c2)).set_ 2 (.slice a3 f.length c3)).set_ 3 (.slice a4 cm.length c4)).set_ 4 (.slice a5 ch.length c5)).set_ 5 (.slice a6 J.length c6)).set_ 6 (.slice a7 es.length c7)).set_ 7 (.slice Q p.dares.length O)).set_ 8 (.slice T p.answers.length P));rw[e2]at this;simpa [aQ]using this
          have mk:=BB.cell 0;have md:=BB.cell 1;have i9:=BB.cell 2;have mc:=BB.cell 3;have mb:=BB.cell 4;have ma:=BB.cell 5;have m9:=BB.cell 6;have m8:=BB.cell 7;have m7:=BB.cell 8;rw[e2];have hF:=D7.out.fin [w.heap.size] wf kk (fun z o _=>by obtain rfl:=ms o;exact D7.out.qX);refine bodyPost_ret (v:=.tuple #[.agg #[.slice Y d.length X,.slice a2 i.length c2,.slice a3 f.length c3,.slice a4 cm.length c4,.slice a5 ch.length c5,.slice a6 J.length c6,.slice a7 es.length c7,.slice Q p.dares.length O,.slice T p.answers.length P],.bool true]) (by simp[results,results153,go_sem,mk,md,i9,mc,mb,ma,m9,m8,m7]) rfl ?_;rw[HR.out];obtain⟨hF,h7⟩:=o6 _ hF;obtain⟨hF,h6⟩:=o7 _ hF;obtain⟨hF,h5⟩:=o9 _ hF;obtain⟨hF,h4⟩:=oa _ hF;obtain⟨hF,h3⟩:=ob _ hF;obtain⟨hF,h2⟩:=lk _ hF;obtain⟨hF,h1⟩:=lm _ hF;obtain⟨⟨h8,h9⟩,_⟩:=ln _ hF;exact⟨_,rfl,⟨_,_,_,_,_,_,_,_,_,rfl,h1,h2,h3,h4,h5,h6,h7,h8,h9⟩,kq⟩
         ·have HR:=hid (r.out (Or.inr (Or.inr hnt2)))
          have hq:((pp:Int) != (L:Int))=false:=by simp[hpl]
          have nc:((nt:Int) != (M:Int))=true:=by simp;omega
          clear r Z hpl hnt2 D7;go_upto_region 39 with(fail)
          go_quiet (fail)
          obtain⟨y,hy⟩:=nm (x7.drewN nq);have ky:Kept [] x7 y:=hy▸kr.drewN nq;rw[hy];have BY:=hid (BQ.out.kept ky (by simp));have KY:=hid (KQ.trans ky);clear hy b0 b1 b2;obtain⟨z0,z1,z2,z3,z4,z5,z6,z7,z8⟩:=bc9 BY rfl;obtain⟨y0,y1,y2,y3,y4,y5,y6,y7,y8⟩:=bf9 BY;go_wp2_with fail;refine bodyPost_ret (v:=.tuple #[.agg aQ,.bool false]) (by simp[results,results153,go_sem,aQ,z0,z1,z2,z3,z4,z5,z6,z7,z8]) rfl ?_;rw[HR.out];refine⟨_,rfl,bL _,?_⟩
          repeat (refine Kept.setCell ?_ (Or.inr (Nat.le_refl _)) _)
          exact KY
        ·have HR:=hid (r.out (Or.inr (Or.inl hpl)))
         have hq:((pp:Int) != (L:Int))=true:=by simp;omega
         clear r Z hpl D7;go_upto_region 39 with(fail)
         go_quiet (fail)
         obtain⟨y,hy⟩:=nm (x7.drewN nq);have ky:Kept [] x7 y:=hy▸kr.drewN nq;rw[hy];have BY:=hid (BQ.out.kept ky (by simp));have KY:=hid (KQ.trans ky);clear hy b0 b1 b2;obtain⟨z0,z1,z2,z3,z4,z5,z6,z7,z8⟩:=bc9 BY rfl;obtain⟨y0,y1,y2,y3,y4,y5,y6,y7,y8⟩:=bf9 BY;go_wp2_with fail;refine bodyPost_ret (v:=.tuple #[.agg aQ,.bool false]) (by simp[results,results153,go_sem,aQ,z0,z1,z2,z3,z4,z5,z6,z7,z8]) rfl ?_;rw[HR.out];refine⟨_,rfl,bL _,?_⟩
         repeat (refine Kept.setCell ?_ (Or.inr (Nat.le_refl _)) _)
         exact KY
       ·rw[I]at b2;have HR:=hid (r.out (Or.inl I));clear r Z D7;go_upto_region 39 with(fail)
        go_quiet (fail)
        obtain⟨y,hy⟩:=nm (x7.drewN nq);have ky:Kept [] x7 y:=hy▸kr.drewN nq;rw[hy];have BY:=hid (BQ.out.kept ky (by simp));have KY:=hid (KQ.trans ky);clear hy b0 b1 b2;obtain⟨z0,z1,z2,z3,z4,z5,z6,z7,z8⟩:=bc9 BY rfl;obtain⟨y0,y1,y2,y3,y4,y5,y6,y7,y8⟩:=bf9 BY;go_wp2_with fail;refine bodyPost_ret (v:=.tuple #[.agg aQ,.bool false]) (by simp[results,results153,go_sem,aQ,z0,z1,z2,z3,z4,z5,z6,z7,z8]) rfl ?_;rw[HR.out];refine⟨_,rfl,bL _,?_⟩
        repeat (refine Kept.setCell ?_ (Or.inr (Nat.le_refl _)) _)
        exact KY
end Go.Proofs.YtcidfldeiklcjaaGreatDoor
