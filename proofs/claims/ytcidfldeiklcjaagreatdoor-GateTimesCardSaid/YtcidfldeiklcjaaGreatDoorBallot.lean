import Derived.Test.YtcidfldeiklcjaaGreatDoorRcn
import Derived.Stop.LaidErr
import Derived.Lib.LaidTab
import Derived.ProofKit
import Derived.OpenShut
import Derived.SliceStrings
import Derived.ChangeSlices
import Derived.Deep.Fields
import Derived.ChangeArms
import Derived.Below
set_option maxRecDepth 100000
set_option maxHeartbeats 32000000
namespace Go.Proofs.YtcidfldeiklcjaaGreatDoor
open Go.RowKit Tm Bf
open Go.Proofs.Tryz
open Lib(hid)
theorem jU(vs vk va vc:Value)(s:Stp)(keys:List Int)(l:List Ent)(dr:Int)(cyc:List Int)(w:World)(hs:StpV w vs s)(hk:Row w 1 vk keys.length (ints keys))(ha:aU w va l)(hl:l.length<=12)(hI:∀e∈l,EntI e)(hki:∀x∈keys,Wire.I64 x)(hc:Row w 1 vc cyc.length (ints cyc))(hcl:cyc.length<=100)(hci:∀x∈cyc,Wire.I64 x)(hE:Env2 w) :
  Calls prog 16 #[vs,vk,va,dr,vc] w (AnsB (ImpP s keys l dr cyc) w):=by
 have hs':=hs;obtain⟨⟨ad,cc,rfl,b3⟩,ip,iq,ig,ib,il⟩:=hs';obtain⟨aa,ca,rfl,_,_⟩:=ag.form ha;obtain⟨ka,kc,rfl,_,_⟩:=hk.form;obtain⟨ya,yc,rfl,_,bv⟩:=hc.form;obtain⟨W,hW⟩:=nm (w.alloc (.cells (stpA s (.slice ad s.bases.length cc)) 26));have hb:Blk W w.heap.size 26 (stpA s (.slice ad s.bases.length cc)):=hW▸Blk.new _ _ _;have f:Kept [] w W:=hW▸kr.alloc _
 have VS:Hid (∀w',Kept [] W w'->Calls prog 28 #[.agg #[s.P,s.Q,s.G,.slice ad s.bases.length cc,s.blind]] w' fun e w2=>e=.returned (.bool (aw s))/\Kept [] w' w2):=fun w' k =>
  bR _ s w' (hs.kept (f.trans k))
 have WI:Hid (∀w',Kept [] W w'->Calls prog 29 #[dr,.int .i64 0,.int .i64 1000] w' fun e w2=>e=.returned (.bool (inB dr 0 1000))/\Kept [] w' w2):=fun w' _ =>
  (bF dr 0 1000 w').mono fun e w' ⟨v,E⟩=>⟨v,E▸kr⟩
 have JN:Hid (∀w',Kept [] W w'->Calls prog 31 #[.agg #[s.P,s.Q,s.G,.slice ad s.bases.length cc,s.blind],.slice ka keys.length kc,.slice aa l.length ca,()] w' (jQ s keys l w')):=fun w' k =>
  jj _ _ _ s keys l w' (hs.kept (f.trans k)) (hk.kept (f.trans k)) (ha.kept (f.trans k)) hl hI hki (hE.kept0 (f.trans k))
 obtain⟨S0,S1,S2,S3,S4⟩:=bH5 hb rfl;have HY:=hid (hc.kept f);have da:=hid hci;have HW:=hid hW;have V:=hid f
 have bt:Hid (inB dr 0 1000=true->0<=dr/\dr<=1000):=fun h=>by unfold inB at h;simpa using h
 have p:Hid (∀o,(aw s&&inB dr 0 1000)=true->bA (aN s keys) l o->(ImpP s keys l dr cyc↔ImpR (Gl o dr) o.length cyc)):=fun o v E=>iF cyc v E
 have d:Hid ((aw s&&inB dr 0 1000)=false->¬ImpP s keys l dr cyc):=fun h E=>by rw[E.1]at h;cases h
 have T:Hid (cyc.length=0->¬ImpP s keys l dr cyc):=fun h E=>by
  have h2':=E;obtain⟨_,o,h3,c,h4,h5⟩:=h2';have h6:=(iF cyc E.1 h3).1 E
  unfold ImpR at h6
  omega
 generalize hP:ImpP s keys l dr cyc=P at p d T ⊢
 obtain⟨L,hL⟩:=nm cyc.length;have B:=hid hL;rw[hL]at bv hcl HY T ⊢;obtain⟨b1,bb⟩:=nm (aw s);obtain⟨b2,ba⟩:=nm (inB dr 0 1000);rw[bb]at VS p d;rw[ba]at WI bt p d;clear hW hb b3 bb ba f hs hk ha hki hE ib hI hc hci hP hL
 show Calls _ _ #[.agg #[s.P,s.Q,s.G,.slice ad s.bases.length cc,s.blind],_,_,_,_] _ _
 go_enter func16,ntmps16
 go_upto_region 1 with(fail);have hW':w.alloc (.cells #[s.P,s.Q,s.G,.slice ad s.bases.length cc,s.blind] 26)=W:=HW.out;rw[hW'];clear hW';have s0:=S0.out _ kr;have s1:=S1.out _ kr;have s2:=S2.out _ kr;have s3:=S3.out _ kr;have s4:=S4.out _ kr;go_wp2_with (go_at_call 28;with_reducible refine(VS.out _ kr).mono ?_);rintro e w5 ⟨rfl,k5⟩;have a:Kept [] W w5:=k5;clear k5
 cases b1
 ·go_wp2_with fail;go_ret;exact AnsB.no (V.trans a) (d (by trivial))
 have bd:=hid (WI w5 a);go_wp2_with (go_at_call 29;with_reducible refine bd.out.mono ?_);rintro e w6 ⟨rfl,k6⟩;replace a:=a.trans k6;clear k6 bd
 cases b2
 ·go_wp2_with fail;go_ret;exact AnsB.no (V.trans a) (d (by trivial))
 rcases Nat.eq_zero_or_pos L with M|M
 ·have d0:((L:Int)==0)=true:=by rw[M];rfl
  have co:=hid (V.trans a);have c5:¬P:=T M;go_wp2_with fail;go_ret;exact AnsB.no co c5
 have d0:((L:Int)==0)=false:=by simp;omega
 have hd:=bt (by trivial);have HD:=hid hd;have K5:Hid (Kept [] W _):=a;clear s0 s1 s2 s3 s4 hd;have s0:=S0.out _ a;have s1:=S1.out _ a;have s2:=S2.out _ a;have s3:=S3.out _ a;have s4:=S4.out _ a;have bk:=hid (JN _ a);clear a;go_wp2_with (go_at_call 31;with_reducible refine bk.out.mono ?_);rintro e w6 ⟨vj,o,rfl,a7,a4,c6,k6⟩;obtain⟨ja,jc,rfl,_,_⟩:=ag.form a7;have cp:=hid a4;have bm:Hid (∀x∈o,WF x):=hid (iy a4);have GO:=hid (fC _ o dr w6 a7 bm.out HD.out.1 HD.out.2 (by omega));have K6:=hid (V.trans (K5.trans k6));have bh:=hid (K5.trans k6);clear s0 s1 s2 s3 s4 a7 a4 k6 JN bk VS WI;go_wp2_with (go_at_call 30;with_reducible refine GO.out.mono ?_);rintro e w7 ⟨gp,wb,gc,rfl,b9,k7,c7,bx⟩;have n:FlW w7 gp wb (o.length+1) gc (Gl o dr):=b9;have K7:=hid (K6.trans k7);have cd:=hid (bh.trans k7);have X:=hid (nz o dr HD.1 HD.2 bm);have an:=hid (oF o dr);have ao:=hid (sL o dr);have D:=hid (p o (by trivial) cp);obtain⟨G,hG⟩:=nm (Gl o dr);have d9:=hid hG;rw[hG]at n X an ao D;obtain⟨m,hm⟩:=nm o.length;have HM:=hid hm;rw[hm]at n X an ao D c6;obtain⟨N,hN⟩:=nm (m+1);have HN:=hid hN;rw[hN]at n X an ao
 have d8:1<=N:=by omega
 have cv:N<=13:=by omega
 have cx:m < N:=by omega
 have cy:(N:Int) - 1=(m:Int):=by omega
 have wm:IntKind.i64.wrap (m:Int)=(m:Int):=by rw[IntKind.wrap_i64];omega
 have bs:=hid n;clear b9 n hG hm hN c7 bx k7 GO bh S0 S1 S2 S3 S4 p;have bl:=hid (HY.kept cd);obtain⟨q,hq⟩:=nm (N*N);have HQ:=hid hq;clear hq d T HY;go_wp2_with fail
 go_loopw [13] (fun vi wr=>∃k:Nat,k<=L/\vi=k/\Hid (∀j,j < k->0<=cyc.getD j 0/\cyc.getD j 0 < ((m+1:Nat):Int))/\Hid ((cyc.take k).Nodup)/\Hid (Kept [] w7 wr)) (fun vi _=>L - (intOf vi).toNat)
 case atStart=>exact⟨0,by omega,rfl,fun j hj=>by omega,by simp[Hid],kr⟩
 case round =>
  obtain⟨k,d4,rfl,HA,al,C⟩:=hrel;obtain⟨w3,rfl⟩:∃x,x=wr:=⟨_,rfl⟩
  by_cases hkn:k < L
  ·have A:k < cyc.length:=by have:=B.out;omega
   obtain⟨yb,yo,rfl,b⟩:=(bl.out.kept C.out).at_ (by omega);have ap:Hid (∀j (hj:j < cyc.length) w',Kept [] w3 w'->w'.cell? ⟨yb,yo+j,none⟩=some (.int .i64 cyc[j])):=fun j hj=>Kept.cellOf (b j _ (aL hj));have xk:=ap k A _ kr;have n0:=Kept.cellOf bs.n0 _ C
   have u:cyc.getD k 0=cyc[k]:=by rw[List.getD_eq_getElem?_getD,List.getElem?_eq_getElem A];rfl
   have WX:Hid (∀z,Calls prog 29 #[.int .i64 cyc[k],.int .i64 0,.int .i64 (m:Int)] (w3.drewN z) fun e w2=>e=.returned (.bool (inB cyc[k] 0 m))/\w3.drewN z=w2):=fun z=>bF _ _ _ _
   have R:Hid (inB cyc[k] 0 m=false->¬P):=fun h hp=>by
    have v:=(D.1 hp).2.1 k A;rw[u]at v;have E:inB cyc[k] 0 m=true:=(ci _ _ _).2 ⟨v.1,by omega⟩
    rw[h]at E;cases E
   have Z:Hid (inB cyc[k] 0 m=true->∀j,j < k+1->0<=cyc.getD j 0/\cyc.getD j 0 < ((m+1:Nat):Int)):=fun h j hj=>by
    rcases Nat.lt_or_ge j k with v|v
    ·exact HA j v
    ·obtain rfl:j=k:=by omega
     rw[u];have:=(ci _ _ _).1 h;omega
   have O:Hid (cyc[k]∈cyc.take k->¬P):=fun hm hp=>by
    have v:=(D.1 hp).2.2.1.sublist (List.take_sublist (k+1) cyc);rw[List.take_succ_eq_append_getElem A,List.nodup_append]at v;exact v.2.2 _ hm _ (List.mem_singleton.2 rfl) rfl
   have ah:Hid (¬cyc[k]∈cyc.take k->(cyc.take (k+1)).Nodup):=fun h=>dO A al h
   have U:Hid (¬cyc[k]∈cyc.take k↔∀i (hi:i < cyc.length),i < k->cyc[i]≠cyc[k]):=by
    constructor
    ·intro h i hi d6 he;refine h ?_;rw[<-he];rw[List.mem_take_iff_getElem];exact⟨i,by omega,rfl⟩
    ·intro h hm;rw[List.mem_take_iff_getElem]at hm;obtain⟨i,hi,he⟩:=hm;exact h i (by omega) (by omega) he
   obtain⟨t,ht⟩:=nm (inB cyc[k] 0 m);obtain⟨x,hx⟩:=nm (cyc[k]);rw[ht]at WX R Z;rw[hx]at xk WX O ah U;have HX:=hid hx;clear b ht hx u
   cases t
   ·have NO:=hid (R rfl);have KE:=hid (K7.trans C);clear R O Z ah U;go_wp2_with fail
    go_quiet ((go_at_call 29;exact ev (WX _)))
    go_wp2_with fail;go_ret;exact AnsB.no (KE.drewN _) NO
   have cu:=hid (Z (by trivial));go_wp2_with fail
   go_quiet ((go_at_call 29;exact ev (WX _)))
   obtain⟨w4,a2⟩:=nm (w3.drewN nq);rw[a2];have K4:Hid (Kept [] w3 w4):=a2▸kr.drewN nq;clear xk n0 a2 WX R Z
   try simp only[Bool.not_true]
   go_wp2_with fail
   go_loopw [14] (fun vi wr2=>∃j:Nat,j<=k/\vi=j/\Hid (∀i (hi:i < cyc.length),i < j->cyc[i]≠x)/\Hid (Kept [] w3 wr2)) (fun vi _=>k - (intOf vi).toNat)
   case atStart=>exact⟨0,Nat.zero_le _,rfl,fun i _ hi=>by omega,K4.out⟩
   case round =>
    obtain⟨j,hjk',rfl,HJ,I⟩:=hrel
    by_cases hjk:j < k
    ·have b6:j < cyc.length:=by omega
     have y0:=ap j b6 _ I;have y1:=ap k A _ I;rw[HX.out]at y1
     generalize hz:cyc[j]=z at y0
     have HZ:=hid hz;clear hz
     by_cases hzx:z=x
     ·have b5:x∈cyc.take k:=Classical.byContradiction fun h=>(U.1 h) j b6 hjk (HZ.trans hzx);have NO:=hid (O b5);have KE:=hid (K7.trans (C.trans I));subst hzx;clear b5 O;go_wp2_with fail
      go_quiet (fail)
      go_wp2_with fail;go_ret;exact AnsB.no (KE.drewN _) NO
     ·have hzx':(z==x)=false:=by simpa using hzx
      have cq:Hid (∀i (hi:i < cyc.length),i < j+1->cyc[i]≠x):=fun i hi hij=>by
       rcases Nat.lt_or_ge i j with h|h
       ·exact HJ i hi h
       ·obtain rfl:i=j:=by omega
        rw[HZ.out];exact hzx
      clear hzx;go_wp2_with fail
      go_quiet (fail)
      go_wp2_with fail
      go_roundw
      case rel=>exact⟨j+1,by omega,by go_num,cq,I.out.drewN _⟩
      case measure=>simp[intOf];omega
    ·have b7:j=k:=by omega
     subst b7;have cl:=hid (ah (U.2 HJ));have cm:=hid (C.trans I);go_wp2_with fail
     go_roundw
     case rel=>exact⟨j+1,by omega,by go_num,cu,cl,cm⟩
     case measure=>simp[intOf];omega
  ·have a3:k=L:=by omega
   have J:Hid (∀j,j < L->0<=cyc.getD j 0/\cyc.getD j 0 < ((m+1:Nat):Int)):=by rw[<-a3];exact HA.out
   have bq:Hid (cyc.Nodup):=by
    have:=al.out
    rwa [a3,List.take_of_length_le (by rw[B.out];omega)]at this
   have cb:=hid C;subst a3;clear HA al C;go_wp2_with fail
   go_loopw [12,15] (fun vsum vi wr=>∃i:Nat,i<=k/\vi=i/\vsum=.int .i64 (bj (cw G cyc) i)/\Hid (∀j,j < i->cw G cyc j < far)/\-(8589934592*(i:Int))<=bj (cw G cyc) i/\bj (cw G cyc) i<=8589934592*(i:Int)/\Hid (Kept [] w7 wr)) (fun _ vi _=>k - (intOf vi).toNat)
   case atStart=>exact⟨0,by omega,rfl,rfl,fun j hj=>by omega,by simp[bj],by simp[bj],cb.out⟩
   case round =>
    obtain⟨i,d5,rfl,rfl,HF,c2,c0,C⟩:=hrel
    generalize hS:bj (cw G cyc) i=S at c2 c0 ⊢
    have bo:=hid hS;clear hS
    by_cases hin:i < k
    ·have a5:i < cyc.length:=by have:=B.out;omega
     obtain⟨yb,yo,rfl,b⟩:=(bl.out.kept C.out).at_ (by omega);have b0:=b i _ (aL a5);obtain⟨r,hr⟩:=nm ((i+1) % k)
     have c4:r < k:=by rw[<-hr];exact Nat.mod_lt _ (by omega)
     have b4:r < cyc.length:=by have:=B.out;omega
     have av:=b r _ (aL b4)
     have c3:Int.tmod ((i:Int)+1) (k:Int)=(r:Int):=by rw[Int.tmod_eq_emod_of_nonneg (by omega),<-hr];simp
     have u:cyc.getD i 0=cyc[i]:=by rw[List.getD_eq_getElem?_getD,List.getElem?_eq_getElem a5];rfl
     have a6:cyc.getD r 0=cyc[r]:=by rw[List.getD_eq_getElem?_getD,List.getElem?_eq_getElem b4];rfl
     have hX:Hid (cyc.getD i 0=cyc[i]/\cyc.getD ((i+1) % cyc.length) 0=cyc[r]):=⟨u,by rw[B.out,hr];exact a6⟩;have b1:=J i hin;have b2:=J r c4;rw[u]at b1;rw[a6]at b2;obtain⟨x,hx⟩:=nm (cyc[i]);obtain⟨y,hy⟩:=nm (cyc[r]);rw[hx]at b0 hX b1;rw[hy]at av hX b2;obtain⟨xn,rfl⟩:=Int.eq_ofNat_of_zero_le b1.1;obtain⟨yn,rfl⟩:=Int.eq_ofNat_of_zero_le b2.1
     have a1:xn < N:=by have:=HN.out;omega
     have a0:yn < N:=by have:=HN.out;omega
     obtain⟨am,a9⟩:=nm (xn*N);obtain⟨f1,f2,f3,f4,f5,f6,f7⟩:=ixf a9 HQ.out a1 a0 (by omega);have F:=bs.kept C;have n0:=F.n0;have w0:=F.w0;have x2:=F.cell xn yn a1 a0;have c9:=F.cc;have ab:=X xn yn a1 a0;rw[HQ.out]at w0 c9;rw[a9]at x2
     have Y:Hid (cw G cyc i=G xn yn):=by unfold cw;rw[hX.out.1,hX.out.2];rfl
     generalize hg:G xn yn=g at x2 ab Y
     have bc:g=1152921504606846976\/(-8589934592<=g/\g<=8589934592):=ab;have cs:=hid bc
     have d3:¬(k:Int)=0:=by omega
     have w1:IntKind.i64.wrap ((i:Int)+1)=(i:Int)+1:=by rw[IntKind.wrap_i64];omega
     clear b hr u a6 hx hy a9 F hg ab bc b1 b2;go_wp2_with fail
     go_quiet (fail)
     clear n0 w0 x2 b0 av
     by_cases c1:g < 1152921504606846976
     ·have d1:decide (g >= 1152921504606846976)=false:=by simp;omega
      have d2:decide (1152921504606846976<=g)=false:=by simp;omega
      have d7:-8589934592<=g/\g<=8589934592:=by have:=cs.out;omega
      have wS:IntKind.i64.wrap (S+g)=S+g:=by rw[IntKind.wrap_i64];omega
      have ac:Hid (bj (cw G cyc) (i+1)=S+g):=by
       show _=_
       rw[bj,bo.out,Y.out]
      have ct:Hid (∀j,j < i+1->cw G cyc j < far):=fun j hj=>by
       rcases Nat.lt_or_ge j i with h|h
       ·exact HF j h
       ·obtain rfl:j=i:=by omega
        rw[Y.out];exact c1
      go_wp2_with fail
      go_roundw
      case rel=>exact⟨i+1,by omega,by go_num,by rw[ac.out],ct,by rw[ac.out];omega,by rw[ac.out];omega,C.out.drewN _⟩
      case measure=>simp[intOf];omega
     ·have d1:decide (g >= 1152921504606846976)=true:=by simp;omega
      have d2:decide (1152921504606846976<=g)=true:=by simp;omega
      have NO:Hid (¬P):=fun hp=>by
       have v:=(D.1 hp).2.2.2.1 i a5;rw[Y.out]at v;exact c1 v
      have KE:=hid (K7.trans C);go_wp2_with fail;go_ret;exact AnsB.no (KE.drewN _) NO
    ·obtain rfl:i=k:=by omega
     have cg:Hid (decide (S < 0)=true↔P):=by
      rw[D.out]
      unfold ImpR
      rw[B.out,bo.out]
      constructor
      ·intro h
       have hS:S < 0:=by simpa using h
       exact⟨M,J,bq,HF,hS⟩
      ·intro h
       simpa using h.2.2.2.2
     have KE:=hid (K7.trans C);go_wp2_with fail;go_ret;exact AnsB.of KE cg
theorem rY{lo up lo' up':Nat->Int}{k:Nat}(h1:∀i,i < k->lo i=lo' i)(h2:∀i,i < k->up i=up' i):bndL lo up k=bndL lo' up' k:=by
 unfold bndL
 refine List.map_congr_left fun i hi=>?_;rw[List.mem_range]at hi;rw[h1 i hi,h2 i hi]
theorem sT{s:Stp}{keys:List Int}{l:List Ent}{dr:Int}{w w' w1 w1':World}{e e1:Ending}(h1:BdsE s keys l dr w e w')(h2:BdsE s keys l dr w1 e1 w1') :
  ∃(ba:Option Addr) (bn bc:Nat) (ba2:Option Addr) (bn2 bc2:Nat) (er:Int) (l2:List (Int × Int)),e=.returned (.tuple #[.slice ba bn bc,er])/\e1=.returned (.tuple #[.slice ba2 bn2 bc2,er])/\ag BndR 2 w' (.slice ba bn bc) l2/\ag BndR 2 w1' (.slice ba2 bn2 bc2) l2:=by
 obtain⟨_,h1⟩:=h1;obtain⟨_,h2⟩:=h2
 rcases h1 with⟨c,rfl⟩|⟨c,o,j,_,_,_,_,h1⟩
 ·rcases h2 with⟨_,rfl⟩|⟨a,_⟩
  ·exact⟨none,0,0,none,0,0,1,[],rfl,rfl,ag.nil_ _ _ _,ag.nil_ _ _ _⟩
  ·rw[c]at a;cases a
 ·rcases h2 with⟨a,_⟩|⟨_,o',hj',_,_,_,_,h2⟩
  ·rw[c]at a;cases a
  have g:=eK hj' j;subst g
  rcases h1 with⟨v,k,m,rfl,d,h,f⟩|⟨rfl,b⟩
  ·rcases h2 with⟨v',up',lo',rfl,hu',hl',hr'⟩|⟨rfl,b⟩
   ·obtain⟨ba,bc,rfl,_,_⟩:=ag.form f;obtain⟨ba2,bc2,rfl,_,_⟩:=ag.form hr';refine⟨ba,_,bc,ba2,_,bc2,0,_,rfl,rfl,f,?_⟩;rw[rY (fun i hi=>h.one hl' (by omega) (by omega)) (fun i hi=>d.one hu' (by omega) (by omega))];exact hr'
   ·exact absurd d.feas (b _)
  ·rcases h2 with⟨v',up',lo',rfl,hu',hl',hr'⟩|⟨rfl,_⟩
   ·exact absurd hu'.feas (b _)
   ·exact⟨none,0,0,none,0,0,13,[],rfl,rfl,ag.nil_ _ _ _,ag.nil_ _ _ _⟩
theorem mn{w w':World}{v:Value}{l:List (Int × Int)}(h:ag BndR 2 w v l)(k:Kept [] w w'):ag BndR 2 w' v l:=ag.kept h (fun _ _ h=>h) k
theorem sQ{s:Stp}{keys:List Int}{l:List Ent}{dr:Int}{w w' w1 w1':World}{e e1:Ending}(h1:ConE s keys l dr w e w')(h2:ConE s keys l dr w1 e1 w1') :
  ∃(c:List Nat) (a:Option Addr) (cp:Nat) (a2:Option Addr) (cp2:Nat),e=.returned (.slice a c.length cp)/\e1=.returned (.slice a2 c.length cp2)/\Row w' 1 (.slice a c.length cp) c.length (ints (natI c))/\Row w1' 1 (.slice a2 c.length cp2) c.length (ints (natI c)):=by
 obtain⟨_,h1⟩:=h1;obtain⟨_,h2⟩:=h2
 rcases h1 with⟨d,rfl⟩|⟨d,o,h,_,_,_,_,c,a,cp,rfl,f,i⟩
 ·rcases h2 with⟨_,rfl⟩|⟨b,_⟩
  ·exact⟨[],none,0,none,0,rfl,rfl,lw _,lw _⟩
  ·rw[d]at b;cases b
 ·rcases h2 with⟨b,_⟩|⟨_,o',hj',_,_,_,_,c',a',cp',rfl,hr',hc'⟩
  ·rw[d]at b;cases b
  have g:=eK hj' h;subst g;have:=uB hc' i;subst this;exact⟨c',a,cp,a',cp',rfl,rfl,f,hr'⟩
theorem law08t_any(vs vk va vc:Value)(s:Stp)(xs:List Int)(l:List Ent)(dr:Int)(cyc:List Int)(w:World)(hs:StpV w vs s)(hk:Row w 1 vk xs.length (ints xs))(ha:aU w va l)(hc:Row w 1 vc cyc.length (ints cyc))(hJ:∀e∈l,EntJ e)(hxi:∀x∈xs,Wire.I64 x)(hci:∀x∈cyc,Wire.I64 x)(hE:Env2 w) :
  Calls prog 3 #[vs,vk,va,dr,vc] w fun e w'=>e=.returned true/\Kept [] w w':=by
 have hs':=hs;obtain⟨⟨J,I,rfl,a9⟩,_,_,_,_,_⟩:=hs';obtain⟨aa,ca,rfl,_,_⟩:=ag.form ha;obtain⟨ka,kc,rfl,bx,_⟩:=hk.form;obtain⟨Z,Y,rfl,E,_⟩:=hc.form;obtain⟨W,hW⟩:=nm (w.alloc (.cells #[s.P,s.Q,s.G,.slice J s.bases.length I,s.blind] 26));have hb:Blk W w.heap.size 26 #[s.P,s.Q,s.G,.slice J s.bases.length I,s.blind]:=hW▸Blk.new _ _ _;have g:Kept [] w W:=hW▸kr.alloc _;have SN:=hid (mv W (hE.kept0 g));have f:=hid hb;have k:Hid (∀w',Kept [] W w'->StpV w' (.agg #[s.P,s.Q,s.G,.slice J s.bases.length I,s.blind]) s):=fun w' kk=>hs.kept (g.trans kk);have bo:Hid (∀w',Kept [] W w'->Row w' 1 (.slice ka xs.length kc) xs.length (ints xs)):=fun w' kk=>hk.kept (g.trans kk);have c6:Hid (∀w',Kept [] W w'->aU w' (.slice aa l.length ca) l):=fun w' kk=>ha.kept (g.trans kk);have bq:Hid (∀w',Kept [] W w'->Row w' 1 (.slice Z cyc.length Y) cyc.length (ints cyc)):=fun w' kk=>hc.kept (g.trans kk);have m:Hid (∀w',Kept [] W w'->Env2 w'):=fun w' kk=>hE.kept0 (g.trans kk);have HJ:=hid hJ;have bd:=hid hxi;have bt:=hid hci;have HW:=hid hW;have bm:=hid g
 have FT:Hid (∀w',Kept [] W w'->Calls prog 7 #[.agg #[s.P,s.Q,s.G,.slice J s.bases.length I,s.blind],.slice ka xs.length kc,.slice aa l.length ca,.slice Z cyc.length Y] w' fun e w2=>e=.returned (.bool (fewT s xs l cyc))/\Kept [] w' w2):=fun w' kk =>
  oL _ s xs l cyc ka aa Z kc ca Y w' (hs.kept (g.trans kk)) bx E (ha.kept (g.trans kk)) (fun e he=>⟨(hJ e he).l4,(hJ e he).l5⟩)
 clear hb g hW hs hk ha hc hJ hxi hci hE a9
 show Calls _ _ #[.agg #[s.P,s.Q,s.G,.slice J s.bases.length I,s.blind],_,_,_,_] _ _
 go_enter func3,ntmps3
 go_upto_region 1 with(fail);have hW':w.alloc (.cells #[s.P,s.Q,s.G,.slice J s.bases.length I,s.blind] 26)=W:=HW.out;rw[hW'];clear hW';go_wp2_with (go_at_call 6;with_reducible refine SN.out.mono ?_)
 first|(rintro e w1 rfl k1)|(rintro e w1 ⟨rfl,k1⟩)
 have K1:Hid (Kept [] W w1):=k1;clear SN k1;obtain⟨v,u,t,r,q⟩:=bl5 f K1 rfl;have a7:=hid (FT w1 K1)
 generalize a2:fewT s xs l cyc=fb at a7
 clear FT;go_wp2_with (go_at_call 7;with_reducible refine a7.out.mono ?_)
 first|(rintro e w2 rfl k2)|(rintro e w2 ⟨rfl,k2⟩)
 have K2:=hid (K1.trans k2);clear v u t r q;clear a7 k2
 cases fb
 ·have KE:=hid (bm.trans K2);go_wp2_with fail;go_ret;exact⟨rfl,KE⟩
 unfold fewT at a2
 simp only[Bool.and_eq_true,decide_eq_true_eq]at a2;obtain⟨_,an,c7,c9⟩:=a2;obtain⟨cm,hI⟩:=wY HJ an;have HI:=hid hI;have PB:=hid (pR _ _ s xs w2 (k.out _ K2.out) (bo.out _ K2.out) bd.out (by omega) (m.out _ K2.out));clear an hI;obtain⟨v,u,t,r,q⟩:=bl5 f K2 rfl;go_wp2_with (go_at_call 8;with_reducible refine PB.out.mono ?_);rintro e w3 ⟨pa,pc,rfl,ab,k3⟩;have p:=hid ab;have K3:=hid (K2.trans k3);have SL:=hid (pv _ _ _ s xs l w3 (k.out _ K3.out) (bo.out _ K3.out) (c6.out _ K3.out) (by omega) HI.out bd.out (m.out _ K3.out));clear v u t r q;clear PB ab k3;obtain⟨v,u,t,r,q⟩:=bl5 f K3 rfl;go_wp2_with (go_at_call 9;with_reducible refine SL.out.mono ?_);rintro e w4 ⟨vx,rfl,B,k4⟩
 have ap:(sealL s xs l).length=l.length:=by simp[sealL]
 obtain⟨L,hL⟩:=nm (sealL s xs l)
 have a6:∀e∈L,EntI e:=by rw[<-hL];exact yd HI.out
 obtain⟨P,hP⟩:=nm (pubL s xs)
 have a5:∀x∈P,Wire.I64 x:=by rw[<-hP];exact zB
 rw[hL]at B ap;rw[hP]at p ⊢;obtain⟨xa,xc,rfl,_,_⟩:=ag.form B
 have j:L.length<=12:=by omega
 have M:=hid B;have O:=hid a6;have N:=hid a5;have K4:=hid (K3.trans k4);have bb:=hid k4;have BD:=hid (gI _ _ _ s P L dr w4 (k _ K4) (p.kept k4) B j a6 a5 (m _ K4));clear v u t r q;clear SL B k4 hL hP a6 a5 ap;obtain⟨v,u,t,r,q⟩:=bl5 f K4 rfl;go_wp2_with (go_at_call 10;with_reducible refine BD.out.mono ?_);intro e w5 F;have k5:Kept [] w4 w5:=F.1;have K5:=hid (K4.trans k5);have b5:=hid k5;have BR:=hid (pO _ _ _ s P L dr w5 (k _ K5) (p.kept (bb.trans k5)) (M.kept k5) j O N (m _ K5))
 have o:∃(ba:Option Addr) (bn bc:Nat) (er:Int),e=.returned (.tuple #[.slice ba bn bc,er]):=by
  obtain⟨ba,bn,bc,_,_,_,er,_,h,_⟩:=sT F F;exact⟨ba,bn,bc,er,h⟩
 obtain⟨ba,bn,bc,er,rfl⟩:=o;have bv:=hid F;clear v u t r q;clear BD F k5;obtain⟨v,u,t,r,q⟩:=bl5 f K5 rfl;go_wp2_with (go_at_call 11;with_reducible refine BR.out.mono ?_);intro e w6 a4;have k6:Kept [] w5 w6:=a4.1;obtain⟨ba',bn',bc',ct,cs,bc2,er',bl,d,rfl,n,C⟩:=sT bv a4;injection d with d;injection d with d
 have c0:er'=er:=by
  have h:=congrArg (fun x:Array Value=>x[1]?) d
  simpa using h.symm
 have ao:(Value.slice ba' bn' bc')=(Value.slice ba bn bc):=by
  have h:=congrArg (fun x:Array Value=>x[0]?) d
  simpa using h.symm
 rw[ao]at n;subst c0;have K6:=hid (K5.trans k6);have b4:=hid (b5.trans k6);have b9:=hid (bb.trans (b5.trans k6));have bk:=hid (mn n k6);have bh:=hid C;have CN:=hid (iJ _ _ _ s P L dr w6 (k _ K6) (p.kept b9) (M.kept b4) j O N (m _ K6));clear v u t r q;clear BR a4 k6 d ao n C bv;obtain⟨v,u,t,r,q⟩:=bl5 f K6 rfl;go_wp2_with (go_at_call 12;with_reducible refine CN.out.mono ?_);intro e w7 D;have k7:Kept [] w6 w7:=D.1;have K7:=hid (K6.trans k7);have b3:=hid (b4.trans k7);have b7:=hid (b9.trans k7);have av:=hid k7;have CR:=hid (my _ _ _ s P L dr w7 (k _ K7) (p.kept b7) (M.kept b3) j O N (m _ K7))
 have o:∃(oa:Option Addr) (y oc:Nat),e=.returned (.slice oa y oc):=by
  obtain⟨c,a,cp,_,_,h,_⟩:=sQ D D;exact⟨a,_,cp,h⟩
 obtain⟨oa,y,oc,rfl⟩:=o;have bs:=hid D;clear v u t r q;clear CN D k7;obtain⟨v,u,t,r,q⟩:=bl5 f K7 rfl;go_wp2_with (go_at_call 13;with_reducible refine CR.out.mono ?_);intro e w8 a3;have k8:Kept [] w7 w8:=a3.1;obtain⟨c,oa',oc',cg,cd,d,rfl,n,C⟩:=sQ bs a3;injection d with d
 have E:c.length=y:=by injection d with _ h _;exact h.symm
 have ac:(Value.slice oa' c.length oc')=(Value.slice oa y oc):=d.symm;rw[ac]at n;have K8:=hid (K7.trans k8);have c2:=hid (b3.trans k8);have c4:=hid (b7.trans k8);have R:=hid (n.kept k8);have T:=hid C;have SB:=hid (gm _ _ bl w8 (mn bk (av.trans k8)) (mn bh (av.trans k8)));obtain⟨nl,a1⟩:=nm (natI c)
 have ah:nl.length=y:=by rw[<-a1,eH];exact E
 rw[E]at R T ⊢;rw[a1]at R T;have c5:=hid ah;have cl:y<=9223372036854775807:=R.2.1
 have e1:(er' != er')=false:=by simp
 have e2:((y:Int) != (y:Int))=false:=by simp
 clear v u t r q;clear CR a3 k8 d ac n C bs bk bh E a1 ah;go_wp2_with (go_at_call 14;with_reducible refine SB.out.mono ?_)
 first|(rintro e w9 rfl k9)|(rintro e w9 ⟨rfl,k9⟩)
 have K9:=hid (K8.trans k9);have c1:=hid (c2.trans k9);have c3:=hid (c4.trans k9);have X:=hid (R.kept k9);have V:=hid (T.kept k9);clear SB k9 R T;go_wp2_with fail;clear e1 e2
 go_loopw [20] (fun vi wr=>∃i:Nat,i<=y/\vi=i/\Hid (Kept [] w9 wr)) (fun vi _=>y - (intOf vi).toNat)
 case atStart=>exact⟨0,Nat.zero_le _,rfl,kr⟩
 case round =>
  obtain⟨i,co,rfl,HK⟩:=hrel
  by_cases hlt:i < y
  ·have dl:decide ((i:Int) < (y:Int))=true:=decide_eq_true (by omega)
   have am:i < nl.length:=by have:=c5.out;omega
   obtain⟨b1,o1,rfl,h1⟩:=(X.out.kept HK.out).at_ (by omega);obtain⟨b2,o2,rfl,h2⟩:=(V.out.kept HK.out).at_ (by omega);have y0:=h1 i _ (aL am);have z0:=h2 i _ (aL am)
   generalize hx:nl[i]=x at y0 z0
   have dn:(x != x)=false:=by simp
   clear h1 h2 hx;go_wp2_with fail
   go_quiet (fail)
   go_wp2_with fail
   go_roundw
   case rel=>exact⟨i+1,by omega,by go_num,HK.out.drewN _⟩
   case measure=>simp[intOf];omega
  ·have dl:decide ((i:Int) < (y:Int))=false:=decide_eq_false (by omega);have A:=hid (K9.trans HK);have b0:=hid (c1.trans HK);have b6:=hid (c3.trans HK)
   have I1:Hid (∀z:KW wr,Calls prog 15 #[.agg #[s.P,s.Q,s.G,.slice J s.bases.length I,s.blind],.slice pa P.length pc,.slice xa L.length xc,dr,.slice Z cyc.length Y] z.val (AnsB (ImpP s P L dr cyc) z.val)):=fun z =>
    dR _ _ _ _ s P L dr cyc z.val (k.out _ (A.out.trans z.property)) (p.out.kept (b6.out.trans z.property)) (M.out.kept (b0.out.trans z.property)) j O.out N.out (bq.out _ (A.out.trans z.property)) (by omega) bt.out (m.out _ (A.out.trans z.property))
   have I2:Hid (∀z:KW wr,Calls prog 16 #[.agg #[s.P,s.Q,s.G,.slice J s.bases.length I,s.blind],.slice pa P.length pc,.slice xa L.length xc,dr,.slice Z cyc.length Y] z.val (AnsB (ImpP s P L dr cyc) z.val)):=fun z =>
    jU _ _ _ _ s P L dr cyc z.val (k.out _ (A.out.trans z.property)) (p.out.kept (b6.out.trans z.property)) (M.out.kept (b0.out.trans z.property)) j O.out N.out (bq.out _ (A.out.trans z.property)) (by omega) bt.out (m.out _ (A.out.trans z.property))
   obtain⟨U,a0⟩:∃U:Bool,U=true↔ImpP s P L dr cyc:=by
    by_cases h:ImpP s P L dr cyc
    ·exact⟨true,by simp[h]⟩
    ·exact⟨false,by simp[h]⟩
   have J1:Hid (∀z:KW wr,Calls prog 15 #[.agg #[s.P,s.Q,s.G,.slice J s.bases.length I,s.blind],.slice pa P.length pc,.slice xa L.length xc,dr,.slice Z cyc.length Y] z.val fun e w'=>e=.returned U/\Kept [] z.val w'):=fun z=>(I1.out z).mono fun _ _ ⟨h1,b,h2,h3⟩=>⟨by
    rw[h2,show b=U from Bool.eq_iff_iff.2 (h3.trans a0.symm)],h1⟩
   have J2:Hid (∀z:KW wr,Calls prog 16 #[.agg #[s.P,s.Q,s.G,.slice J s.bases.length I,s.blind],.slice pa P.length pc,.slice xa L.length xc,dr,.slice Z cyc.length Y] z.val fun e w'=>e=.returned U/\Kept [] z.val w'):=fun z=>(I2.out z).mono fun _ _ ⟨h1,b,h2,h3⟩=>⟨by
    rw[h2,show b=U from Bool.eq_iff_iff.2 (h3.trans a0.symm)],h1⟩
   have v:∀z:KW wr,z.val.cell? ⟨w.heap.size,0,none⟩=some (.int .i64 s.P):=fun z=>Kept.cellOf (f.cell 0) _ (A.trans z.property);have u:∀z:KW wr,z.val.cell? ⟨w.heap.size,1,none⟩=some (.int .i64 s.Q):=fun z=>Kept.cellOf (f.cell 1) _ (A.trans z.property);have t:∀z:KW wr,z.val.cell? ⟨w.heap.size,2,none⟩=some (.int .i64 s.G):=fun z=>Kept.cellOf (f.cell 2) _ (A.trans z.property);have r:∀z:KW wr,z.val.cell? ⟨w.heap.size,3,none⟩=some (.slice J s.bases.length I):=fun z=>Kept.cellOf (f.cell 3) _ (A.trans z.property);have q:∀z:KW wr,z.val.cell? ⟨w.heap.size,4,none⟩=some (.int .i64 s.blind):=fun z=>Kept.cellOf (f.cell 4) _ (A.trans z.property)
   have cq:(U==U)=true:=by simp
   clear I1 I2 a0 X V;go_wp2_with fail;refine ax wr kr (by kernel_rfl) (by kernel_rfl) ?_
   repeat (go_big_quiet_step (first|(go_at_call 15;exact aA (J1.out _))|(go_at_call 16;exact aA (J2.out _))))
   refine wpQuiet_nil ?_;rintro cb ⟨⟨_,al⟩,rfl⟩;go_wp2_with fail;go_ret;exact⟨by simp,bm.out.trans (A.out.trans al)⟩
end Go.Proofs.YtcidfldeiklcjaaGreatDoor
namespace Go.Proofs.YtcidfldeiklcjaaGreatDoor
open Go.RowKit Go.ChangeShapes
abbrev fA : List (String × DataW Unit) := [("math/bits.deBruijn32tab", Rows.laid_math_bits_deBruijn32tab), ("math/bits.deBruijn64tab", Rows.laid_math_bits_deBruijn64tab), ("internal/strconv.uint64pow10", Rows.laid_internal_strconv_uint64pow10), ("strconv.ErrRange", Rows.laid_strconv_ErrRange), ("strconv.ErrSyntax", Rows.laid_strconv_ErrSyntax)]
theorem yh:(Tryz.prog.globals[6]?).map (·.type)=some 215:=by kernel_rfl
theorem xT:(Tryz.prog.globals[5]?).map (·.type)=some 215:=by kernel_rfl
theorem tM:(Tryz.prog.globals[3]?).map (·.type)=some 269:=by kernel_rfl
theorem star : "*" ++ "errors.errorString" = "*errors.errorString" := by decide
theorem vG (u : TypeId) (h : Tryz.prog.typeName? 3 u = some "*errors.errorString") : u = 278 :=
 typeName_ptr_named (nm := "errors.errorString") (by rw [star]; kernel_rfl) (by kernel_rfl) (by decide) u (by rw [star]; exact h)
theorem qH:Tryz.prog.cellsOf 280=1:=by kernel_rfl
theorem jN:Tryz.prog.cellsOf 9=1:=by kernel_rfl
theorem xv:Tryz.prog.cellsOf 148=1:=by kernel_rfl
theorem rW:Tryz.prog.cellsOf 269=20:=by kernel_rfl
theorem qK{w:World}{n:String}{g:Nat}{cs:Array Value}(hg:Tryz.prog.globalNamed n=some g)(hv:w.var? Tryz.prog n=some cs):g < w.heap.size:=by
 unfold World.var? at hv
 rw[hg]at hv;simp only[Option.bind_some]at hv
 rcases Nat.lt_or_ge g w.heap.size with h1|h1
 ·exact h1
 ·rw[Array.getElem?_eq_none h1]at hv;cases hv
theorem qt{W:World}(hL:laidMetH Tryz.prog fA W):Env W:=by
 have h:laidMet Tryz.prog fA W:=hL;have h3:=h.tail.tail;have h4:=h3.tail;have h5:=h4.tail;have hp : Lib.TabIs Tryz.prog W "internal/strconv.uint64pow10" .u64 Lib.pow10Tab := Lib.tabIs_of_head oH tM Tryz.underlying269 Tryz.underlying148 xv rW h3;obtain ⟨a0,s0,hv0,_⟩:=laid_sentinel h4 wR yh Tryz.underlying215 vG Tryz.underlying278 Tryz.underlying280 rfl rfl Tryz.underlying9 qH jN;obtain ⟨a1,s1,hv1,_⟩:=laid_sentinel h5 wQ xT Tryz.underlying215 vG Tryz.underlying278 Tryz.underlying280 rfl rfl Tryz.underlying9 qH jN;have l1:=qK oH hp;have l2:=qK wR hv0;have l3:=qK wQ hv1;exact ⟨by unfold NG;omega,hp,⟨_,_,hv1⟩,⟨_,_,hv0⟩⟩
abbrev textR:ByteArray:={ data:=#[118,97,108,117,101,32,111,117,116,32,111,102,32,114,97,110,103,101] }
abbrev textS:ByteArray:={ data:=#[105,110,118,97,108,105,100,32,115,121,110,116,97,120] }
noncomputable def low:Nat:=(World.holding Tryz.prog default ⟨#[],#[],[]⟩).heap.size
def putG(h:Array Obj)(g:Nat)(cs:Array Value):Array Obj:=h.modify g fun
 | .cells _ t frozen=>.cells cs t frozen
 |o=>o
noncomputable def laidWorld (os:Os):World :=
 let w0:=World.holding Tryz.prog os ⟨#[.cells #[.string textR] 280,.cells #[.string textS] 280],#[],[]⟩
 let h1:=putG w0.heap 7 (([0,1,28,2,29,14,24,3,30,22,20,15,25,17,4,8,31,27,13,23,21,19,16,7,26,12,18,6,11,5,10,9]:List Int).map fun z=>Value.int .u8 z).toArray
 let h2:=putG h1 2 (([0,1,56,2,57,49,28,3,61,58,42,50,38,29,17,4,62,47,59,36,45,43,51,22,53,39,33,30,24,18,12,5,63,55,48,27,60,41,37,16,46,35,44,21,52,32,23,11,54,26,40,15,34,20,31,10,25,14,19,9,13,8,7,6]:List Int).map fun z=>Value.int .u8 z).toArray
 let h3:=putG h2 3 (([1,10,100,1000,10000,100000,1000000,10000000,100000000,1000000000,10000000000,100000000000,1000000000000,10000000000000,100000000000000,1000000000000000,10000000000000000,100000000000000000,1000000000000000000,10000000000000000000]:List Int).map fun z=>Value.int .u64 z).toArray
 let h4:=putG h3 6 #[.iface 278 (.pointer (some ⟨low,0,none⟩))]
 let h5:=putG h4 5 #[.iface 278 (.pointer (some ⟨low+1,0,none⟩))]
 { w0 with heap:=h5 }
theorem wz(os:Os)(args:Array Value):laidMet Tryz.prog fA ((laidWorld os).forCall (fun _ _=>0) ⟨#[],args,[]⟩).memory :=
 laidMet_of_run' 8 (by kernel_rfl) (by kernel_rfl)
open Go.Deep Go.Proofs.Tryz Go.WideShapes
section
variable {H:Type} {enc:TypeId × Value->H} {w:World} {base:Nat} {held:Bool}
theorem sP{w:World}{a:Addr}{v:Value}(h:w.cell? (a.add 0)=some v):a=⟨a.block,a.off,none⟩:=by
 obtain⟨b,o,s⟩:=a;have:=World.cell?_spot h
 simp[Addr.add]at this
 subst this
 rfl
theorem qq(b o k:Nat):(⟨b,o,none⟩:Addr).add k=⟨b,o+k,none⟩:=by
 unfold Addr.add
 by_cases h:k=0
 ·subst h;simp
 ·simp[h]
theorem uL{i:Int}(h:(Lit.int .i64 i).wf=true):Wire.I64 i:=by
 have h1:IntKind.min .i64=-9223372036854775808:=by decide
 have h2:IntKind.max .i64=9223372036854775807:=by decide
 simp only[Lit.wf,h1,h2,Bool.and_eq_true,decide_eq_true_eq]at h;exact h
theorem ki{n:Nat}{u:Value}{y:DataW H × List MemPlace}(h:DataW.trod enc prog w base (fun _=>true) held n 24 [u]=some y) :
  ∃l:List Int,Row w 1 u l.length (ints l)/\(∀x∈l,Wire.I64 x)/\l.length<=maxLen:=by
 rcases open_ints underlying24 underlying3 (by kernel_rfl) h with⟨b,_⟩|⟨x,l,c,e,b,_,p,o,j,_,d,f⟩
 ·simp at b;subst b;exact⟨[],⟨rfl,by simp,_,_,rfl,by simp,fun h=>absurd h (by simp)⟩,by simp,by simp⟩
 ·simp at b;subst b;simp at j
  have a:(e.take l).length=l:=by rw[List.length_take];omega
  have m:c<=9223372036854775807:=by simpa [maxLen]using o
  refine⟨e.take l,⟨by simp[ints],by rw[a];omega,_,_,by rw[a],by rw[a];exact p,fun hp=>?_⟩,fun x hx=>?_,by rw[a];omega⟩
  ·rw[a]at hp;have r:=d 0 (by omega);have i:=sP r;refine⟨x.block,x.off,congrArg some i,fun k u hu=>?_⟩
   have q:k < l:=by
    have:=(List.getElem?_eq_some_iff.1 hu).1
    simp[ints]at this;omega
   have g:=d k (by omega);rw[i]at g;rw[qq]at g;rw[g];simp only[ints,List.map_take,List.getElem?_take,q,if_true,List.getElem?_map]at hu;rw[List.getD_eq_getElem?_getD]
   cases hzk:e[k]? with
   |none=>rw[hzk]at hu;simp at hu
   |some z=>rw[hzk]at hu;simpa using hu
  ·exact uL (f x (List.mem_of_mem_take hx))
theorem ex{n:Nat}{u:Value}{y:DataW H × List MemPlace}(h:DataW.trod enc prog w base (fun _=>true) held n 3 [u]=some y):∃i:Int,u=i/\Wire.I64 i:=by
 obtain⟨i,hcs,_,hw⟩:=DataW.trod_int underlying3 h;simp at hcs;exact⟨i,hcs,uL hw⟩
theorem tr{n:Nat}{u:Value}{y:DataW H × List MemPlace}(h:DataW.trod enc prog w base (fun _=>true) held n 9 [u]=some y):∃s:ByteArray,u=.string s/\s.size<=maxLen:=by
 obtain⟨i,hcs,_,hw⟩:=DataW.trod_string underlying9 h;simp at hcs;exact⟨i,hcs,hw⟩
end
end Go.Proofs.YtcidfldeiklcjaaGreatDoor
namespace Go.Proofs.YtcidfldeiklcjaaGreatDoor
open Go.RowKit Tape
open Go.ChangeShapes Go.Deep Go.WideShapes
section
variable {H:Type} {enc:TypeId × Value->H} {w:World} {base:Nat} {held:Bool}
theorem vW(s:ByteArray):(⟨s.data.toList.toArray⟩:ByteArray)=s:=by cases s;simp
theorem aY{P:Program}{spare:Nat->Bool}{t:TypeId}{fs:Array Field}{cs:List Value}{fuel:Nat}{x:DataW H × List MemPlace}(hs:P.underlying t=some (.struct fs))(hf:DataW.trod enc P w base spare held fuel t cs=some x)
  (j:Nat) (f:Field) (hj:fs[j]?=some f) (h1:P.cellsOf f.type=1) (ho:f.offset < P.cellsOf t):∃(u:Value) (y:DataW H × List MemPlace) (n:Nat),cs[f.offset]?=some u/\DataW.trod enc P w base spare held n f.type [u]=some y:=by
 obtain⟨h,n,_,_,b,c,e⟩:=DataW.trod_struct hs hf;have a:=e j f hj;have d:j < fs.size:=(Array.getElem?_eq_some_iff.1 hj).1;rw[h1]at a
 have g:(cs.drop f.offset).take 1=[cs[f.offset]'(by omega)]:=by rw[List.drop_eq_getElem_cons (by omega)];rfl
 rw[g]at a;exact⟨_,_,n,List.getElem?_eq_getElem (by omega),a.trans (List.getElem?_eq_getElem (by omega))⟩
theorem yg{α:Type}{R:World->List Value->α->Prop}{I:α->Prop}{m:Nat}{P:Program}{spare:Nat->Bool}{t e:TypeId}{n:Nat}{u:Value}{y:DataW H × List MemPlace}(ht:P.underlying t=some (.slice e))(hc:P.cellsOf e=m)(hmp:0 < m)
  (each:∀(n:Nat) (cs:List Value) (y:DataW H × List MemPlace),cs.length=m->DataW.trod enc P w base spare held n e cs=some y->∃a,R w cs a/\I a)
  (h:DataW.trod enc P w base spare held n t [u]=some y):∃l:List α,ag R m w u l/\(∀x∈l,I x)/\l.length<=maxLen:=by
 rcases DataW.trod_slice ht h with⟨b,_⟩|⟨a,g,X,V,rest,k,_,b,_,hb,hl,hm,Y,A,_⟩
 ·simp at b;subst b;exact⟨[],ag.nil_ _ _ _,by simp,by simp⟩
 ·simp at b;subst b;rw[hc]at A
  have a0:X<=9223372036854775807:=by simpa [maxLen]using hm
  have each':∀i,i < g->∃(cs:List Value) (x:α),cs.length=m/\(∀j,j < m->w.cell? (a.add (i*m+j))=cs[j]?)/\R w cs x/\I x:=by
   intro i hi;have h1:=A i hi;rw[List.getElem?_eq_getElem (by omega),Option.bind_eq_some_iff]at h1;obtain⟨cs,b,ht'⟩:=h1;obtain⟨_,D,O⟩:=World.cells?_some b;obtain⟨x,hx,N⟩:=each _ _ _ D ht';refine⟨cs,x,D,fun j hj=>?_,hx,N⟩;have q:=O j hj;rw[Go.Deep.add_add]at q;exact q
  rcases Nat.eq_zero_or_pos g with h0|hp
  ·subst h0;exact⟨[],⟨[],rfl,by simp,by simp,⟨by simp,by simp,_,_,rfl,by simp,fun h=>absurd h (by simp)⟩⟩,by simp,by simp⟩
  ·have Z:a=⟨a.block,a.off,none⟩:=by
    obtain⟨cs,_,q1,q2,_⟩:=each' 0 hp;have q:=q2 0 hmp;rw[Nat.zero_mul,List.getElem?_eq_getElem (by omega)]at q;exact sP q
   have p:∀q,q<=g->∃(f:List (List Value)) (l:List α),f.length=q/\l.length=q/\(∀c∈f,c.length=m)/\(∀(k:Nat) x,l[k]?=some x->∃c,f[k]?=some c/\R w c x) /\
     (∀(k:Nat) c,f[k]?=some c->∀j,j < m->w.cell? (a.add (k*m+j))=c[j]?)/\∀x∈l,I x:=by
    intro q
    induction q with
    |zero=>intro _;exact⟨[],[],rfl,rfl,by simp,by simp,by simp,by simp⟩
    |succ q ih =>
     intro hq;obtain⟨f,l,J,G,F,U,T,Q⟩:=ih (by omega);obtain⟨cs,x,c1,c2,c3,c4⟩:=each' q (by omega);refine⟨f++[cs],l++[x],by simp[J],by simp[G],fun c hc=>?_,fun k z d=>?_,fun k c hc j hj=>?_,fun z d=>?_⟩
     ·rcases List.mem_append.1 hc with hc|hc
      ·exact F c hc
      ·rw[List.mem_singleton.1 hc];exact c1
     ·rcases Nat.lt_or_ge k q with r|r
      ·rw[List.getElem?_append_left (by omega)]at d;obtain⟨c,M,L⟩:=U k z d;exact⟨c,by rw[List.getElem?_append_left (by omega)];exact M,L⟩
      ·have hk':=(List.getElem?_eq_some_iff.1 d).1;rw[List.length_append,List.length_singleton]at hk'
       obtain rfl:k=q:=by omega
       rw[List.getElem?_append_right (by omega),G,Nat.sub_self]at d;simp at d;subst d;exact⟨cs,by rw[List.getElem?_append_right (by omega),J,Nat.sub_self];rfl,c3⟩
     ·rcases Nat.lt_or_ge k q with r|r
      ·rw[List.getElem?_append_left (by omega)]at hc;exact T k c hc j hj
      ·have hk':=(List.getElem?_eq_some_iff.1 hc).1;rw[List.length_append,List.length_singleton]at hk'
       obtain rfl:k=q:=by omega
       rw[List.getElem?_append_right (by omega),J,Nat.sub_self]at hc;simp at hc;subst hc;exact c2 j hj
     ·rcases List.mem_append.1 d with d|d
      ·exact Q z d
      ·rw[List.mem_singleton.1 d];exact c4
   obtain⟨f,l,J,G,F,U,T,Q⟩:=p g (Nat.le_refl _);have s:=ei f m F;refine⟨l,⟨f,by omega,F,U,⟨by rw[s,J,G],by omega,_,_,by rw[G],by omega,fun _=>⟨a.block,a.off,congrArg some Z,fun k v hv=>?_⟩⟩⟩,Q,by omega⟩;have r:=(List.getElem?_eq_some_iff.1 hv).1;rw[s]at r
   have B:k / m*m+k % m=k:=by rw[Nat.mul_comm];exact Nat.div_add_mod k m
   have o:=Nat.mod_lt k hmp;have C:k / m < f.length:=(Nat.div_lt_iff_lt_mul hmp).2 r;have E:=List.getElem?_eq_getElem C;have M:=cM f m (k / m) (k % m) _ F E o;rw[B]at M;have L:=T (k / m) _ E (k % m) o;rw[B,<-M,hv,Z,qq]at L;exact L
theorem lW{P:Program}{spare:Nat->Bool}{t:TypeId}{fs:Array Field}{cs:List Value}{fuel:Nat}{x:DataW H × List MemPlace}(hs:P.underlying t=some (.struct fs))(hf:DataW.trod enc P w base spare held fuel t cs=some x)
  (j:Nat) (f:Field) (hj:fs[j]?=some f):∃(y:DataW H × List MemPlace) (n:Nat),DataW.trod enc P w base spare held n f.type ((cs.drop f.offset).take (P.cellsOf f.type))=some y:=by
 obtain⟨xs,n,_,_,hlen,hxl,hg⟩:=DataW.trod_struct hs hf;have hjl:j < fs.size:=(Array.getElem?_eq_some_iff.1 hj).1;exact⟨_,n,(hg j f hj).trans (List.getElem?_eq_getElem (by omega))⟩
end
end Go.Proofs.YtcidfldeiklcjaaGreatDoor
namespace Go.Proofs.YtcidfldeiklcjaaGreatDoor
open Go.RowKit
end Go.Proofs.YtcidfldeiklcjaaGreatDoor
