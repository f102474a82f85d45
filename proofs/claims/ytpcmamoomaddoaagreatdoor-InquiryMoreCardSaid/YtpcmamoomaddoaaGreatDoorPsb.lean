import Derived.Test.YtpcmamoomaddoaaGreatDoorHld
set_option maxRecDepth 100000
set_option maxHeartbeats 32000000
namespace Go.Proofs.YtpcmamoomaddoaaGreatDoor
open Go.RowKit Go.Maps Go.ChangeMaps
open Go.Proofs.Tryz
open Lib(hid)
def holdsOf(c:Crw):List (List Bool):=c.qs.map fun p=>c.ms.map fun m=>hldB p m.binds
def canOf(c:Crw):List (List Bool):=c.us.map (fH (holdsOf c) c)
section
variable {c:Crw} (h:cX c=true)
include h
theorem et:(∀p∈c.qs,aP p=true)/\(∀m∈c.ms,memB m=true)/\(∀x∈c.us,useB c.qs.length c.ms.length x=true):=by
 unfold cX at h
 simp only[Bool.and_eq_true,List.any_eq_false,Bool.not_eq_eq_eq_not,Bool.not_true,Bool.not_eq_false]at h;exact⟨h.1.1.2,h.1.2,h.2⟩
theorem fg:c.qs.length<=128/\c.ms.length<=64/\c.us.length<=4096:=by
 unfold cX at h
 simp only[Bool.and_eq_true,decide_eq_true_eq]at h;exact⟨h.1.1.1.1.1,h.1.1.1.1.2,h.1.1.1.2⟩
theorem oQ:∀p∈c.qs,ct p=true:=fun p hp=>by
 have:=(et h).1 p hp
 unfold aP at this
 exact cj p (by simp only[Bool.and_eq_true]at this;exact this.2)
theorem mh:∀m∈c.ms,db m.binds=true/\m.tickets.length<=16/\∀t∈m.tickets,0<=t/\t<=4096:=fun m hm=>by
 have:=(et h).2.1 m hm
 unfold memB at this
 simp only[Bool.and_eq_true,decide_eq_true_eq,Bool.not_eq_true',List.any_eq_false]at this;refine⟨this.1.1.1,this.1.1.2,fun t ht=>?_⟩;have h1:=this.1.2 t ht
 unfold oddB aV at h1
 simp at h1;omega
theorem iU:∀x∈c.us,0<=x.q/\x.q < (c.qs.length:Int)/\0<=x.win/\x.win < 16:=fun x hx=>by
 have:=(et h).2.2 x hx
 unfold useB aV at this
 simp only[Bool.and_eq_true,decide_eq_true_eq]at this;omega
end
theorem mW(c:Crw):∀l∈holdsOf c,l.length=c.ms.length:=fun l hl=>by
 unfold holdsOf at hl
 obtain⟨p,_,rfl⟩:=List.mem_map.1 hl
 simp
theorem iT(H:List (List Bool))(c:Crw)(x:Sn):(fH H c x).length=c.ms.length:=by simp[fH]
/-- one bool behind a row of bools of one's own -/
theorem cK{w:World}{ops:Array Oper}{rest:List Oper}{o:Oper}{a:Act}{Q:Exit->Act->World->Prop}(hgd:o.guard=none)(s x:Operand)
  (ho:o.op=.call { callee:=.builtin .append,args:=#[s,x],argTypes:=#[200,200] })
  (base:Nat) (v:Value) (n:Nat) (xs:List Bool) (hs:a.eval s=v) (hown:w.ownsRow base 4 1 v n (aB xs))
  (u:Value) (b:Bool) (hx:a.eval x=u) (hrow:Row w 1 u 1 (aB [b])) (hsm:n+1<=1000000000) (hbase:base<=w.heap.size)
  (h:∀a' c' w',w'.ownsRow base 4 1 (.slice a' (n+1) c') (n+1) (aB (xs++[b]))->Kept (obl v) w w'->wpList prog ops Q rest (a.put o.dst (.slice a' (n+1) c')) w') :
  wpList prog ops Q (o::rest) a w:=by
 obtain⟨f,i,e,d,c⟩:=info_parts vd;refine aH hgd s x 200 ho base 4 f (.bool false) 1 1 underlying200 i e d c rfl (by decide) v n (aB xs) hs hown u 1 (aB [b]) hx hrow ?_ (by unfold maxLen;omega) (by omega) hbase ?_
 ·intro u g;obtain⟨y,_,rfl⟩:=List.mem_map.1 g
  rfl
 ·intro a' c' w' k j _;refine h a' c' w' ?_ j;rw[show aB (xs++[b])=aB xs++aB [b]by simp[aB]];exact k
theorem uJ{B:Nat}{w:World}{cs:List Value}{c:Crw}(h:CrR w cs c)(hcr:cX c=true)(hms:∀m∈c.ms,(∀b∈m.binds,b.1.length<=10000000)/\m.binds.length<=100000)(hE:EnvB B w) :
  Calls prog 102 #[.agg cs.toArray] w fun e w'=>Kept [] w w'/\∃kb,e=.returned (.tuple #[.pointer (some ⟨kb,0,none⟩),.bool true])/\Rck w' kb c (canOf c):=by
 obtain⟨fr,c7,du⟩:=fg hcr
 have d6:∀w',Kept [] w w'->Calls prog 22 #[.agg cs.toArray] w' fun e w''=>e=.returned (.bool true)/\Kept [] w' w'':=fun w' k=>by
  have:=jC (CrR.kept h k) (oQ hcr) hms (by omega) (by omega) (by omega) (hE.kept0 k)
  rwa [hcr]at this
 have G:∀p∈c.qs,∀m∈c.ms,∀(w':World) (ps:List Value) (v:Value),Kept [] w w'->PdR w' ps p->aj dE 2 w' v m.binds->Calls prog 143 #[.agg ps.toArray,v] w' fun e w''=>Kept [] w' w''/\∃is en,e=.returned (.tuple #[.bool is,.int .i64 en])/\(is&&decide (en=0))=hldB p m.binds:=fun p hp m d w' ps v k h1 h2 =>
  tt h1 ((et hcr).1 p hp) h2 (mh hcr m d).1 (hms m d).1 (hms m d).2 (hE.kept0 k)
 obtain⟨vq,vm,vu,rfl,hq,d,hu⟩:=h;obtain⟨qa,qc,rfl,_,_⟩:=aj.form hq;obtain⟨ma,mc,rfl,_,_⟩:=aj.form d;obtain⟨ua,uc,rfl,_,_⟩:=aj.form hu;obtain⟨nq,b9⟩:∃n,c.qs.length=n:=⟨_,rfl⟩;obtain⟨t,bd⟩:∃n,c.ms.length=n:=⟨_,rfl⟩;obtain⟨Y,b8⟩:∃n,c.us.length=n:=⟨_,rfl⟩;have ga:=hid G;clear G;have d2:=hid hcr;have cl:=hid d6;clear d6;have HQ:=hid hq;have HM:=hid d;have HU:=hid hu;have a8:=hid b9;have I:=hid bd;have O:=hid b8;rw[b9,bd,b8]at cl ⊢;rw[b9]at fr;rw[bd]at c7;rw[b8]at du;obtain⟨W,hW⟩:∃W,w.alloc (.cells #[.slice qa nq qc,.slice ma t mc,.slice ua Y uc] 67)=W:=⟨_,rfl⟩;have c9:Kept [] w W:=hW▸(Kept.refl _ _).alloc _;have aq:Blk W w.heap.size 67 #[.slice qa nq qc,.slice ma t mc,.slice ua Y uc]:=hW▸Blk.new _ _ _;have Q:=hid c9;have HW:=hid hW;have h7:=hid aq;have q0:∀w',Kept [] W w'->w'.cell? ⟨w.heap.size,0,none⟩=some (.slice qa nq qc):=Kept.cellOf (aq.cell 0);have q1:∀w',Kept [] W w'->w'.cell? ⟨w.heap.size,1,none⟩=some (.slice ma t mc):=Kept.cellOf (aq.cell 1);have q2:∀w',Kept [] W w'->w'.cell? ⟨w.heap.size,2,none⟩=some (.slice ua Y uc):=Kept.cellOf (aq.cell 2);have Q0:=hid q0;have Q1:=hid q1;have Q2:=hid q2;have C1:=hid (cl.out W c9);have z0:=q0 W (Kept.refl _ _);have z1:=q1 W (Kept.refl _ _);have z2:=q2 W (Kept.refl _ _);clear hW c9 aq hms hE hcr b9 bd b8 hq d hu q0 q1 q2 cl
 show Calls _ _ #[.agg #[.slice qa nq qc,.slice ma t mc,.slice ua Y uc]] _ _
 go_enter func102,ntmps102
 go_upto_region 1 with(fail);have hW':=HW.out;rw[hW'];clear hW'
 go_upto_region 3 with(first
  |(go_at_call 22;refine C1.out.mono ?_;rintro e w1 ⟨rfl,k1⟩;have K1:=hid k1;have z0:=Q0.out w1 k1;have z1:=Q1.out w1 k1;have z2:=Q2.out w1 k1;clear k1)
  |go_in)
 go_upto_region 4 with(fail);obtain⟨w2,b5⟩:∃y,w1.alloc (.cells #[.slice qa nq qc,.slice ma t mc,.slice ua Y uc,.slice none 0 0,.slice none 0 0] 199)=y:=⟨_,rfl⟩;obtain⟨C,b6⟩:∃y,w1.heap.size=y:=⟨_,rfl⟩;rw[b5,b6]
 have cc:Blk w2 C 199 #[.slice qa nq qc,.slice ma t mc,.slice ua Y uc,.slice none 0 0,.slice none 0 0]:=by rw[<-b5,<-b6];exact Blk.new _ _ _
 have K2:=hid (K1.out.trans (b5▸(Kept.refl _ _).alloc _:Kept [] w1 w2));have h0:=hid cc;have ey:Hid (W.heap.size<=C):=hid (by rw[<-b6];exact K1.out.size);have a3:Hid (C < w2.heap.size):=hid cc.lt;have z0:=Q0.out w2 K2.out;clear b5 b6 cc C1;go_wp2_with fail;clear z0 z1 z2
 go_loopw [23] (fun i wr=>∃(j:Nat) (vh:Value),j<=nq/\i=.int .i64 (j:Int)/\Kept [C] w2 wr/\Blk wr C 199 #[.slice qa nq qc,.slice ma t mc,.slice ua Y uc,vh,.slice none 0 0]/\Grow fK 1 200 w2.heap.size (C::obl vh) wr vh ((holdsOf c).take j)) (fun i _=>nq - (intOf i).toNat)
 case atStart=>exact⟨0,_,Nat.zero_le _,rfl,Kept.refl _ _,h0.out,Grow.nil_ _ _ _ _ _ _⟩
 case round =>
  obtain⟨j,vh,hj,rfl,a0,g,A⟩:=hrel;obtain⟨M,rfl⟩:∃y,y=wr:=⟨_,rfl⟩;have bo:=hid a0;have U:=hid g;have s:=hid A;have L:=hid (K2.out.fresh a0 (by have:=ey.out;simp;omega));clear g A a0
  by_cases hlt:j < nq
  ·have hlt':(j:Int) < (nq:Int):=by omega
   obtain⟨bb,aa,rfl,hc⟩:=HQ.out.at_ (by have:=a8.out;omega);obtain⟨p,hp⟩:∃p,c.qs[j]?=some p:=⟨_,List.getElem?_eq_getElem (by have:=a8.out;omega)⟩;obtain⟨cp,h1,h2,h3⟩:=hc j p hp;have cv:=hid hp;have b7:=PdR.kept (Q.out.trans L.out) h2;obtain⟨pk,pl,pr,pc,d4⟩:=p;obtain⟨pa,b0,rfl,_⟩:=h2.rows;obtain⟨pn,dn⟩:∃n,d4.length=n:=⟨_,rfl⟩;rw[dn]at h3 b7;obtain⟨p,dq⟩:∃p,Pd.node pk pl pr pc d4=p:=⟨_,rfl⟩;rw[dq]at cv b7;have y0:M.cell? ⟨bb,aa+j*5,none⟩=some (.int .i64 pk):=Kept.cellOf (h3 0 _ (by decide) rfl) _ (Q.out.trans L.out);have y1:M.cell? ⟨bb,aa+j*5+1,none⟩=some (.string ⟨pl.toArray⟩):=Kept.cellOf (h3 1 _ (by decide) rfl) _ (Q.out.trans L.out);have y2:M.cell? ⟨bb,aa+j*5+2,none⟩=some (.string ⟨pr.toArray⟩):=Kept.cellOf (h3 2 _ (by decide) rfl) _ (Q.out.trans L.out);have y3:M.cell? ⟨bb,aa+j*5+3,none⟩=some (.int .i64 pc):=Kept.cellOf (h3 3 _ (by decide) rfl) _ (Q.out.trans L.out);have y4:M.cell? ⟨bb,aa+j*5+4,none⟩=some (.slice pa pn b0):=Kept.cellOf (h3 4 _ (by decide) rfl) _ (Q.out.trans L.out);have g5:=hid b7;clear hc h1 h2 h3 hp dn dq b7;go_upto_region 7 with(fail);clear y0 y1 y2 y3 y4;obtain⟨gp,ca⟩:∃y,M.heap.size=y:=⟨_,rfl⟩;obtain⟨wI,b1⟩:∃y,M.alloc (.cells #[.int .i64 pk,.string ⟨pl.toArray⟩,.string ⟨pr.toArray⟩,.int .i64 pc,.slice pa pn b0] 46)=y:=⟨_,rfl⟩;rw[b1,ca];have kI:Kept [] M wI:=b1▸(Kept.refl _ _).alloc _
   have eh:Blk wI gp 46 #[.int .i64 pk,.string ⟨pl.toArray⟩,.string ⟨pr.toArray⟩,.int .i64 pc,.slice pa pn b0]:=by rw[<-b1,<-ca];exact Blk.new _ _ _
   have KI:=hid kI;have gl:=hid eh;have er:=hid (L.out.trans kI);have z1:=Q1.out wI er.out;clear b1 ca kI eh;go_wp2_with fail;clear z1
   go_loopw [7,30] (fun v i wi=>∃k:Nat,k<=t/\i=.int .i64 (k:Int)/\Kept [] wI wi/\wi.ownsRow wI.heap.size 4 1 v k (aB ((c.ms.take k).map fun m=>hldB p m.binds))) (fun _ i _=>t - (intOf i).toNat)
   case atStart=>exact⟨0,Nat.zero_le _,rfl,Kept.refl _ _,World.ownsRow_nil _ _ _ _⟩
   case round =>
    obtain⟨k,hk,rfl,a1,af⟩:=hrel;obtain⟨oa,oc,rfl⟩:=dp af (by decide);have g9:=hid a1;have au:=hid af;have P:=hid (Q.out.trans (er.out.trans a1));clear af
    by_cases hlt2:k < t
    ·have hlt2':(k:Int) < (t:Int):=by omega
     obtain⟨mb,mo,rfl,ds⟩:=HM.out.at_ (by have:=I.out;omega);obtain⟨m,d⟩:∃m,c.ms[k]?=some m:=⟨_,List.getElem?_eq_getElem (by have:=I.out;omega)⟩;obtain⟨cm,p1,p2,p3⟩:=ds k m d;obtain⟨vb,vt,rfl,be,d9⟩:=p2;obtain⟨ba,bc,rfl,_,_⟩:=aj.form be;obtain⟨ta,tc,rfl,_,f5⟩:=d9.form;have y0:=Kept.cellOf (p3 0 _ (by decide) rfl) _ P.out;have y1:=Kept.cellOf (p3 1 _ (by decide) rfl) _ P.out;have y2:=Kept.cellOf (p3 2 _ (by decide) rfl) _ P.out;simp only[Nat.add_zero,<-Nat.add_assoc]at y0 y1 y2;obtain⟨tn,d8⟩:∃n,m.tickets.length=n:=⟨_,rfl⟩;obtain⟨bn,e6⟩:∃n,m.binds.length=n:=⟨_,rfl⟩;rw[d8]at y1;rw[e6]at y0 be;have co:Hid (c.ms.take (k+1)=c.ms.take k++[m]):=hid (by rw[List.take_succ_eq_append_getElem (by have:=I.out;omega),(List.getElem?_eq_some_iff.1 d).2]);obtain⟨D,J⟩:∃y,wr.alloc (.cells #[.slice ba bn bc,.slice ta tn tc,.int .i64 m.rev] 74)=y:=⟨_,rfl⟩;have kA:Kept [] wr D:=J▸(Kept.refl _ _).alloc _;have e7:Blk D wr.heap.size 74 #[.slice ba bn bc,.slice ta tn tc,.int .i64 m.rev]:=J▸Blk.new _ _ _;have x0:D.cell? ⟨wr.heap.size,0,none⟩=some (.slice ba bn bc):=e7.cell 0;have KA:=hid kA;have bl:=hid J;have a7:=gl.out.kept (a1.trans kA) (by simp);have v0:D.cell? ⟨gp,0,none⟩=some (.int .i64 pk):=a7.cell 0;have v1:D.cell? ⟨gp,1,none⟩=some (.string ⟨pl.toArray⟩):=a7.cell 1;have v2:D.cell? ⟨gp,2,none⟩=some (.string ⟨pr.toArray⟩):=a7.cell 2;have v3:D.cell? ⟨gp,3,none⟩=some (.int .i64 pc):=a7.cell 3;have v4:D.cell? ⟨gp,4,none⟩=some (.slice pa pn b0):=a7.cell 4
     have a2:=ga.out p (List.mem_of_getElem? cv.out) m (List.mem_of_getElem? d) D _ (.slice ba bn bc) (P.out.trans kA) (PdR.kept ((KI.out.trans a1).trans kA) g5.out) (aj.kept (w':=D) be (fun _ _ h=>h) (P.out.trans kA));have gb:=hid a2;clear ds d p1 p3 be d9 f5 d8 e6 J kA e7 a7 a2 a1;go_upto_region 11 with(fail);have hwA':=bl.out;rw[hwA'];clear hwA' y0 y1 y2
     go_upto_region 12 with(first
      |(go_at_call 143;refine gb.out.mono ?_;rintro e w5 ⟨k5,is,en,rfl,e0⟩;have a9:=hid ((g9.out.trans KA.out).trans k5);have cy:=hid (ax au.out (KA.out.trans k5) (by simp));have d1:=hid e0;clear k5 e0)
      |go_in)
     cases is with
     |false =>
      go_wp2_with (first
       |(at_builtin;refine cK rfl _ _ rfl wI.heap.size (.slice oa k oc) k ((c.ms.take k).map fun m=>hldB p m.binds) rfl (ax cy.out (S:=[]) ((Kept.refl [] w5).alloc _) (by simp)) _ false rfl (al (cs:=[.bool false]) (Blk.new _ _ _) rfl (by decide)) (by omega) (by rw[World.size_alloc];have:=a9.out.size;omega) ?_;intro a' c' w6 f F;have av:=hid f;have a4:=hid F;clear f F)
       |go_in)
      go_roundw
      case rel =>
       have hk:Kept (obl (.slice oa k oc)) w5 w6:=((Kept.refl [] w5).alloc (.cells #[.bool false] 4) |>.mono (fun _ _ h=>by simp at h)).trans a4.out;refine⟨k+1,by omega,by go_num,a9.out.fresh hk (fun z hz=>(aA au.out z hz).1),?_⟩;have:=av.out;rw[co.out,List.map_append]
       rwa [show(false:Bool)=hldB p m.binds by have:=d1.out;simpa using this]at this
      case measure=>simp[intOf];omega
     |true =>
      by_cases hen:en=0
      ·subst hen
       go_wp2_with (first
        |(at_builtin;refine cK rfl _ _ rfl wI.heap.size (.slice oa k oc) k ((c.ms.take k).map fun m=>hldB p m.binds) rfl (ax cy.out (S:=[]) ((Kept.refl [] w5).alloc _) (by simp)) _ true rfl (al (cs:=[.bool true]) (Blk.new _ _ _) rfl (by decide)) (by omega) (by rw[World.size_alloc];have:=a9.out.size;omega) ?_;intro a' c' w6 f F;have av:=hid f;have a4:=hid F;clear f F)
        |go_in)
       go_roundw
       case rel =>
        have hk:Kept (obl (.slice oa k oc)) w5 w6:=((Kept.refl [] w5).alloc (.cells #[.bool true] 4) |>.mono (fun _ _ h=>by simp at h)).trans a4.out;refine⟨k+1,by omega,by go_num,a9.out.fresh hk (fun z hz=>(aA au.out z hz).1),?_⟩;have:=av.out;rw[co.out,List.map_append]
        rwa [show(true:Bool)=hldB p m.binds by have:=d1.out;simpa using this]at this
       case measure=>simp[intOf];omega
      ·have hen':(en==0)=false:=by simpa using hen
       go_wp2_with (first
        |(at_builtin;refine cK rfl _ _ rfl wI.heap.size (.slice oa k oc) k ((c.ms.take k).map fun m=>hldB p m.binds) rfl (ax cy.out (S:=[]) ((Kept.refl [] w5).alloc _) (by simp)) _ false rfl (al (cs:=[.bool false]) (Blk.new _ _ _) rfl (by decide)) (by omega) (by rw[World.size_alloc];have:=a9.out.size;omega) ?_;intro a' c' w6 f F;have av:=hid f;have a4:=hid F;clear f F)
        |go_in)
       go_roundw
       case rel =>
        have hk:Kept (obl (.slice oa k oc)) w5 w6:=((Kept.refl [] w5).alloc (.cells #[.bool false] 4) |>.mono (fun _ _ h=>by simp at h)).trans a4.out;refine⟨k+1,by omega,by go_num,a9.out.fresh hk (fun z hz=>(aA au.out z hz).1),?_⟩;have:=av.out;rw[co.out,List.map_append]
        rwa [show(false:Bool)=hldB p m.binds by have:=d1.out;simpa [hen]using this]at this
       case measure=>simp[intOf];omega
    ·obtain rfl:t=k:=by omega
     obtain⟨hd,a2⟩:∃b,(c.ms.map fun m=>hldB p m.binds)=b:=⟨_,rfl⟩
     have fs:hd.length=t:=by rw[<-a2,List.length_map];exact I.out
     have c6:wr.ownsRow wI.heap.size 4 1 (.slice oa t oc) hd.length (aB hd):=by
      have:=au.out;rw[List.take_of_length_le (by have:=I.out;omega),a2]at this
      rwa [fs]
     obtain⟨ha,hc,rfl⟩:=s.out.form (by decide);obtain⟨a,G⟩:∃l,(holdsOf c).take j=l:=⟨_,rfl⟩
     have an:a.length=j:=by rw[<-G,List.length_take];unfold holdsOf;rw[List.length_map];have:=a8.out;omega
     have ag:(holdsOf c).take (j+1)=a++[hd]:=by
      have h1:(holdsOf c)[j]?=some hd:=by unfold holdsOf;rw[List.getElem?_map,cv.out];exact congrArg some a2
      rw[List.take_succ_eq_append_getElem (List.getElem?_eq_some_iff.1 h1).1,(List.getElem?_eq_some_iff.1 h1).2,G]
     rw[G]at s U;have bq:=hid ag;have d0:=hid an;have ab:Kept [] M wr:=KI.out.trans a1;have g:=U.out.kept ab (by simp);have r3:wr.cell? ⟨C,3,none⟩=some (.slice ha a.length hc):=g.cell 3
     have ad:aw (C::obl (.slice ha a.length hc)) (fun w=>fK w [.slice oa t oc] hd) wr:=(aw.row c6 (fun z hz d=>by
      have h1:=(aA c6 z hz).1
      rcases List.mem_cons.1 d with h2|h2
      ·have:=a3.out;have:=bo.out.size;have:=KI.out.size;omega
      ·have:=(s.out.ge z h2).2;have:=KI.out.size;omega) (by omega)).imp fun w h=>⟨_,rfl,h⟩
     have k1:Kept [] wr (wr.alloc (.cells #[.slice oa t oc] 200)):=(Kept.refl [] wr).alloc _;have bv:Grow fK 1 200 w2.heap.size (C::obl (.slice ha a.length hc)) (wr.alloc (.cells #[.slice oa t oc] 200)) (.slice ha a.length hc) a:=s.out.step (ab.trans k1) (by simp) (by simp) fun z hz=>Or.inl hz;have br:=ad.step (X':=C::obl (.slice ha a.length hc)) k1 (by simp) fun z hz=>Or.inl hz;have g2:=hid br;have gf:=hid bv;have g6:=hid ab;have gt:=hid (g.kept k1 (by simp))
     have dm:w2.heap.size<=wr.heap.size:=by have:=bo.out.size;have:=ab.size;omega
     have g1:=hid dm
     have a5:C∉obl (.slice ha a.length hc):=fun d=>by have:=(s.out.ge _ d).1;have:=a3.out;omega
     have cz:=hid a5;obtain⟨i0,hi,c2,c1,c0⟩:=info_parts qz;clear a2 c6 G an ag ab g ad k1 bv br dm a1 a5;go_upto_region 14 with(fail)
     go_upto_region 15 with(first
      |(at_builtin;refine cJ (R:=fK) (v:=.slice ha a.length hc) (X:=C::obl (.slice ha a.length hc)) rfl _ _ 197 rfl i0 _ 24 underlying197 hi c2 c1 c0 rfl (by decide) (by decide) rfl gf.out _ [.slice oa t oc] hd rfl (al (cs:=[.slice oa t oc]) (Blk.new _ _ _) rfl (by decide)) g2.out (by simp[Value.oneCell']) (by have:=d0.out;omega) (by have:=g1.out;rw[World.size_alloc];omega) (fun z hz=>List.mem_cons_of_mem _ hz) ?_;intro a' c' w6 e5 F f9;have f2:=hid e5;have a4:=hid F;have d3:=hid (gt.out.kept F cz.out);have f6:=d3.out.frozen 3;have r6:w6.cell? ⟨C,3,none⟩=some (.slice ha a.length hc):=d3.out.cell 3;clear e5 F f9)
      |go_in)
     obtain⟨w7,b4⟩:∃y,w6.setCell ⟨C,3,none⟩ (.slice a' (a.length+1) c')=y:=⟨_,rfl⟩;rw[b4];have eq:Hid (Kept [C] w6 w7):=hid (b4▸(Kept.refl _ _).setCell (Or.inl (by simp)) _);have cb:=d3.out.set_ 3 (.slice a' (a.length+1) c');rw[b4]at cb;have gr:=hid cb;clear b4 f6 r6 r3 cb;go_wp2_with fail
     go_roundw
     case rel =>
      have ap:C∉obl (.slice a' (a.length+1) c'):=fun d=>by have:=(f2.out.ge _ d).1;have:=a3.out;omega
      refine⟨j+1,.slice a' (a.length+1) c',by omega,by go_num,?_,gr.out,?_⟩
      ·refine((bo.out.trans ((g6.out.trans ((Kept.refl [] wr).alloc _)).mono (by simp))).fresh a4.out fun z hz=>(s.out.ge z hz).1).trans eq.out
      ·rw[bq.out];refine f2.out.step eq.out (fun z hz d=>ap (by rw[List.mem_singleton]at d;exact d▸hz)) (fun z hz _=>by rw[List.mem_singleton]at hz;subst hz;simp) fun z hz=>?_
       rcases List.mem_cons.1 hz with h|h
       ·exact Or.inl (by rw[h];simp)
       ·exact Or.inl (List.mem_append_right _ h)
     case measure=>simp[intOf];omega
  ·obtain rfl:nq=j:=by omega
   have N:(holdsOf c).take nq=holdsOf c:=List.take_of_length_le (by unfold holdsOf;rw[List.length_map,a8.out];omega);obtain⟨ha,hc,rfl⟩:=s.out.form (by decide)
   have e9:(holdsOf c).length=nq:=by unfold holdsOf;rw[List.length_map,a8.out]
   have A:=s.out;have g:=U.out;rw[N,e9]at A g;have e8:aw [C] (fun w=>aj fK 1 w (.slice ha nq hc) (holdsOf c)) M:=A.done (fun z hz=>Or.inl (by rw[List.mem_singleton]at hz;rw[hz];simp)) (fun z hz d=>by rw[List.mem_singleton]at d;have:=(A.ge z hz).1;have:=a3.out;omega) (by rw[e9];omega);have ex:=hid e8;have gs:=hid g;have z2:=Q2.out M L.out;have cq:Hid (w2.heap.size<=M.heap.size):=hid bo.out.size;clear N A g e8 s U;go_wp2_with fail;clear z2
   go_loopw [64] (fun i wr=>∃(j:Nat) (vc:Value),j<=Y/\i=.int .i64 (j:Int)/\Kept [C] M wr/\Blk wr C 199 #[.slice qa nq qc,.slice ma t mc,.slice ua Y uc,.slice ha nq hc,vc]/\Grow fK 1 200 M.heap.size (C::obl vc) wr vc ((canOf c).take j)) (fun i _=>Y - (intOf i).toNat)
   case atStart=>exact⟨0,_,Nat.zero_le _,rfl,Kept.refl _ _,gs.out,Grow.nil_ _ _ _ _ _ _⟩
   case round =>
    obtain⟨j,vc,hj,rfl,a0,g,A⟩:=hrel;have bp:=hid a0;have U:=hid g;have s:=hid A;have u:=hid (Q.out.trans (L.out.fresh a0 (by have:=ey.out;simp;omega)));clear g A a0
    by_cases hlt:j < Y
    ·have hlt':(j:Int) < (Y:Int):=by omega
     obtain⟨xb,xo,rfl,d5⟩:=HU.out.at_ (by have:=O.out;omega);obtain⟨x,hx⟩:∃x,c.us[j]?=some x:=⟨_,List.getElem?_eq_getElem (by have:=O.out;omega)⟩;obtain⟨cx,h1,h2,h3⟩:=d5 j x hx
     unfold SnR at h2
     subst h2;have y0:wr.cell? ⟨xb,xo+j*4,none⟩=some (.int .i64 x.q):=Kept.cellOf (h3 0 _ (by decide) rfl) _ u.out;have y1:wr.cell? ⟨xb,xo+j*4+1,none⟩=some (.int .i64 x.win):=Kept.cellOf (h3 1 _ (by decide) rfl) _ u.out;have y2:wr.cell? ⟨xb,xo+j*4+2,none⟩=some (.int .i64 x.asof):=Kept.cellOf (h3 2 _ (by decide) rfl) _ u.out;have y3:wr.cell? ⟨xb,xo+j*4+3,none⟩=some (.int .i64 x.hold):=Kept.cellOf (h3 3 _ (by decide) rfl) _ u.out;obtain⟨V,r,rfl⟩:=s.out.form (by decide);obtain⟨a,G⟩:∃l,(canOf c).take j=l:=⟨_,rfl⟩
     have an:a.length=j:=by rw[<-G,List.length_take];unfold canOf;rw[List.length_map];have:=O.out;omega
     have ag:(canOf c).take (j+1)=a++[fH (holdsOf c) c x]:=by
      have h1:(canOf c)[j]?=some (fH (holdsOf c) c x):=by unfold canOf;rw[List.getElem?_map,hx];rfl
      rw[List.take_succ_eq_append_getElem (List.getElem?_eq_some_iff.1 h1).1,(List.getElem?_eq_some_iff.1 h1).2,G]
     rw[G]at s U;have bq:=hid ag;have d0:=hid an;have d7:=iU d2.out x (List.mem_of_getElem? hx);have es:=hid d7;have h5:=hid hx;obtain⟨D,J⟩:∃y,wr.alloc (.cells #[.int .i64 x.q,.int .i64 x.win,.int .i64 x.asof,.int .i64 x.hold] 84)=y:=⟨_,rfl⟩;obtain⟨gx,e1⟩:∃y,wr.heap.size=y:=⟨_,rfl⟩;have kA:Kept [] wr D:=J▸(Kept.refl _ _).alloc _
     have ao:Blk D gx 84 #[.int .i64 x.q,.int .i64 x.win,.int .i64 x.asof,.int .i64 x.hold]:=by rw[<-e1,<-J];exact Blk.new _ _ _
     have g:=U.out.kept kA (by simp)
     have a5:C∉obl (.slice V a.length r):=fun d=>by have:=(s.out.ge _ d).1;have:=a3.out;have:=cq.out;omega
     have hnx':gx∉obl (.slice V a.length r):=fun d=>by have:=(s.out.ge _ d).2;omega
     have KA:=hid kA;have bx:=hid g;have cz:=hid a5;have f0:=hid (s.out.step (X':=C::obl (.slice V a.length r)) kA (by simp) (by simp) fun z hz=>Or.inl hz);have gc:=hid (ex.out _ _ (bp.out.trans (kA.mono (by simp))) fun z hz _=>hz);have g7:=hid (show aj MbR 3 D (.slice ma t mc) c.ms by have:=aj.kept (w':=D) HM.out (fun _ _ h=>MbR.kept h (u.out.trans kA)) (u.out.trans kA);rwa [I.out]at this);have e4:∀w',Kept (obl (.slice V a.length r)) D w'->w'.cell? ⟨C,4,none⟩=some (.slice V a.length r):=fun w' k=>(g.kept k a5).cell 4;have x0:∀w',Kept (obl (.slice V a.length r)) D w'->w'.cell? ⟨gx,0,none⟩=some (.int .i64 x.q):=fun w' k=>(ao.kept k hnx').cell 0;have x1:∀w',Kept (obl (.slice V a.length r)) D w'->w'.cell? ⟨gx,1,none⟩=some (.int .i64 x.win):=fun w' k=>(ao.kept k hnx').cell 1;have x2:∀w',Kept (obl (.slice V a.length r)) D w'->w'.cell? ⟨gx,2,none⟩=some (.int .i64 x.asof):=fun w' k=>(ao.kept k hnx').cell 2;have x3:∀w',Kept (obl (.slice V a.length r)) D w'->w'.cell? ⟨gx,3,none⟩=some (.int .i64 x.hold):=fun w' k=>(ao.kept k hnx').cell 3;have bl:=hid J;have ev:Hid (M.heap.size<=D.heap.size):=hid (by have:=bp.out.size;have:=kA.size;omega);clear d5 h1 h3 hx G an ag d7 J kA ao g a5 hnx';go_upto_region 19 with(fail);have hwA':=bl.out;rw[hwA'];clear hwA' bl y0 y1 y2 y3 e1;refine ar [12] (fun w'=>Kept (obl (.slice V a.length r)) D w') (by kernel_rfl) (Kept.refl _ _).drew (fun hH=>?_)
     obtain⟨wB,c3⟩:∃y,D.drew=y:=⟨_,rfl⟩;have Z:Kept [] D wB:=c3▸(Kept.refl _ _).drew;rw[c3]at hH ⊢;clear c3;refine ah [12] (i:=0) (v:=?tv0) rfl (by kernel_rfl) (by kernel_rfl) (by kernel_rfl) (by kernel_rfl) (fun _ _ _ h=>h) (Or.inl ⟨by rfl,?ty0⟩) hH ?tr0
     case ty0=>intro w' o;(try dsimp only at o);go_simp;first|done|with_reducible rfl
     (try simp only[Act.put,List.setIfInBounds_toArray,List.set_cons_zero,List.set_cons_succ])
     refine ah [12] (i:=1) (v:=?tv1) rfl (by kernel_rfl) (by kernel_rfl) (by kernel_rfl) (by kernel_rfl) (fun _ _ _ h=>h) (Or.inl ⟨by rfl,?ty1⟩) hH ?tr1
     case ty1=>intro w' o;(try dsimp only at o);go_simp;first|done|with_reducible rfl
     (try simp only[Act.put,List.setIfInBounds_toArray,List.set_cons_zero,List.set_cons_succ])
     refine ah [12] (i:=2) (v:=?tv2) rfl (by kernel_rfl) (by kernel_rfl) (by kernel_rfl) (by kernel_rfl) (fun _ _ _ h=>h) (Or.inl ⟨by rfl,?ty2⟩) hH ?tr2
     case ty2=>intro w' o;(try dsimp only at o);go_simp;first|done|with_reducible rfl
     (try simp only[Act.put,List.setIfInBounds_toArray,List.set_cons_zero,List.set_cons_succ])
     refine ah [12] (i:=3) (v:=?tv3) rfl (by kernel_rfl) (by kernel_rfl) (by kernel_rfl) (by kernel_rfl) (fun _ _ _ h=>h) (Or.inl ⟨by rfl,?ty3⟩) hH ?tr3
     case ty3=>intro w' o;(try dsimp only at o);go_simp;first|done|with_reducible rfl
     (try simp only[Act.put,List.setIfInBounds_toArray,List.set_cons_zero,List.set_cons_succ])
     refine ah [12] (i:=4) (v:=?tv4) rfl (by kernel_rfl) (by kernel_rfl) (by kernel_rfl) (by kernel_rfl) (fun _ _ _ h=>h) (Or.inl ⟨by rfl,?ty4⟩) hH ?tr4
     case ty4=>intro w' o;(try dsimp only at o);go_simp;first|done|with_reducible rfl
     (try simp only[Act.put,List.setIfInBounds_toArray,List.set_cons_zero,List.set_cons_succ])
     refine ah [12] (i:=5) (v:=?tv5) rfl (by kernel_rfl) (by kernel_rfl) (by kernel_rfl) (by kernel_rfl) (fun _ _ _ h=>h) (Or.inl ⟨by rfl,?ty5⟩) hH ?tr5
     case ty5=>intro w' o;(try dsimp only at o);go_simp;first|done|with_reducible rfl
     (try simp only[Act.put,List.setIfInBounds_toArray,List.set_cons_zero,List.set_cons_succ])
     refine ah [12] (i:=6) (v:=?tv6) rfl (by kernel_rfl) (by kernel_rfl) (by kernel_rfl) (by kernel_rfl) (fun _ _ _ h=>h) (Or.inl ⟨by rfl,?ty6⟩) hH ?tr6
     case ty6=>intro w' o;(try dsimp only at o);go_simp;first|done|with_reducible rfl
     (try simp only[Act.put,List.setIfInBounds_toArray,List.set_cons_zero,List.set_cons_succ])
     have c5:=vZ (W0:=wB) (H:=holdsOf c) (bx.out.kept Z (by simp)) (aj.kept g7.out (fun _ _ h=>MbR.kept h Z) Z) (aj.kept gc.out (fun _ _ h=>by obtain⟨v,rfl,h⟩:=h;exact⟨v,rfl,h.kept Z⟩) Z) (by rw[I.out];exact c7) (mW c) (by unfold holdsOf;rw[List.length_map,a8.out];omega) (x:=x) rfl es.out.1 (by unfold holdsOf;rw[List.length_map];exact es.out.2.1);rw[I.out]at c5;have g4:=hid c5;have HB:=hid hH;have ek:=hid Z;clear c5 Z;refine ai (rs:=[7]) (by kernel_rfl) (by simp) ?_;refine ae.cons rfl (fun K hK=>?_) ae.nil;go_simp;go_wp2_with (first|(go_at_call 144;refine g4.out.mono ?_;rintro e wC ⟨kC,tb,rfl,da,a6⟩;have KC':=hid kC;have g0:=hid da;have f3:=hid a6;clear kC da a6)|go_in);refine hK.out _ _ (hH.trans (KC'.out.mono (by simp))) (fun hH=>?_);clear hK K
     (try simp only[Act.put,List.setIfInBounds_toArray,List.set_cons_zero,List.set_cons_succ])
     have KC:=hid (ek.out.trans KC'.out);refine ai (rs:=[8]) (by kernel_rfl) (by simp) ?_;refine ae.cons rfl (fun K hK=>?_) ae.nil;go_simp;refine hK.out _ _ (hH.alloc _) (fun hH=>?_);clear hK K
     (try simp only[Act.put,List.setIfInBounds_toArray,List.set_cons_zero,List.set_cons_succ])
     obtain⟨E,hE⟩:∃E,fH (holdsOf c) c x=E:=⟨_,rfl⟩
     have eg:E.length=t:=by rw[<-hE,iT];exact I.out
     rw[hE]at bq f3;obtain⟨wD,b2⟩:∃y,wC.alloc (.cells #[.slice (some ⟨tb,0,none⟩) t t] 200)=y:=⟨_,rfl⟩;have kD:Kept [] wC wD:=b2▸(Kept.refl _ _).alloc _;have ac:Kept [] D wD:=KC.out.trans kD;have a6:=f3.out.kept kD (by simp);have c4:∀z∈obl (.slice V a.length r),M.heap.size<=z/\z < D.heap.size:=f0.out.ge;have e2:Grow fK 1 200 M.heap.size (C::obl (.slice V a.length r)) wD (.slice V a.length r) a:=f0.out.step ac (by simp) (by simp) fun z hz=>Or.inl hz
     have ad:aw (C::obl (.slice V a.length r)) (fun w=>fK w [.slice (some ⟨tb,0,none⟩) t t] E) wD:=fun S w'' k hS=>by
      refine⟨_,rfl,?_⟩;rw[eg];refine al (T:=4) (a6.kept k fun d=>?_) (by simp[aB,eg]) (by omega);have h1:=g0.out;have h2:=ek.out.size
      rcases List.mem_cons.1 (hS tb d a6.lt)with h|h
      ·have:=a3.out;have:=cq.out;have:=ev.out;omega
      ·have:=(c4 tb h).2;omega
     have bt:Row wD 1 (.slice (some ⟨wC.heap.size,0,none⟩) 1 1) 1 [.slice (some ⟨tb,0,none⟩) t t]:=b2▸al (cs:=[.slice (some ⟨tb,0,none⟩) t t]) (Blk.new _ _ _) rfl (by decide);rw[b2]at hH ⊢
     have dc:M.heap.size<=wD.heap.size:=by have:=ev.out;have:=ac.size;omega
     obtain⟨i0,hi,c2,c1,c0⟩:=info_parts qz;have f4:=hid (bx.out.kept ac (by simp));have fv:=hid ac;have fz:=hid c4;clear b2 kD ac a6 c4 hE;refine ai (rs:=[9]) (by kernel_rfl) (by simp) ?_;refine ae.cons rfl (fun K hK=>?_) ae.nil;refine bg rfl _ _ 197 rfl i0 _ 24 underlying197 hi c2 c1 c0 rfl (by decide) (by decide) rfl e2 _ [.slice (some ⟨tb,0,none⟩) t t] E rfl bt ad (by simp[Value.oneCell']) (by have:=d0.out;omega) dc (fun z hz=>List.mem_cons_of_mem _ hz) ?_;intro a' c' w8 e3 k8 f7;have ci:Kept (obl (.slice V a.length r)) D w8:=(fv.out.mono (by simp)).trans k8;refine hK.out _ _ ci (fun hH=>?_);clear hK K
     (try simp only[Act.put,List.setIfInBounds_toArray])
     have bk:=f4.out.kept k8 cz.out;have r8:w8.cell? ⟨C,4,none⟩=some (.slice V a.length r):=bk.cell 4;have f8:=bk.frozen 4;have gn:=hid bk;have f1:=hid e3;have g3:=hid ci;clear bk e3 k8 f7 ci e2 ad bt;refine ah [11,12] (i:=10) (v:=?tv10) rfl (by kernel_rfl) (by kernel_rfl) (by kernel_rfl) (by kernel_rfl) (fun _ _ _ h=>h) (Or.inl ⟨by rfl,?ty10⟩) hH ?tr10
     case ty10=>intro w' o;(try dsimp only at o);go_simp;first|done|with_reducible rfl
     (try simp only[Act.put])
     refine ah [12] (i:=11) (v:=?tv11) rfl (by kernel_rfl) (by kernel_rfl) (by kernel_rfl) (by kernel_rfl) (fun _ _ _ h=>h) (Or.inl ⟨by rfl,?ty11⟩) hH ?tr11
     case ty11=>intro w' o;(try dsimp only at o);go_simp;first|done|with_reducible rfl
     (try simp only[Act.put])
     refine ai (rs:=[12]) (by kernel_rfl) (by simp) ?_;refine ae.last rfl (by kernel_rfl) (fun K hK=>?_);go_simp;refine hK.out _ _ ?_;clear hK K
     (try simp only[Act.put,List.setIfInBounds_toArray,List.set_cons_zero,List.set_cons_succ])
     refine ak (by kernel_rfl) ?_ _;obtain⟨w9,b3⟩:∃y,w8.setCell ⟨C,4,none⟩ (.slice a' (a.length+1) c')=y:=⟨_,rfl⟩;rw[b3];have el:Hid (Kept [C] w8 w9):=hid (b3▸(Kept.refl _ _).setCell (Or.inl (by simp)) _);have ap:=gn.out.set_ 4 (.slice a' (a.length+1) c');rw[b3]at ap;have gm:=hid ap;clear b3 ap r8 f8;go_wp2_with fail
     go_roundw
     case rel =>
      have fn:C∉obl (.slice a' (a.length+1) c'):=fun d=>by have:=(f1.out.ge _ d).1;have:=a3.out;have:=cq.out;omega
      refine⟨j+1,.slice a' (a.length+1) c',by omega,by go_num,?_,gm.out,?_⟩
      ·exact((bp.out.trans (KA.out.mono (by simp))).fresh g3.out fun z hz=>(fz.out z hz).1).trans el.out
      ·rw[bq.out];refine f1.out.step el.out (fun z hz d=>fn (by rw[List.mem_singleton]at d;exact d▸hz)) (fun z hz _=>by rw[List.mem_singleton]at hz;subst hz;simp) fun z hz=>?_
       rcases List.mem_cons.1 hz with h|h
       ·exact Or.inl (by rw[h];simp)
       ·exact Or.inl (List.mem_append_right _ h)
     case measure=>simp[intOf];omega
    ·obtain rfl:Y=j:=by omega
     have N:(canOf c).take Y=canOf c:=List.take_of_length_le (by unfold canOf;rw[List.length_map,O.out];omega)
     have c8:(canOf c).length=Y:=by unfold canOf;rw[List.length_map,O.out]
     have A:=s.out;rw[N]at A;have bs:=A.row (by rw[c8];omega);obtain⟨xa,xc,h4⟩:=A.form (by decide);have cu:=hid bs;have h6:=hid (ex.out _ _ bp.out fun z hz _=>hz);have g8:=hid c8;clear N A bs c8;go_wp2_with fail
     go_ret2
     refine⟨u.out,C,rfl,⟨⟨_,_,_,_,_,U.out,by have:=aj.kept (w':=wr) HM.out (fun _ _ h=>MbR.kept h u.out) u.out;rwa [I.out]at this,by have:=aj.kept (w':=wr) HU.out (fun _ _ h=>h) u.out;rwa [O.out]at this,cu.out,⟨_,_,_,rfl⟩,⟨_,_,_,rfl⟩⟩,?_,?_,?_,?_⟩⟩
     ·rw[g8.out,O.out]
     ·intro l a
      unfold canOf at a
      obtain⟨x,_,rfl⟩:=List.mem_map.1 a;exact iT _ _ _
     ·exact⟨by rw[O.out];exact du,fun x hx=>(iU d2.out x hx).2.2⟩
     ·exact⟨by rw[I.out];exact c7,fun m d=>(mh d2.out m d).2⟩
theorem im{B:Nat}{w:World}{cs:List Value}{c:Crw}(h:CrR w cs c)(hcr:cX c=true)(hms:∀m∈c.ms,(∀b∈m.binds,b.1.length<=10000000)/\m.binds.length<=100000)(hE:EnvB B w){u:Nat}(hu:u < c.us.length) :
  Calls prog 60 #[.agg cs.toArray,.int .i64 (u:Int)] w fun e w'=>Kept [] w w'/\∃v,e=.returned v/\w'.ownsRow w.heap.size 3 1 v (posL c (canOf c) u c.ms.length).length (ints (posL c (canOf c) u c.ms.length)):=by
 have g:∀w',Kept [] w w'->Calls prog 102 #[.agg cs.toArray] w' fun e w''=>Kept [] w' w''/\∃f,e=.returned (.tuple #[.pointer (some ⟨f,0,none⟩),.bool true])/\Rck w'' f c (canOf c):=fun w' k=>uJ (CrR.kept h k) hcr hms (hE.kept0 k);have J:=(fg hcr).2.2;obtain⟨vq,vm,vu,rfl,T,U,p⟩:=h;obtain⟨C,A,rfl,_,_⟩:=aj.form T;obtain⟨F,E,rfl,_,_⟩:=aj.form U;obtain⟨o,l,rfl,_,_⟩:=aj.form p;obtain⟨P,L⟩:∃P,posL c (canOf c) u c.ms.length=P:=⟨_,rfl⟩
 have N:Hid (∀(w':World) (f:Nat),Rck w' f c (canOf c)->Calls prog 103 #[.pointer (some ⟨f,0,none⟩),.int .i64 (u:Int)] w' fun e w''=>Kept [] w' w''/\∃v,e=.returned v/\w''.ownsRow w'.heap.size 3 1 v P.length (ints P)):=hid fun w' f hr=>by
  have:=mL hr hu
  rwa [L]at this
 rw[L];obtain⟨nq,s⟩:∃n,c.qs.length=n:=⟨_,rfl⟩;obtain⟨D,t⟩:∃n,c.ms.length=n:=⟨_,rfl⟩;obtain⟨d,i⟩:∃n,c.us.length=n:=⟨_,rfl⟩;rw[s,t,i]at g ⊢;rw[i]at J hu;obtain⟨W,G⟩:∃W,w.alloc (.cells #[.slice C nq A,.slice F D E,.slice o d l] 67)=W:=⟨_,rfl⟩;have j:Kept [] w W:=G▸(Kept.refl _ _).alloc _;have a:Blk W w.heap.size 67 #[.slice C nq A,.slice F D E,.slice o d l]:=G▸Blk.new _ _ _;have z:=hid j;have HW:=hid G;have Q:=hid a;have C1:=hid (g W j);have z0:W.cell? ⟨w.heap.size,0,none⟩=some (.slice C nq A):=a.cell 0;have z1:W.cell? ⟨w.heap.size,1,none⟩=some (.slice F D E):=a.cell 1;have X:W.cell? ⟨w.heap.size,2,none⟩=some (.slice o d l):=a.cell 2
 have Z:IntKind.i64.wrap ((d:Int) - 1)=(d:Int) - 1:=by rw[IntKind.wrap_i64];omega
 have y:=hid fun w'=>cL (u:Int) 0 ((d:Int) - 1) w'
 have x:aV (u:Int) 0 ((d:Int) - 1)=true:=by unfold aV;simp;omega
 rw[x]at y;clear g G j a hms hE hcr s t i T U p L x
 show Calls _ _ #[.agg #[.slice C nq A,.slice F D E,.slice o d l],_] _ _
 go_enter func60,ntmps60
 go_upto_region 1 with(fail);have hW':=HW.out;rw[hW'];clear hW'
 go_wp2_with (first
  |(go_at_call 102;(with_reducible refine C1.out.mono ?_);rintro e Y ⟨I,f,rfl,q⟩;have V:=hid I;have M:=hid q;have X:Y.cell? ⟨w.heap.size,2,none⟩=some (.slice o d l):=(Q.out.kept I (by simp)).cell 2;clear I q)
  |(go_at_call 98;(with_reducible refine(y.out _).mono ?_);rintro e w5 ⟨rfl,rfl⟩;have C5:=hid (N.out _ f M.out))
  |(go_at_call 103;(with_reducible refine C5.out.mono ?_);rintro e w6 ⟨R,v,rfl,r⟩;have K6:=hid R;have O:=hid r;clear R r)
  |go_in)
 go_ret;exact⟨(z.out.trans V.out).trans K6.out,v,rfl,nZ O.out (z.out.trans V.out).size⟩
end Go.Proofs.YtpcmamoomaddoaaGreatDoor
