import Derived.Test.YtcidfldeiklcjaaGreatDoorJn
set_option maxRecDepth 100000
set_option maxHeartbeats 32000000
namespace Go.Proofs.YtcidfldeiklcjaaGreatDoor
open Go.RowKit Bf Tm
open Go.Proofs.Tryz
open Lib(hid)
theorem rH:(prog.info? 24).map (fun i=>(i.zero,i.size,i.bytes))=some (some (.slice none 0 0),1,24):=by kernel_rfl
def gC(n:Nat)(rb:Nat->Nat)(k:Nat):List Value:=(List.range n).map fun a=>if a < k then .slice (some ⟨rb a,0,none⟩) n n else .slice none 0 0
theorem oI(n:Nat)(rb:Nat->Nat)(k:Nat):(gC n rb k).length=n:=by simp[gC]
theorem fd{n a k:Nat}{rb:Nat->Nat}(h:a < n):(gC n rb k)[a]?=some (if a < k then .slice (some ⟨rb a,0,none⟩) n n else .slice none 0 0):=by simp[gC,h]
theorem sO(n:Nat)(rb:Nat->Nat):List.replicate n (Value.slice none 0 0)=gC n rb 0:=by
 apply List.ext_getElem?
 intro i;rw[List.getElem?_replicate]
 by_cases h:i < n
 ·rw[if_pos h,fd h];simp
 ·rw[if_neg h,List.getElem?_eq_none (by rw[oI];omega)]
theorem wT{n k b:Nat}{rb:Nat->Nat}(hk:k < n):(gC n rb k).toArray.setIfInBounds k (.slice (some ⟨b,0,none⟩) n n)=(gC n (fun a=>if a=k then b else rb a) (k+1)).toArray:=by
 rw[List.setIfInBounds_toArray]
 congr 1
 apply List.ext_getElem?
 intro i;rw[List.getElem?_set]
 by_cases h:k=i
 ·subst h;rw[if_pos rfl,if_pos (by rw[oI];exact hk),fd hk]
  simp
 ·rw[if_neg h]
  by_cases hi:i < n
  ·rw[fd hi,fd hi];have h1:¬i=k:=fun e=>h e.symm
   by_cases h2:i < k
   ·rw[if_pos h2,if_pos (by omega),if_neg h1]
   ·rw[if_neg h2,if_neg (by omega)]
  ·rw[List.getElem?_eq_none (by rw[oI];omega),List.getElem?_eq_none (by rw[oI];omega)]
structure PreW (w:World) (B gb n:Nat) (rb:Nat->Nat) (k:Nat):Prop where
 g:Blk w gb 24 (gC n rb k).toArray
 row:∀a,a < k->aZ w (rb a) n fun _=>far
 inj:∀a b,a < k->b < k->rb a=rb b->a=b
 ne:∀a,a < k->rb a≠gb
 ge:∀a,a < k->B<=rb a
theorem PreW.done{w:World}{B gb n:Nat}{rb:Nat->Nat}(h:PreW w B gb n rb n):MatW w B gb n rb (gOf []) := ⟨h.row,fun a ha=>by rw[h.g.cell a,List.getElem?_toArray,fd ha,if_pos ha],h.inj,h.ne,h.ge⟩
theorem PreW.next{w w':World}{B gb n:Nat}{rb:Nat->Nat}{k b:Nat}(h:PreW w B gb n rb k)(hk:k < n)(hB:B<=w.heap.size)(hb:w.heap.size<=b)(k1:Kept [] w w')(ho:aZ w' b n fun _=>far) :
  PreW (w'.setCell ⟨gb,k,none⟩ (.slice (some ⟨b,0,none⟩) n n)) B gb n (fun a=>if a=k then b else rb a) (k+1):=by
 have f:=h.g.lt;have d:=fun a (ha:a < k)=>(h.row a ha).lt;refine⟨?_,fun a ha=>?_,fun a c ha hc e=>?_,fun a ha=>?_,fun a ha=>?_⟩
 ·have:=(h.g.kept k1 (by simp)).set_ k (.slice (some ⟨b,0,none⟩) n n);rw[wT hk]at this;exact this
 ·by_cases e:a=k
  ·subst e;simp only[if_true];exact Blk.far ho (p:=⟨gb,a,none⟩) (by simp;omega) _
  ·simp only[if_neg e];exact Blk.far ((h.row a (by omega)).kept k1 (by simp)) (p:=⟨gb,k,none⟩) (h.ne a (by omega)) _
 ·by_cases e1:a=k <;> by_cases e2:c=k
  ·omega
  ·simp only[if_pos e1,if_neg e2]at e;have:=d c (by omega);omega
  ·simp only[if_neg e1,if_pos e2]at e;have:=d a (by omega);omega
  ·simp only[if_neg e1,if_neg e2]at e;exact h.inj a c (by omega) (by omega) e
 ·by_cases e:a=k
  ·simp only[if_pos e];omega
  ·simp only[if_neg e];exact h.ne a (by omega)
 ·by_cases e:a=k
  ·simp only[if_pos e];omega
  ·simp only[if_neg e];exact h.ge a (by omega)
theorem iu(x:Value)(n:Nat):(madeCells #[x] n).toList=List.replicate n x:=by
 apply List.ext_getElem
 ·simp[madeCells]
 ·intro i h1 h2
  simp[madeCells,Nat.mod_one]
theorem gW{w:World}{B:Nat}{e:TypeId}{g n:Nat}{x:Value}(h:w.ownsRow B e 1 (.slice (some ⟨g,0,none⟩) n n) n (List.replicate n x)):Blk w g e (List.replicate n x).toArray:=by
 obtain⟨hl,hr⟩:=h
 rcases hr with⟨hv,_⟩|⟨g',cap,cur,hv,_,hg,_,_,hcs,htk⟩
 ·cases hv
 injection hv with hv1 hv2 hv3;injection hv1 with hv1;injection hv1 with hv1;subst hv1;subst hv3
 have e:cur=(List.replicate n x).toArray:=by
  apply Array.ext'
  rw[<-htk];exact(List.take_of_length_le (by simp[hcs])).symm
 rw[e]at hg;exact hg
structure CsP (w:World) (L:Nat) (rb:Nat->Nat) (es:List Tm.Edge) (eb:Nat) (y:Ent) (u:Value) (wr:World):Prop where
 mat:MatW wr w.heap.size w.heap.size (L+1) rb (gOf es)
 kept:Kept [] w wr
 box:Cells8 wr eb 0 y u
 ne:∀a,a < L+1->rb a≠eb
section
variable {w wr w':World} {L:Nat} {rb:Nat->Nat} {es:List Tm.Edge} {eb:Nat} {y:Ent} {u:Value}
theorem CsP.drewN(h:CsP w L rb es eb y u wr)(k:Nat):CsP w L rb es eb y u (wr.drewN k) := ⟨h.mat.kept (kr.drewN k),h.kept.drewN k,h.box.kept (kr.drewN k),h.ne⟩
theorem CsP.edge{e:Tm.Edge}{a:Nat}(h:CsP w L rb es eb y u wr)(ha:a < L+1)(hm:MatW w' w.heap.size w.heap.size (L+1) rb (gOf (es++[e])))(k:Kept [rb a] wr w'):CsP w L rb (es++[e]) eb y u w' := ⟨hm,h.kept.fresh k (by intro x hx;obtain rfl:=ms hx;exact h.mat.ge a ha),h.box.keptS k (by rw[List.mem_singleton];exact fun e=>h.ne a ha e.symm),h.ne⟩
theorem CsP.call(h:CsP w L rb es eb y u wr)(a b:Nat)(x:Int)(ha:a < L+1)(hb:b < L+1) :
  Calls prog 97 #[.slice (some ⟨w.heap.size,0,none⟩) (L+1) (L+1),a,b,x] wr fun e w'=>e=.returned (.tuple #[])/\CsP w L rb (es++[(a,b,x)]) eb y u w' :=
 (xh w.heap.size (L+1) (L+1) rb w.heap.size es a b x wr h.mat ha hb).mono fun _ _ ⟨h1,h2,h3⟩=>⟨h1,h.edge ha h2 h3⟩
end
theorem uq{l:List Ent}{y x:Ent}{i j:Nat}(hj:l[j]?=some x)(h:iG y x=true):cD l y i (j+1)=cD l y i j++[(i,j,0)]:=by
 unfold cD;rw[List.range_succ,List.filter_append,List.map_append];simp[hj,h]
theorem qk{l:List Ent}{y x:Ent}{i j:Nat}(hj:l[j]?=some x)(h:iG y x=false):cD l y i (j+1)=cD l y i j:=by
 unfold cD;rw[List.range_succ,List.filter_append,List.map_append];simp[hj,h]
theorem wO{y x:Ent}{a b:Int}(h:y.nums=[a,b]):iG y x=(decide (x.gate=a)&&decide (x.no=b)):=by unfold iG;rw[h];rfl
def CstE(l:List Ent)(dr:Int)(w:World)(e:Ending)(w':World):Prop :=
 ∃(gb:Nat) (rb:Nat->Nat),e=.returned (.slice (some ⟨gb,0,none⟩) (l.length+1) (l.length+1))/\w.heap.size<=gb/\MatW w' w.heap.size gb (l.length+1) rb (gOf (edges l dr l.length))/\Kept [] w w'
theorem jY(v:Value)(l:List Ent)(dr:Int)(w:World)(h:aU w v l)(hw:∀x∈l,WF x)(h0:0<=dr)(h1:dr<=1000)(hl:l.length<=15) :
  Calls prog 59 #[v,dr] w (CstE l dr w):=by
 obtain⟨va,vc,rfl,_,bv⟩:=ag.form h;have HV:=hid h;have HW:=hid hw;obtain⟨i0,hi,bs,bq,bo⟩:=info_parts rH
 generalize hL:l.length=L at bv ⊢
 have HL:=hid hL;rw[hL]at hl;clear h hw hL
 go_enter func59,ntmps59
 go_wp2_with (at_make;refine wpList_make_full _ rfl _ _ 56 rfl w.heap.size 24 i0 () 1 underlying56 hi bs bq _ _ _ _ (L+1) rfl rfl ?b0 ?b0' ?b1 ?b2 (Nat.le_refl _) ?_)
 case b0=>simp
 case b0'=>simp
 case b1=>rw[bo];omega
 case b2=>unfold maxLen;omega
 intro w1 U b7;rw[show(madeCells #[Value.slice none 0 0] (L+1)).toList=_ from iu _ _]at U;have hp:PreW w1 w.heap.size w.heap.size (L+1) (fun _=>0) 0:=⟨by have:=gW U;rw[sO _ fun _=>0]at this;exact this,fun a ha=>by omega,fun a b ha=>by omega,fun a ha=>by omega,fun a ha=>by omega⟩;have cc:Kept [] w w1:=Kept.of_grown b7 (by simp);clear U b7;go_wp2_with fail
 go_loopw [20] (fun i wr=>∃(k:Nat) (rb:Nat->Nat),k<=L+1/\i=k/\PreW wr w.heap.size w.heap.size (L+1) rb k/\Kept [] w wr) (fun i _=>L+1 - (intOf i).toNat)
 case atStart=>exact⟨0,_,Nat.zero_le _,rfl,hp,cc⟩
 case round =>
  obtain⟨k,rb,hk,rfl,hp,a9⟩:=hrel;have HP:=hid hp;clear hp
  by_cases hlt:k < L+1
  ·have hlt':(k:Int) < (L:Int)+1:=by omega
   have RP:Hid (Calls prog 33 #[.slice (some ⟨wr.heap.size,0,none⟩) 1 1,.int .i64 ((L:Int)+1)] (wr.alloc (.cells #[.int .i64 1152921504606846976] 3)) (RepE 1152921504606846976 (L+1) (wr.alloc (.cells #[.int .i64 1152921504606846976] 3)))):=by
    have:=kg 1152921504606846976 (L+1) _ _ _ (Row.lit wr [1152921504606846976] (by simp)) (by omega) (by omega);rw[show((L+1:Nat):Int)=(L:Int)+1 by omega]at this;exact this
   have da:=HP.g.lt;go_wp2_with (go_at_call 33;refine RP.mono ?_);rintro e w2 ⟨b,rfl,hb,ab,b5⟩;rw[ie]at ab;have O:Kept [] wr w2:=((Kept.refl [] wr).alloc _).trans b5
   have cq:wr.heap.size<=b:=by simp at hb;omega
   have cg:w2.cell? ⟨w.heap.size,k,none⟩=some ():=Kept.cellOf (by rw[HP.out.g.cell k,List.getElem?_toArray,fd hlt];simp) _ O;have fg:w2.frozen? ⟨w.heap.size,k,none⟩=false:=(HP.out.g.kept O (by simp)).frozen k;have J:=HP.next hlt a9.size cq O ab;have cu:=hid J;have cb:Kept [] w (w2.setCell ⟨w.heap.size,k,none⟩ (.slice (some ⟨b,0,none⟩) (L+1) (L+1))):=(a9.trans O).setCell (Or.inr (Nat.le_refl _)) _;clear J ab hb b5;go_wp2_with fail
   go_roundw
   case rel=>exact⟨k+1,_,by omega,by go_num,cu.out,cb⟩
   case measure=>simp[intOf];omega
  ·have hlt':¬(k:Int) < (L:Int)+1:=by omega
   have ap:PreW wr w.heap.size w.heap.size (L+1) rb (L+1):=by rw[show L+1=k by omega];rw[show L+1=k by omega]at HP;exact HP.out
   have HM:=hid ap.done;clear HP ap;go_wp2_with fail
   go_loopw [33] (fun i wr2=>∃m:Nat,m<=L/\i=m/\MatW wr2 w.heap.size w.heap.size (L+1) rb (gOf (edges l dr m))/\Kept [] w wr2) (fun i _=>L - (intOf i).toNat)
   case atStart=>exact⟨0,Nat.zero_le _,rfl,HM,a9⟩
   case round =>
    obtain⟨m,hm,rfl,a5,Q⟩:=hrel;have a4:=hid a5;clear a5
    by_cases hml:m < L
    ·have A:m < l.length:=by have:=HL.out;omega
     obtain⟨lb,lo,lc,bt,_,N⟩:=HV.out.at_ (by omega);obtain⟨u,n,ba⟩:=N m A;have hc:=ba.kept Q
     generalize hy:l[m]=y at n hc
     obtain⟨ua,uc,rfl,_,_⟩:=n.form;have x0:=hc.c0;have x1:=hc.c1;have x2:=hc.c2;have x3:=hc.c3;have x4:=hc.c4;have x5:=hc.c5;have x6:=hc.c6;have x7:=hc.c7;injection bt with hv1 hv2 hv3;subst hv1;subst hv3;have HY:=hid hy;have HR:=hid n;have HC:=hid N;clear hc ba N hy n hv2;go_upto_region 11 with(fail)
     have hP:CsP w L rb (edges l dr m) wr.heap.size y (.slice ua y.nums.length uc) (wr.alloc (.cells (entC y (.slice ua y.nums.length uc)).toArray 52)) := ⟨a4.out.kept (kr.alloc _),Q.alloc _,Cells8.of_blk (Blk.new _ _ _),fun a ha e=>by have:=(a4.out.row a ha).lt;omega⟩
     generalize bd:wr.alloc (.cells (entC y (.slice ua y.nums.length uc)).toArray 52)=W1 at hP
     have ad:=hid hP;have cs:=hid bd;have hW':wr.alloc (.cells #[y.gate,y.no,y.time,y.kind,.slice ua y.nums.length uc,y.text,y.c,y.s] 52)=W1:=cs.out;rw[hW'];clear hP bd hW' x0 x1 x2 x3 x4 x5 x6 x7
     generalize co:wr.heap.size=eb at ad ⊢
     have d6:w.heap.size<=eb:=by have:=Q.size;omega
     have dc:=hid Q;clear co Q a4;have T:=hid (ad.out.call L m 2147483648 (by omega) (by omega));go_wp2_with (go_at_call 97;refine T.out.mono ?_);rintro e w2 ⟨rfl,bm⟩;clear T ad;have C2:=hid (bm.call m L 0 (by omega) (by omega));clear bm;go_wp2_with (go_at_call 97;refine C2.out.mono ?_);rintro e w3 ⟨rfl,bl⟩;have B:=hid bl;clear C2 bl;go_upto_region 13 with(fail)
     generalize b9:edges l dr m++[(L,m,2147483648)]++[(m,L,0)]=es at B
     have cy:=hid b9;clear b9;obtain⟨nb,f⟩:∃nb:Bool,(if 0 < m then match l[m - 1]? with|some x=>near x y|none=>false else false)=nb:=⟨_,rfl⟩;have a3:=hid f
     go_cut [80] (fun v wx=>v=.bool nb/\CsP w L rb es eb y (.slice ua y.nums.length uc) wx)
     case first =>
      have b0:=B.box.c0;have b1:=B.box.c1;have b2:=B.box.c2
      by_cases hm0:0 < m
      ·obtain⟨q,hq⟩:∃q,m=q+1:=⟨m - 1,by omega⟩
       have c9:(m:Int) - 1=(q:Int):=by omega
       have I:q < l.length:=by omega
       obtain⟨x,P⟩:=nm (l[q])
       have J:near x y=nb:=by rw[if_pos hm0,show m - 1=q by omega,List.getElem?_eq_getElem I,P]at f;exact f
       obtain⟨_,_,t⟩:=HC q I;rw[P]at t;have hcx':=t.kept B.kept;have p0:=hcx'.c0;have p1:=hcx'.c1;have p2:=hcx'.c2
       unfold near at J
       have cl:decide ((m:Int) > 0)=true:=by simp;omega
       clear t hcx' P f
       by_cases e0:x.gate=y.gate
       ·have e0':(x.gate==y.gate)=true:=by simpa using e0
        by_cases e1:x.no=y.no
        ·have e1':(x.no != y.no)=false:=by simpa using e1
         have M:nb=false:=by rw[<-J,e1];simp
         subst M
         go_quiet (fail)
         go_wp2_with fail
         go_meet
         case rel=>exact⟨rfl,B.drewN _⟩
        ·have e1':(x.no != y.no)=true:=by simpa using e1
         obtain⟨tb,bx⟩:=nm (decide (x.time<=y.time))
         have M:nb=tb:=by rw[<-J,<-bx];simp[e0,e1]
         subst M
         go_quiet (fail)
         go_wp2_with fail
         go_meet
         case rel=>exact⟨rfl,B.drewN _⟩
       ·have e0':(x.gate==y.gate)=false:=by simpa using e0
        have M:nb=false:=by rw[<-J];simp[e0]
        subst M
        go_quiet (fail)
        go_wp2_with fail
        go_meet
        case rel=>exact⟨rfl,B.drewN _⟩
      ·have cl:decide ((m:Int) > 0)=false:=by simp;omega
       have M:nb=false:=by rw[if_neg hm0]at f;exact f.symm
       subst M;clear f
       go_quiet (fail)
       go_wp2_with fail
       go_meet
       case rel=>exact⟨rfl,B.drewN _⟩
     case rest =>
      obtain⟨rfl,bk⟩:=hcut;have Y:=hid bk;clear bk B f
      go_upto_if 80 with(fail)
      go_cut [] (fun wx=>CsP w L rb (es++ef l dr m) eb y (.slice ua y.nums.length uc) wx)
      case first =>
       cases nb
       ·have he:ef l dr m=[]:=by
         have f:=a3.out;have hLl':=A
         unfold ef
         rw[List.getElem?_eq_getElem A,List.getElem?_eq_getElem (show m - 1 < l.length by omega),HY.out]
         simp only
         rw[if_neg];rintro⟨h1,h2⟩;rw[if_pos h1,List.getElem?_eq_getElem (show m - 1 < l.length by omega)]at f
         simp only at f
         rw[h2]at f
         cases f
        have HE:=hid he;clear he;go_wp2_with fail
        go_meet
        case rel=>rw[HE.out,List.append_nil];exact Y.out
       ·obtain⟨q,hq⟩:∃q,m=q+1:=by
         refine⟨m - 1,?_⟩;have f:=a3.out
         by_cases h:0 < m
         ·omega
         ·rw[if_neg h]at f;cases f
        have c9:(m:Int) - 1=(q:Int):=by omega
        have I:q < l.length:=by omega
        obtain⟨x,P⟩:=nm (l[q])
        have hn:near x y=true:=by
         have f:=a3.out;rw[if_pos (show 0 < m by omega),show m - 1=q by omega,List.getElem?_eq_getElem I,P]at f;exact f
        have he:ef l dr m=[(q,m,upW (y.time - x.time) dr),(m,q,jM (y.time - x.time) dr)]:=by
         unfold ef
         rw[List.getElem?_eq_getElem A,show m - 1=q by omega,List.getElem?_eq_getElem I,HY.out,P]
         simp only
         rw[if_pos ⟨by omega,hn⟩]
        have an:=(HW.out x (P▸List.getElem_mem I)).time;have am:=(HW.out y (HY.out▸List.getElem_mem A)).time
        unfold near at hn
        simp only[Bool.and_eq_true,decide_eq_true_eq]at hn;obtain⟨_,_,t⟩:=HC q I;rw[P]at t;have p2:=(t.kept Y.kept).c2;have b2:=Y.box.c2;obtain⟨d,hd⟩:=nm (y.time - x.time)
        have d0:0<=d:=by omega
        have d1:d<=2147483648:=by unfold Tm.mt at an am;omega
        have cp:IntKind.i64.wrap (y.time - x.time)=d:=by rw[hd,IntKind.wrap_i64];omega
        rw[hd]at he;have HE:=hid he;clear he P t hn an am;go_upto_region 14 with(fail)
        go_quiet (fail)
        have X:=Y.drewN nq;clear cp p2 b2;have u0:0<=d*(1000+dr):=Int.mul_nonneg d0 (by omega);have u1:d*(1000+dr)<=4294967296000:=Int.le_trans (Int.mul_le_mul_of_nonneg_left (show 1000+dr<=2000 by omega) d0) (by omega);have v0:0<=d*(1000 - dr):=Int.mul_nonneg d0 (by omega);have v1:d*(1000 - dr)<=4294967296000:=Int.le_trans (Int.mul_le_mul_of_nonneg_left (show 1000 - dr<=1000 by omega) d0) (by omega);have T:=hid (X.call q m (upW d dr) (by omega) (by omega));clear X;obtain⟨p,hp⟩:=nm (d*(1000+dr));obtain⟨r,hr⟩:=nm (d*(1000 - dr));obtain⟨eu,a1⟩:=nm (upW d dr);obtain⟨ed,aa⟩:∃ed,jM d dr=-ed:=⟨-jM d dr,by omega⟩
        have t1:(p+999).tdiv 1000=eu:=by rw[Int.tdiv_eq_ediv_of_nonneg (by omega),<-hp];exact a1
        have t2:r.tdiv 1000=ed:=by
         rw[Int.tdiv_eq_ediv_of_nonneg (by omega),<-hr]
         unfold jM at aa
         omega
        rw[hp]at u0 u1;rw[hr]at v0 v1
        have b1:0<=eu/\eu<=8589934592:=by rw[Int.tdiv_eq_ediv_of_nonneg (by omega)]at t1;omega
        have b2:0<=ed/\ed<=8589934592:=by rw[Int.tdiv_eq_ediv_of_nonneg v0]at t2;omega
        have d8:IntKind.i64.wrap p=p:=by rw[IntKind.wrap_i64];omega
        have d7:IntKind.i64.wrap r=r:=by rw[IntKind.wrap_i64];omega
        have d4:wrap64 eu=eu:=by unfold wrap64;omega
        have d5:wrap64 ed=ed:=by unfold wrap64;omega
        have cm:wrap64 (-ed)=-ed:=by unfold wrap64;omega
        rw[a1]at T;rw[a1,aa]at HE;have HQ:=hid hq;clear hq hd a3 b1 b2 a1 aa;go_wp2_with (go_at_call 97;refine T.out.mono ?_);rintro e w5 ⟨rfl,X⟩;clear T;have C2:=hid (X.call m q (-ed) (by omega) (by omega));clear X;go_wp2_with (go_at_call 97;refine C2.out.mono ?_);rintro e w6 ⟨rfl,z⟩;clear C2;have D:=hid z;clear z;go_wp2_with fail
        go_meet
        case rel=>rw[HE.out];have:=D.out;rw[List.append_assoc]at this;exact this
      case rest =>
       have E:=hid hcut;clear hcut Y
       generalize a6:es++ef l dr m=es2 at E
       have Z:Hid (es2++dz l m=edges l dr (m+1)):=by
        rw[<-a6,<-cy.out,me,gf,iL,HL.out];simp only[List.append_assoc,List.cons_append,List.nil_append]
        rfl
       clear a6;have b3:=E.box.c3;have b4:=E.box.c4
       by_cases k1:y.kind=1
       ·obtain⟨a,b,o,db,ca,bb⟩:=(HW.out y (HY.out▸List.getElem_mem A)).sync k1
        have k1':(y.kind==1)=true:=by simpa using k1
        have hk:dz l m=[(L,m,b),(m,L,-a)]:=by
         unfold dz
         rw[List.getElem?_eq_getElem A,HY.out]
         simp only
         rw[if_pos k1,HL.out,o]
         rfl
        have HK:=hid hk;have n:=HR.out
        have F:y.nums.length=2:=by rw[o];rfl
        unfold Tm.mt at bb
        obtain⟨ub,uo,a0,G⟩:=Row.at_ n (by omega);have n0:=Kept.cellOf (G 0 a (by rw[o];rfl)) _ E.out.kept;have n1:=Kept.cellOf (G 1 b (by rw[o];rfl)) _ E.out.kept
        have d9:IntKind.i64.wrap (-a)=-a:=by rw[IntKind.wrap_i64];omega
        have T:=hid (E.out.call L m b (by omega) (by omega))
        have l0:(0:Nat) < y.nums.length:=by omega
        have l1:(1:Nat) < y.nums.length:=by omega
        have cv:=hid F;rw[a0]at b4;have c0:w.cell? ⟨ub,uo,none⟩=some (.int .i64 a):=G 0 a (by rw[o];rfl);have al:=hid c0;clear c0;clear hk G n F o ca bb;go_wp2_with (go_at_call 97;refine T.out.mono ?_);rintro e w5 ⟨rfl,z⟩;clear T;have C2:=hid (z.call m L (-a) (by omega) (by omega));have n0':=Kept.cellOf al _ z.kept;have b4':=z.box.c4;rw[a0]at b4';clear n0 n1 z b3 b4;go_wp2_with (go_at_call 97;refine C2.out.mono ?_);rintro e w6 ⟨rfl,C⟩;have R:=hid C;clear C2 C n0' b4';have V:=Z.out;rw[HK.out]at V;have cx:=hid V;clear V;go_wp2_with fail;refine⟨⟨m+1,by omega,by go_num,?_,R.out.kept⟩,by simp[intOf];omega⟩;have:=R.mat;rw[List.append_assoc,List.cons_append,List.nil_append,cx.out]at this;exact this
       ·have k1':(y.kind==1)=false:=by simpa using k1
        by_cases k2:y.kind=2
        ·have k2':(y.kind==2)=true:=by simpa using k2
         obtain⟨a,b,o⟩:=(HW.out y (HY.out▸List.getElem_mem A)).hear k2
         have hk:dz l m=cD l y m L:=by
          unfold dz
          rw[List.getElem?_eq_getElem A,HY.out]
          simp only
          rw[if_neg k1,if_pos k2,HL.out]
         have HK:=hid hk;have n:=HR.out
         have F:y.nums.length=2:=by rw[o];rfl
         obtain⟨ub,uo,a0,G⟩:=Row.at_ n (by omega);have al:Hid (w.cell? ⟨ub,uo,none⟩=some (.int .i64 a)):=hid (G 0 a (by rw[o];rfl));have d2:=hid (G 1 b (by rw[o];rfl));have d3:=hid o
         have l0:(0:Nat) < y.nums.length:=by omega
         have l1:(1:Nat) < y.nums.length:=by omega
         have cv:=hid F;clear hk G n F o b4;go_wp2_with fail;clear b3 k1 k2 k1' k2'
         go_loopw [137] (fun i w7=>∃j:Nat,j<=L/\i=j/\CsP w L rb (es2++cD l y m j) eb y (.slice ua y.nums.length uc) w7) (fun i _=>L - (intOf i).toNat)
         case atStart=>exact⟨0,Nat.zero_le _,rfl,by rw[show cD l y m 0=[]from rfl,List.append_nil];exact E.out⟩
         case round =>
          obtain⟨j,hj,rfl,z⟩:=hrel;have D:=hid z;clear z
          by_cases hjl:j < L
          ·have hjl':(j:Int) < (L:Int):=by omega
           have b6:j < l.length:=by have:=HL.out;omega
           obtain⟨x,P⟩:=nm (l[j]);obtain⟨v,a7,t⟩:=HC j b6;rw[P]at t a7;obtain⟨va,vd,rfl,_,_⟩:=a7.form;clear a7;have HX:=hid P;have hcx':=t.kept D.kept;have x0:=hcx'.c0;have x1:=hcx'.c1;have x2:=hcx'.c2;have x3:=hcx'.c3;have x4:=hcx'.c4;have x5:=hcx'.c5;have x6:=hcx'.c6;have x7:=hcx'.c7;clear P t hcx';go_upto_region 25 with(fail)
           have C:CsP w L rb (es2++cD l y m j) eb y (.slice ua y.nums.length uc) (wr.alloc (.cells (entC x (.slice va x.nums.length vd)).toArray 52)) := ⟨D.mat.kept (kr.alloc _),D.kept.alloc _,D.box.kept (kr.alloc _),D.ne⟩
           have a2:Cells8 (wr.alloc (.cells (entC x (.slice va x.nums.length vd)).toArray 52)) wr.heap.size 0 x (.slice va x.nums.length vd):=Cells8.of_blk (Blk.new _ _ _)
           generalize bc:wr.alloc (.cells (entC x (.slice va x.nums.length vd)).toArray 52)=W7 at C a2
           have R:=hid C;have hW':wr.alloc (.cells #[x.gate,x.no,x.time,x.kind,.slice va x.nums.length vd,x.text,x.c,x.s] 52)=W7:=bc;rw[hW'];have z0:=a2.c0;have z1:=a2.c1;have b4:=C.box.c4;rw[a0]at b4;have n0:=Kept.cellOf al _ C.kept;have n1:=Kept.cellOf d2 _ C.kept
           have ao:l[j]?=some x:=by rw[List.getElem?_eq_getElem b6,HX.out]
           have ac:=hid ao;have ah:=hid (wO (x:=x) d3);clear C bc hW' a2 x0 x1 x2 x3 x4 x5 x6 x7 ao
           by_cases e0:x.gate=a
           ·have e0':(x.gate==a)=true:=by simpa using e0
            by_cases e1:x.no=b
            ·have e1':(x.no==b)=true:=by simpa using e1
             go_quiet (fail)
             have T:=hid ((R.out.drewN nq).call m j 0 (by omega) (by omega));clear z0 z1 b4 n0 n1;go_wp2_with (go_at_call 97;refine T.out.mono ?_);rintro e w8 ⟨rfl,bh⟩;have ct:=hid bh;clear T bh;go_wp2_with fail;refine⟨⟨j+1,by omega,by go_num,?_⟩,by simp[intOf];omega⟩;rw[uq ac.out (by rw[ah.out,e0,e1];simp),<-List.append_assoc];exact ct
            ·have e1':(x.no==b)=false:=by simpa using e1
             go_quiet (fail)
             go_wp2_with fail;refine⟨⟨j+1,by omega,by go_num,?_⟩,by simp[intOf];omega⟩;rw[qk ac.out (by rw[ah.out,e0];simp[e1])];exact R.drewN _
           ·have e0':(x.gate==a)=false:=by simpa using e0
            go_quiet (fail)
            go_wp2_with fail;refine⟨⟨j+1,by omega,by go_num,?_⟩,by simp[intOf];omega⟩;rw[qk ac.out (by rw[ah.out];simp[e0])];exact R.drewN _
          ·have hjl':¬(j:Int) < (L:Int):=by omega
           have cd:Hid (j=L):=hid (by omega);go_wp2_with fail;refine⟨⟨m+1,by omega,by go_num,?_,D.out.kept⟩,by simp[intOf];omega⟩;have:=D.mat;rw[cd.out,<-HK.out,Z.out]at this;exact this
        ·have k2':(y.kind==2)=false:=by simpa using k2
         have hk:dz l m=[]:=by
          unfold dz
          rw[List.getElem?_eq_getElem A,HY.out]
          simp only
          rw[if_neg k1,if_neg k2]
         have HK:=hid hk;clear hk;go_wp2_with fail;refine⟨⟨m+1,by omega,by go_num,?_,E.out.kept⟩,by simp[intOf];omega⟩;have:=E.mat;have hf:=Z.out;rw[HK.out,List.append_nil]at hf;rw[hf]at this;exact this
    ·have av:m=L:=by omega
     have HX:=hid av
     have hml':¬(m:Int) < (L:Int):=by omega
     clear av;go_wp2_with fail;go_ret;have hz:=a4.out;rw[HX.out]at hz;refine⟨w.heap.size,rb,?_,Nat.le_refl _,?_,Q⟩
     ·rw[HL.out];rfl
     ·rw[HL.out];exact hz
end Go.Proofs.YtcidfldeiklcjaaGreatDoor
namespace Go.Proofs.YtcidfldeiklcjaaGreatDoor
open Go.RowKit Bf
open Lib(hid)
def vsC(n:Nat)(vs:Nat->Value):List Value:=(List.range n).map vs
theorem kd(n:Nat)(vs:Nat->Value):(vsC n vs).length=n:=by simp[vsC]
theorem eR{n i:Nat}{vs:Nat->Value}(h:i < n):(vsC n vs)[i]?=some (vs i):=by simp[vsC,h]
def updV(vs:Nat->Value)(a:Nat)(v:Value):Nat->Value:=fun i=>if i=a then v else vs i
theorem xQ{n a:Nat}{vs:Nat->Value}(h:a < n)(v:Value):(vsC n vs).toArray.setIfInBounds a v=(vsC n (updV vs a v)).toArray:=by
 rw[List.setIfInBounds_toArray]
 congr 1
 apply List.ext_getElem?
 intro i;rw[List.getElem?_set]
 by_cases e:a=i
 ·subst e;rw[if_pos rfl,if_pos (by rw[kd];exact h),eR h]
  simp[updV]
 ·rw[if_neg e]
  by_cases hi:i < n
  ·rw[eR hi,eR hi]
   unfold updV
   rw[if_neg (fun x=>e x.symm)]
  ·rw[List.getElem?_eq_none (by rw[kd];omega),List.getElem?_eq_none (by rw[kd];omega)]
theorem xR(n:Nat):List.replicate n (Value.slice none 0 0)=vsC n fun _=>.slice none 0 0:=by
 apply List.ext_getElem?
 intro i;rw[List.getElem?_replicate]
 by_cases h:i < n
 ·rw[if_pos h,eR h]
 ·rw[if_neg h,List.getElem?_eq_none (by rw[kd];omega)]
def colG(G:Gf)(i m:Nat):List Int:=(List.range m).map fun j=>G j i
theorem uD(G:Gf)(i m:Nat):colG G i (m+1)=colG G i m++[G m i]:=by unfold colG;rw[List.range_succ,List.map_append];rfl
def dy(n a b i:Nat):Nat:=if i < a then n else if i=a then b else 0
structure TrW (w0 w:World) (gb n:Nat) (G:Gf) (vs:Nat->Value) (a b:Nat):Prop where
 kept:Kept [] w0 w
 g:Blk w gb 24 (vsC n vs).toArray
 ge:w0.heap.size<=gb
 own:∀i,i < n->w.ownsRow w0.heap.size 3 1 (vs i) (dy n a b i) (ints (colG G i (dy n a b i)))
 out:∀i,i < n->∀k∈obl (vs i),k≠gb
 parted:∀i j,i < n->j < n->i≠j->∀k∈obl (vs i),k∉obl (vs j)
section
variable {w0 w w1 w':World} {gb n:Nat} {G:Gf} {vs:Nat->Value} {a b:Nat}
theorem TrW.next{v:Value}(h:TrW w0 w gb n G vs a b)(ha:a < n)(k1:Kept [] w w1)(k:Kept (obl (vs a)) w1 w')
  (ho:w'.ownsRow w0.heap.size 3 1 v (b+1) (ints (colG G a b++[G b a]))) (hob:∀k∈obl v,k∈obl (vs a)\/k=w1.heap.size) :
  TrW w0 (w'.setCell ⟨gb,a,none⟩ v) gb n G (updV vs a v) a (b+1):=by
 have B:=h.g.lt;have y:=k1.size
 have p:∀k∈obl v,k≠gb:=fun x c=>by
  rcases hob x c with e|e
  ·exact h.out a ha x e
  ·omega
 have l:updV vs a v a=v:=by simp[updV]
 have d:∀i,i≠a->updV vs a v i=vs i:=fun i hi=>by simp[updV,hi]
 have A:∀i,i≠a->dy n a (b+1) i=dy n a b i:=fun i hi=>by unfold dy;simp[hi]
 have q:dy n a (b+1) a=b+1:=by unfold dy;simp
 have f:∀ {u:Value} {m:Nat} {xs:List Value},w'.ownsRow w0.heap.size 3 1 u m xs->(∀k∈obl u,k≠gb)->(w'.setCell ⟨gb,a,none⟩ v).ownsRow w0.heap.size 3 1 u m xs:=fun{u m xs} hu hk =>
  af hu (S:=[gb]) (kr.setCell (Or.inl (by simp)) _) (fun z hz=>by have:=hk z hz;simpa using this)
 refine⟨?_,?_,h.ge,fun i hi=>?_,fun i hi=>?_,fun i j hi hj hij=>?_⟩
 ·have t:Kept [] w0 w':=(h.kept.trans k1).fresh k (fun x c=>((ak (h.own a ha)) x c).1);exact t.setCell (Or.inr h.ge) _
 ·have E:=h.g.kept k1 (by simp);have s:=(E.kept k (fun c=>(h.out a ha _ c) rfl)).set_ a v;rw[xQ ha]at s;exact s
 ·by_cases e:i=a
  ·subst e;rw[l,q,uD];exact f ho p
  ·rw[d i e,A i e];have D:=af (h.own i hi) k1 (fun z hz=>by simp);have C:=af D k (fun z hz=>h.parted i a hi ha e z hz);exact f C (h.out i hi)
 ·by_cases e:i=a
  ·subst e;rw[l];exact p
  ·rw[d i e];exact h.out i hi
 ·have r:∀i,i < n->∀k∈obl (vs i),k < w1.heap.size:=fun i hi k hk=>by have:=((ak (h.own i hi)) k hk).2;omega
  intro x c o
  by_cases e1:i=a
  ·subst e1;rw[l]at c;rw[d j (fun e=>hij e.symm)]at o
   rcases hob x c with e|e
   ·exact h.parted i j hi hj hij x e o
   ·have:=r j hj x o;omega
  ·rw[d i e1]at c
   by_cases e2:j=a
   ·subst e2;rw[l]at o
    rcases hob x o with e|e
    ·exact h.parted i j hi hj hij x c e
    ·have:=r i hi x c;omega
   ·rw[d j e2]at o;exact h.parted i j hi hj hij x c o
theorem TrW.row(h:TrW w0 w gb n G vs a n):TrW w0 w gb n G vs (a+1) 0 := ⟨h.kept,h.g,h.ge,fun i hi=>by
  have:dy n (a+1) 0 i=dy n a n i:=by
   unfold dy
   by_cases e1:i < a
   ·rw[if_pos (by omega),if_pos e1]
   ·by_cases e2:i=a
    ·rw[if_pos (by omega),if_neg e1,if_pos e2]
    ·rw[if_neg (by omega),if_neg e1,if_neg e2];simp
  rw[this];exact h.own i hi,h.out,h.parted⟩
theorem TrW.read(h:TrW w0 w gb n G vs n 0)(hn:1<=n):MatV w (.slice (some ⟨gb,0,none⟩) n n) n (turn G):=by
 have e:∀i,i < n->∃r c,vs i=.slice (some ⟨r,0,none⟩) n c/\n<=c/\∀b,b < n->w.cell? ⟨r,b,none⟩=some (.int .i64 (G b i)):=fun i hi=>by
  have p:=h.own i hi
  have s:dy n n 0 i=n:=by unfold dy;rw[if_pos hi]
  rw[s]at p
  rcases p.2 with⟨_,x⟩|⟨g,o,f,j,_,t,l,_,u,k⟩
  ·omega
  ·refine⟨g,o,j,l,fun b hb=>?_⟩;have m:Blk w g 3 f:=t;rw[m.cell b]
   have q:(f.toList.take (n*1))[b]?=some (.int .i64 (G b i)):=by
    rw[k]
    simp[ints,colG,hb]
   rw[List.getElem?_take,if_pos (by omega)]at q
   simpa using q
 refine⟨gb,n,fun i=>match vs i with|.slice (some a) _ _=>a.block|_=>0,fun i=>match vs i with|.slice _ _ c=>c|_=>0,rfl,Nat.le_refl _,fun i hi=>?_⟩;obtain⟨r,c,j,v,d⟩:=e i hi;simp only[j];refine⟨v,?_,d⟩;rw[h.g.cell i,List.getElem?_toArray,eR hi,j]
end
def TrnE(G:Gf)(n:Nat)(w:World)(e:Ending)(w':World):Prop:=∃v,e=.returned v/\MatV w' v n (turn G)/\Kept [] w w'
theorem qM(v:Value)(n:Nat)(G:Gf)(w:World)(h:MatV w v n G)(hn:n<=16)(h1:1<=n) :
  Calls Tryz.prog 27 #[v] w (TrnE G n w):=by
 obtain⟨ib,ic,rb,cp,rfl,a1,O⟩:=h;obtain⟨i0,C,F,E,D⟩:=info_parts rH;have HM:=hid O;clear O
 go_enter Tryz.func27,Tryz.ntmps27
 go_wp2_with (at_make;refine wpList_make_full _ rfl _ _ 56 rfl w.heap.size 24 i0 () 1 Tryz.underlying56 C F E _ _ _ _ n rfl rfl ?b0 ?b0' ?b1 ?b2 (Nat.le_refl _) ?_)
 case b0=>rfl
 case b0'=>rfl
 case b1=>rw[D];omega
 case b2=>unfold maxLen;omega
 intro N c B;rw[show(madeCells #[Value.slice none 0 0] n).toList=_ from iu _ _]at c;have d:Kept [] w N:=Kept.of_grown B (by simp)
 have q:TrW w N w.heap.size n G (fun _=>()) 0 0:=⟨d,by have:=gW c;rw[xR]at this;exact this,Nat.le_refl _,fun i C=>by
  have:dy n 0 0 i=0:=by unfold dy;simp
  rw[this]
  exact⟨rfl,Or.inl ⟨rfl,rfl⟩⟩,fun i C k hk=>by simp[obl,Value.ownBlock]at hk,fun i j C hj hij k hk=>by simp[obl,Value.ownBlock]at hk⟩
 clear c B d;go_wp2_with fail
 go_loopw [11] (fun i wr=>∃(a:Nat) (x:Nat->Value),a<=n/\i=a/\TrW w wr w.heap.size n G x a 0) (fun i _=>n - (intOf i).toNat)
 case atStart=>exact⟨0,_,Nat.zero_le _,rfl,q⟩
 case round =>
  obtain⟨a,x,ha,rfl,q⟩:=hrel;have U:=hid q;clear q
  by_cases han:a < n
  ·go_wp2_with fail
   go_loopw [16] (fun i wr=>∃(b:Nat) (x:Nat->Value),b<=n/\i=b/\TrW w wr w.heap.size n G x a b) (fun i _=>n - (intOf i).toNat)
   case atStart=>exact⟨0,_,Nat.zero_le _,rfl,U⟩
   case round =>
    obtain⟨b,x,hb,rfl,q⟩:=hrel;have m:=hid q;clear q
    by_cases hbn:b < n
    ·have A:dy n a b a=b:=by unfold dy;simp
     have c:=m.own a han;rw[A]at c;obtain⟨u,t,e⟩:=aG c
     have x0:wr.cell? ⟨w.heap.size,a,none⟩=some (.slice u b t):=by rw[m.out.g.cell a,List.getElem?_toArray,eR han,e]
     have Y:=m.g.frozen a;have a0:=m.g.lt;obtain⟨a2,p,l⟩:=HM b hbn;have x1:=Kept.cellOf p _ m.kept;have M:=Kept.cellOf (l a han) _ m.kept
     generalize P:G b a=g at M
     have HG:=hid P;have d:Kept [] wr (wr.drew.alloc (.cells #[g] 3)):=kr.drew.alloc _
     have f:(wr.drew.alloc (.cells #[g] 3)).ownsRow w.heap.size 3 1 (.slice u b t) b (ints (colG G a b)):=by
      have:=af c d (fun z hz=>by simp);rw[e]at this;exact this
     have HO:=hid f;have T:=hid e;have y:Row (wr.drew.alloc (.cells #[g] 3)) 1 (.slice (some ⟨wr.heap.size,0,none⟩) 1 1) 1 (ints [g]):=Row.lit wr.drew [g] (by simp);have HR:=hid y
     have HC:Hid (∀s,Kept (obl (.slice u b t)) (wr.drew.alloc (.cells #[g] 3)) s->s.cell? ⟨w.heap.size,a,none⟩=some (.slice u b t)/\s.frozen? ⟨w.heap.size,a,none⟩=false):=fun s k4=>by
      have hn:w.heap.size∉obl (.slice u b t):=fun hx=>m.out.out a han _ (by rw[e];exact hx) rfl;have Q:=(m.out.g.kept d (by simp)).kept k4 hn;exact⟨by rw[Q.cell a,List.getElem?_toArray,eR han,e],Q.frozen a⟩
     have L:=hid d;clear p l P f c e y d;go_wp2_with fail
     go_region_law (refine cT rfl (.tmp 24) (.tmp 32) rfl w.heap.size (.slice u b t) b (colG G a b) (by simp[Act.eval]) HO.out (.slice (some ⟨wr.heap.size,0,none⟩) 1 1) 1 [g] (by simp[Act.eval]) HR.out (by omega) (by simp;omega) ?_;intro a' c' s V I R;obtain⟨Z,X⟩:=HC.out s I)
     all_goals
      have J:=hid (m.out.next han (v:=.slice a' (b+1) c') L.out (by rw[T.out];exact I) (by rw[HG.out];exact V) (by rw[T.out];exact R));clear V I R Z X x0 x1 M Y;go_wp2_with fail
      go_roundw
     all_goals first
      |exact⟨b+1,_,by omega,by go_num,J.out⟩
      |(simp[intOf];omega)
    ·have r:=m.out;rw[show b=n by omega]at r;have o:=hid r.row;clear r;go_wp2_with fail;exact⟨⟨a+1,_,by omega,by go_num,o.out⟩,by simp[intOf];omega⟩
  ·have r:=U.out;rw[show a=n by omega]at r;have o:=hid r;clear r;go_wp2_with fail;go_ret;exact⟨_,rfl,o.read h1,o.kept⟩
end Go.Proofs.YtcidfldeiklcjaaGreatDoor
namespace Go.Proofs.YtcidfldeiklcjaaGreatDoor
open Go.RowKit Tm
open Go.Proofs.Tryz
open Lib(hid)
def TmE(s:Stp)(keys:List Int)(l:List Ent)(dr:Int)(w:World)(e:Ending)(w':World):Prop:=Kept [] w w' /\
 (((aw s&&inB dr 0 1000)=false/\e=.returned (.tuple #[(),.bool false])) \/
  ((aw s&&inB dr 0 1000)=true/\∃(o:List Ent) (gb:Nat),bA (aN s keys) l o/\o.length<=12/\(∀x∈o,WF x)/\0<=dr/\dr<=1000/\e=.returned (.tuple #[.slice (some ⟨gb,0,none⟩) (o.length+1) (o.length+1),.bool true])/\MatV w' (.slice (some ⟨gb,0,none⟩) (o.length+1) (o.length+1)) (o.length+1) (gOf (edges o dr o.length))))
theorem iy{s:Stp}{keys:List Int}{l o:List Ent}(h:bA (aN s keys) l o):∀x∈o,WF x:=fun x hx=>by
 have h1:=((h.2 x).1 hx).2
 unfold aN at h1
 simp only[Bool.and_eq_true]at h1;exact(dS h1.1).1
theorem jf(vs vk va:Value)(s:Stp)(keys:List Int)(l:List Ent)(dr:Int)(w:World)(hs:StpV w vs s)(hk:Row w 1 vk keys.length (ints keys))(ha:aU w va l)(hl:l.length<=12)(hI:∀e∈l,EntI e)(hki:∀x∈keys,Wire.I64 x)(hE:Env2 w) :
  Calls prog 25 #[vs,vk,va,dr] w (TmE s keys l dr w):=by
 have hs':=hs;obtain⟨⟨i,g,rfl,m⟩,ip,iq,ig,ib,il⟩:=hs';obtain⟨aa,ca,rfl,_,_⟩:=ag.form ha;obtain⟨ka,kc,rfl,_,_⟩:=hk.form;obtain⟨W,u⟩:=nm (w.alloc (.cells (stpA s (.slice i s.bases.length g)) 26));have O:Blk W w.heap.size 26 (stpA s (.slice i s.bases.length g)):=u▸Blk.new _ _ _;have b:Kept [] w W:=u▸kr.alloc _
 have T:Hid (∀w',Kept [] W w'->Calls prog 58 #[.agg #[s.P,s.Q,s.G,.slice i s.bases.length g,s.blind]] w' fun e w2=>e=.returned (.bool (aw s))/\Kept [] w' w2):=fun w' k =>
  bY _ s w' (hs.kept (b.trans k)) (hE.kept0 (b.trans k))
 have R:Hid (∀w',Kept [] W w'->Calls prog 37 #[dr,.int .i64 0,.int .i64 1000] w' fun e w2=>e=.returned (.bool (inB dr 0 1000))/\Kept [] w' w2):=fun w' _ =>
  (aV dr 0 1000 w').mono fun e w' ⟨h1,h2⟩=>⟨h1,h2▸kr⟩
 have JN:Hid (∀w',Kept [] W w'->Calls prog 17 #[.agg #[s.P,s.Q,s.G,.slice i s.bases.length g,s.blind],.slice ka keys.length kc,.slice aa l.length ca,()] w' (jQ s keys l w')):=fun w' k =>
  wH _ _ _ s keys l w' (hs.kept (b.trans k)) (hk.kept (b.trans k)) (ha.kept (b.trans k)) hl hI hki (hE.kept0 (b.trans k))
 obtain⟨Z,Y,X,V,U⟩:=bH5 O rfl;have HW:=hid u;have f:=hid b
 have t:Hid (inB dr 0 1000=true->0<=dr/\dr<=1000):=fun h=>by unfold inB at h;simpa using h
 unfold TmE
 obtain⟨b1,p⟩:=nm (aw s);obtain⟨b2,n⟩:=nm (inB dr 0 1000);rw[p]at T ⊢;rw[n]at R t ⊢;clear u O m p n b hs hk ha hki hE ib hI
 show Calls _ _ #[.agg #[s.P,s.Q,s.G,.slice i s.bases.length g,s.blind],_,_,_] _ _
 go_enter func25,ntmps25
 go_upto_region 1 with(fail);have hW':w.alloc (.cells #[s.P,s.Q,s.G,.slice i s.bases.length g,s.blind] 26)=W:=HW.out;rw[hW'];clear hW';have C:=Z.out _ kr;have B:=Y.out _ kr;have A:=X.out _ kr;have z:=V.out _ kr;have y:=U.out _ kr;go_wp2_with (go_at_call 58;with_reducible refine(T.out _ kr).mono ?_);rintro e J ⟨rfl,M⟩;have a:Kept [] W J:=M;clear M
 cases b1
 ·go_wp2_with fail
  go_ret2
  exact⟨f.trans a,Or.inl ⟨rfl,rfl⟩⟩
 have q:=hid (R J a);go_wp2_with (go_at_call 37;with_reducible refine q.out.mono ?_);rintro e I ⟨rfl,j⟩;replace a:=a.trans j;clear j q
 cases b2
 ·go_wp2_with fail
  go_ret2
  exact⟨f.trans a,Or.inl ⟨rfl,rfl⟩⟩
 ·have hd:=t rfl;have v:=hid hd;have K5:Hid (Kept [] W _):=a;clear C B A z y hd;have C:=Z.out _ a;have B:=Y.out _ a;have A:=X.out _ a;have z:=V.out _ a;have y:=U.out _ a;have F:=hid (JN _ a);clear a;go_wp2_with (go_at_call 17;with_reducible refine F.out.mono ?_);rintro e I ⟨vj,o,rfl,d,c,D,j⟩;obtain⟨ja,jc,rfl,_,_⟩:=ag.form d;have CO:=hid (jY _ o dr I d (iy c) v.out.1 v.out.2 (by omega));have r:=hid c;have K6:=hid (f.trans (K5.trans j));clear C B A z y d c j;go_wp2_with (go_at_call 59;with_reducible refine CO.out.mono ?_);rintro e w7 ⟨gb,rb,rfl,E,N,L⟩;have HM:=hid N.read;have K7:=hid (K6.trans L);clear N E L;go_wp2_with fail
  go_ret2
  exact⟨K7,Or.inr ⟨rfl,o,gb,r,D,iy r,v.1,v.2,rfl,HM⟩⟩
end Go.Proofs.YtcidfldeiklcjaaGreatDoor
