import Derived.Test.YtpcmamoomaddoaaGreatDoorVus
set_option maxRecDepth 100000
set_option maxHeartbeats 32000000
namespace Go.Proofs.YtpcmamoomaddoaaGreatDoor
open Go.RowKit Go.Shelf Go.Lib
open Go.Proofs.Tryz
open Lib(hid)
def oddB(n:Int):Bool:=!aV n 0 4096
theorem wu(n:Int)(w:World):Calls prog 97 #[.int .i64 n] w fun e w'=>e=.returned (.bool (oddB n))/\w'=w:=by
 have H:=hid (cL n 0 4096 w)
 unfold oddB
 obtain⟨b,hb⟩:∃b,aV n 0 4096=b:=⟨_,rfl⟩;rw[hb]at H ⊢;clear hb
 go_enter func97,ntmps97
 go_wp2_with (go_at_call 98;(with_reducible refine H.out.mono ?_);rintro e w5 ⟨rfl,rfl⟩);go_ret;exact⟨rfl,rfl⟩
theorem uK{w:World}{v:Value}{l:List Int}{n:Nat}(h:Row w 1 v n (ints l)) :
  Calls prog 100 #[v,.func (.func 97) #[] #[]] w fun e w'=>e=.returned (.bool (l.any oddB))/\Kept [] w w':=by
 have m:l.length=n:=by have:=h.1;simpa [ints]using this
 obtain⟨a,c,rfl,g,_⟩:=h.form
 rcases Nat.eq_zero_or_pos l.length with i|o
 ·have:=List.eq_nil_of_length_eq_zero i;subst this
  have:n=0:=by simpa using m.symm
  subst this;refine(Tryz.slices_ContainsFunc_empty (α:=Int) a c _ w).mono ?_;rintro e w' ⟨rfl,rfl⟩;exact⟨rfl,Kept.refl _ _⟩
 ·obtain⟨b,f,rfl,d⟩:=h.at_ (by omega);have k:∀args w,(callFunc 97 args).run prog w=.ok (.enter 97 args) w:=enters_of func97 (by kernel_rfl) rfl
  have:=Tryz.slices_ContainsFunc (α:=Int) (Value.int .i64) oddB 97 #[] k b f n c l w (fun W x _=>by
   exact(wu x W).mono fun e w' ⟨he,hw⟩=>⟨he,0,by rw[hw];rfl⟩) (by omega) g (fun j hj=>by
   rw[d j _ (bu hj)]
   simp[hj])
  refine this.mono ?_;rintro e w' ⟨rfl,q,rfl⟩;exact⟨by rw[List.take_of_length_le (by omega)],(Kept.refl _ _).drewN q⟩
/-- a member -/
structure Mb where
 binds:List Bnd
 tickets:List Int
 rev:Int
def memB(m:Mb):Bool:=db m.binds&&decide (m.tickets.length<=16)&&!m.tickets.any oddB&&aV m.rev (-1) 16
theorem jp{B:Nat}{w:World}{m:Mb}{vb vt:Value}(hb:aj dE 2 w vb m.binds)(ht:Row w 1 vt m.tickets.length (ints m.tickets))(hs:∀b∈m.binds,b.1.length<=10000000)(hl:m.binds.length<=100000)(hE:EnvB B w) :
  Calls prog 56 #[.agg #[vb,vt,.int .i64 m.rev]] w fun e w'=>e=.returned (.bool (memB m))/\Kept [] w w':=by
 obtain⟨t,v,f⟩:=m
 dsimp only at hb ht hs hl ⊢
 obtain⟨R,c⟩:∃R,memB ⟨t,v,f⟩=R:=⟨_,rfl⟩;rw[c]
 unfold memB at c
 simp only at c
 obtain⟨W,h⟩:∃W,w.alloc (.cells #[vb,vt,.int .i64 f] 74)=W:=⟨_,rfl⟩;have d:Kept [] w W:=h▸(Kept.refl _ _).alloc _;have q:Blk W w.heap.size 74 #[vb,vt,.int .i64 f]:=h▸Blk.new _ _ _;have j:aj dE 2 W vb t:=aj.kept hb (fun _ _ x=>x) d;have u:=hid (fo j hs hl (hE.kept0 d));have A:=hid (fun(w':World) (k:Kept [] W w')=>uK (ht.kept (d.trans k)));have J:=hid (fun w'=>cL f (-1) 16 w');obtain⟨Q,P,rfl,_,_⟩:=hb.form;obtain⟨D,C,rfl,_,_⟩:=ht.form;obtain⟨n,E⟩:∃n,v.length=n:=⟨_,rfl⟩;obtain⟨M,i⟩:∃n,t.length=n:=⟨_,rfl⟩;obtain⟨F,p⟩:∃b,db t=b:=⟨_,rfl⟩;obtain⟨T,o⟩:∃b,v.any oddB=b:=⟨_,rfl⟩;obtain⟨Z,l⟩:∃b,aV f (-1) 16=b:=⟨_,rfl⟩;rw[p]at u c;rw[o]at A c;rw[l]at J c;rw[E]at A c q h ⊢;rw[i]at u q h ⊢;have Y:W.cell? ⟨w.heap.size,0,none⟩=some (.slice Q M P):=q.cell 0;have I:=hid q;have z:=hid d;have G:=hid h;clear h d q p o l hb j ht hs hE E i
 by_cases h16:n<=16
 ·have h16':(n:Int)<=16:=by omega
  rw[decide_eq_true h16]at c
  cases F <;> cases T <;> (
   go_enter func56,ntmps56
   go_upto_region 2 with(fail);have hW':=G.out;rw[hW'];clear hW'
   go_wp2_with (first
    |(go_at_call 99;(with_reducible refine u.out.mono ?_);rintro e s ⟨rfl,g⟩;have a:=I.out.kept g (by simp);have O:s.cell? ⟨w.heap.size,1,none⟩=some (.slice D n C):=a.cell 1;have N:s.cell? ⟨w.heap.size,2,none⟩=some (.int .i64 f):=a.cell 2;have r:=hid g;clear a g)
    |(go_at_call 100;(with_reducible refine(A.out _ r.out).mono ?_);rintro e L ⟨rfl,y⟩;have X:L.cell? ⟨w.heap.size,2,none⟩=some (.int .i64 f):=Kept.cellOf N _ y;have U:=hid y;clear y)
    |(go_at_call 98;(with_reducible refine(J.out _).mono ?_);rintro e V ⟨rfl,rfl⟩))
   go_ret
   first
    |exact⟨by rw[<-c];rfl,(z.out.trans r.out).trans U.out⟩
    |exact⟨by rw[<-c];rfl,z.out.trans r.out⟩)
 ·have h16':¬(n:Int)<=16:=by omega
  rw[decide_eq_false h16]at c
  cases F <;> (
   go_enter func56,ntmps56
   go_upto_region 2 with(fail);have hW':=G.out;rw[hW'];clear hW';go_wp2_with (go_at_call 99;(with_reducible refine u.out.mono ?_);rintro e s ⟨rfl,g⟩;have a:=I.out.kept g (by simp);have O:s.cell? ⟨w.heap.size,1,none⟩=some (.slice D n C):=a.cell 1;have r:=hid g;clear a g);go_ret
   exact⟨by rw[<-c];rfl,z.out.trans r.out⟩)
end Go.Proofs.YtpcmamoomaddoaaGreatDoor
namespace Go.Proofs.YtpcmamoomaddoaaGreatDoor
open Go.RowKit
theorem rE{α:Type}[DecidableEq α](l:List α):decide (l.length=0)=decide ([]=l):=by
 cases l <;> simp
theorem oN{α:Type}[DecidableEq α]{l m:List α}(h:l.length≠m.length):decide (l=m)=false:=by
 simp only[decide_eq_false_iff_not];intro e;exact h (by rw[e])
theorem ox:∀l m:List Bs,(l.map fun s=>(⟨s.toArray⟩:ByteArray))=m.map (fun s=>⟨s.toArray⟩)->l=m
 | [],[],_=>rfl
 | [],_::_,h=>by cases h
 |_::_,[],h=>by cases h
 |a::l,b::m,h=>by
  rw[List.map_cons,List.map_cons]at h;have h1:=(List.cons.inj h).1;have h2:=(List.cons.inj h).2;rw[mq h1,ox l m h2]
theorem kK{w:World}{v1 v2:Value}{l1 l2:List Bs}{n1 n2:Nat}(h1:Row w 1 v1 n1 (strs l1))(h2:Row w 1 v2 n2 (strs l2)) :
  Calls Tryz.prog 83 #[v1,v2] w fun e w'=>e=.returned (.bool (decide (l1=l2)))/\Kept [] w w':=by
 have o:l1.length=n1:=by have:=h1.1;simpa [strs]using this
 have n:l2.length=n2:=by have:=h2.1;simpa [strs]using this
 obtain⟨f,b,rfl,k,_⟩:=h1.form;obtain⟨d,a,rfl,c,_⟩:=h2.form
 by_cases hz:n1=0
 ·subst hz;have:=List.eq_nil_of_length_eq_zero o;subst this;refine(Tryz.slices_Equal_string_empty f d b n2 a w c).mono ?_;rintro e w' ⟨rfl,rfl⟩;exact⟨by rw[<-n,rE],Kept.refl _ _⟩
 ·by_cases hne:n1=n2
  ·obtain⟨r,i,rfl,m⟩:=h1.at_ (by omega);obtain⟨p,g,rfl,l⟩:=h2.at_ (by omega)
   have:=Tryz.slices_Equal_string r i n1 b p g n2 a (l1.map fun s=>⟨s.toArray⟩) (l2.map fun s=>⟨s.toArray⟩) w (by simp;omega) (by simp;omega) k c
    (fun j hj=>by
     rw[List.length_map]at hj;rw[m j _ (eD hj)]
     simp[List.getD_eq_getElem?_getD,hj])
    (fun j hj=>by
     rw[List.length_map]at hj;rw[l j _ (eD hj)]
     simp[List.getD_eq_getElem?_getD,hj])
   refine this.mono ?_;rintro e w' ⟨rfl,q,rfl⟩;refine⟨?_,(Kept.refl _ _).drewN q⟩
   congr 2
   rw[List.take_of_length_le (by simp;omega),List.take_of_length_le (by simp;omega)];rw[decide_eq_decide]
   constructor
   ·exact ox l1 l2
   ·intro h;rw[h]
  ·refine(Tryz.slices_Equal_string_lens f d n1 b n2 a w hne).mono ?_;rintro e w' ⟨rfl,rfl⟩;exact⟨by rw[oN (by omega)],Kept.refl _ _⟩
/-- slices.Index at ints -/
theorem gP{w:World}{v:Value}{l:List Int}{n:Nat}(h:Row w 1 v n (ints l))(x:Int) :
  Calls Tryz.prog 86 #[v,.int .i64 x] w fun e w'=>e=.returned (.int .i64 (Lib.idxOf l x))/\w'=w:=by
 have e1:l.length=n:=by have:=h.1;simpa [ints]using this
 obtain⟨a,c,rfl,m1,_⟩:=h.form
 rcases Nat.eq_zero_or_pos l.length with h0|hp
 ·have:=List.eq_nil_of_length_eq_zero h0;subst this
  have:n=0:=by simpa using e1.symm
  subst this;exact Tryz.slices_Index_int_empty a c x w
 ·obtain⟨b,off,rfl,hcell⟩:=h.at_ (by omega)
  have:=Tryz.slices_Index_int b off n c l x w (by omega) m1 (fun j hj=>by
   rw[hcell j _ (bu hj)]
   simp[List.getD_eq_getElem?_getD,hj])
  rwa [List.take_of_length_le (by omega)]at this
open Go.Proofs.Tryz
open Lib(hid)
def PssR(w:World)(c:List Value)(p:Pss):Prop:=∃v u,c=[.string ⟨p.name.toArray⟩,.int .i64 p.pub,v,u]/\Row w 1 v p.attrs.length (strs p.attrs)/\Row w 1 u p.guests.length (ints p.guests)
theorem PssR.kept{w w':World}{c:List Value}{p:Pss}(h:PssR w c p)(k:Kept [] w w'):PssR w' c p:=by obtain⟨v,u,h1,h2,h3⟩:=h;exact⟨v,u,h1,h2.kept k,h3.kept k⟩
def gO(p q:Pss):Bool:=decide (q.name=p.name)&&(decide (q.pub=p.pub) || !decide (q.attrs=p.attrs))
def badK(l:List Pss)(i:Nat):Bool:=match l[i]? with|none=>false|some p=>!dW p ||(l.take i).any (gO p)
def dI(l:List Pss):Bool:=decide (l.length≠0)&&decide (l.length<=16)&&!(List.range l.length).any (badK l)
theorem sY{l:List Pss}{i:Nat}(hi:i < l.length)(h:badK l i=true):dI l=false:=by
 unfold dI
 rw[show(List.range l.length).any (badK l)=true from List.any_eq_true.2 ⟨i,List.mem_range.2 hi,h⟩]
 simp
theorem qt{l:List Pss}(h0:l.length≠0)(h1:l.length<=16)(h:∀i,i < l.length->badK l i=false):dI l=true:=by
 unfold dI
 rw[show(List.range l.length).any (badK l)=false from List.any_eq_false.2 fun i hi=>by rw[h i (List.mem_range.1 hi)];simp]
 simp[h1]
 exact fun e=>h0 (by rw[e];rfl)
theorem lg{B:Nat}{w:World}{v:Value}{l:List Pss}(h:aj PssR 4 w v l)(hs:∀p∈l,p.name.length<=10000000/\∀a∈p.attrs,a.length<=10000000)(hE:EnvB B w) :
  Calls prog 38 #[v] w fun e w'=>e=.returned (.bool (dI l))/\Kept [] w w':=by
 obtain⟨a,c,rfl,a4,ao⟩:=h.form;obtain⟨R,hR⟩:∃R,dI l=R:=⟨_,rfl⟩;obtain⟨n,hn⟩:∃n,l.length=n:=⟨_,rfl⟩
 have G1:∀i,i < n->badK l i=true->R=false:=fun i hi hb=>by rw[<-hR];exact sY (by omega) hb
 have G2:n≠0->n<=16->(∀i,i < n->badK l i=false)->R=true:=fun h1 h2 h3=>by rw[<-hR];exact qt (by omega) (by omega) (fun i hi=>h3 i (by omega))
 have G3:n=0->R=false:=fun h0=>by rw[<-hR];unfold dI;simp[show l.length=0 by omega]
 have G4:¬n<=16->R=false:=fun h0=>by rw[<-hR];unfold dI;simp;intro _ h;omega
 rw[hR];rw[hn]at h ao a4 ⊢;have H:=hid h;have HN:=hid hn;have HS:=hid hs;have HE:=hid hE;have G1:=hid G1;have G2:=hid G2;have G3:=hid G3;have G4:=hid G4;clear hR hn h hs hE
 by_cases h0:n=0
 ·subst h0
  go_enter func38,ntmps38
  go_wp2_with fail;go_ret;exact⟨by first|rfl|(rw[G3.out trivial];rfl),Kept.refl _ _⟩
 ·by_cases h16:n<=16
  ·have h0':(n:Int)≠0:=by omega
   have h16':¬(16:Int) < (n:Int):=by omega
   have T:((n:Int)==0)=false:=by simpa using h0
   go_enter func38,ntmps38
   go_wp2_with fail
   (try simp only[T])
   have b0:=hid h0;clear h0'
   go_loopw [17] (fun v wr=>∃i:Nat,i<=n/\v=.int .i64 i/\Kept [] w wr/\∀k,k < i->badK l k=false) (fun v _=>n - (intOf v).toNat)
   case atStart=>exact⟨0,Nat.zero_le _,rfl,Kept.refl _ _,fun k hk=>absurd hk (by omega)⟩
   case round =>
    obtain⟨i,hi,rfl,d,M⟩:=hrel;have P:=hid M;have au:=hid d;clear M
    by_cases hlt:i < n
    ·have hlt':(i:Int) < (n:Int):=by omega
     obtain⟨b,f,rfl,hc⟩:=H.out.at_ (by have:=HN.out;omega);obtain⟨p,hp⟩:∃p,l[i]?=some p:=⟨_,List.getElem?_eq_getElem (by have:=HN.out;omega)⟩;obtain⟨cp,q1,q2,m⟩:=hc i p hp;obtain⟨va,vg,rfl,s,a1⟩:=q2;obtain⟨Y,X,rfl,_,_⟩:=s.form;obtain⟨ga,gc,rfl,_,_⟩:=a1.form;obtain⟨y,V⟩:∃y,p.attrs.length=y:=⟨_,rfl⟩;obtain⟨I,a6⟩:∃I,p.guests.length=I:=⟨_,rfl⟩;rw[V]at s m;rw[a6]at m;have b1:=hid V;have Q:=HS.out p (List.mem_of_getElem? hp);have y0:wr.cell? ⟨b,f+i*4,none⟩=some (.string ⟨p.name.toArray⟩):=Kept.cellOf (m 0 _ (by decide) rfl) _ d;have y1:wr.cell? ⟨b,f+i*4+1,none⟩=some (.int .i64 p.pub):=Kept.cellOf (m 1 _ (by decide) rfl) _ d;have y2:wr.cell? ⟨b,f+i*4+2,none⟩=some (.slice Y y X):=Kept.cellOf (m 2 _ (by decide) rfl) _ d;have y3:wr.cell? ⟨b,f+i*4+3,none⟩=some (.slice ga I gc):=Kept.cellOf (m 3 _ (by decide) rfl) _ d;obtain⟨wA,C⟩:∃x,wr.alloc (.cells #[.string ⟨p.name.toArray⟩,.int .i64 p.pub,.slice Y y X,.slice ga I gc] 36)=x:=⟨_,rfl⟩;have kA:Kept [] wr wA:=C▸(Kept.refl _ _).alloc _;have r:Blk wA wr.heap.size 36 #[.string ⟨p.name.toArray⟩,.int .i64 p.pub,.slice Y y X,.slice ga I gc]:=C▸Blk.new _ _ _;have x0:wA.cell? ⟨wr.heap.size,0,none⟩=some (.string ⟨p.name.toArray⟩):=r.cell 0;have x1:wA.cell? ⟨wr.heap.size,1,none⟩=some (.int .i64 p.pub):=r.cell 1;have x2:wA.cell? ⟨wr.heap.size,2,none⟩=some (.slice Y y X):=r.cell 2;have x3:wA.cell? ⟨wr.heap.size,3,none⟩=some (.slice ga I gc):=r.cell 3;have HV:=hid (gj (p:=p) (va:=.slice Y y X) (vg:=.slice ga I gc) (by rw[b1.out];exact s.kept (d.trans kA)) Q.1 Q.2 (HE.out.kept0 (d.trans kA)))
     have af:=hid r;have a8:=hid C;have ad:=hid (d.trans kA);have ap:=hid s;have HP:=hid hp;clear hc q1 m a1 C kA r d s hp Q V a6;go_upto_region 6 with(fail);have hwA':=a8.out;rw[hwA'];clear hwA' y0 y1 y2 y3 a8
     cases hpb:dW p
     ·rw[hpb]at HV;have Z:=hid hpb;clear hpb;go_wp2_with (go_at_call 28;refine HV.out.mono ?_;rintro e w5 ⟨rfl,k5⟩);go_ret;exact⟨by rw[G1.out i hlt (by unfold badK;rw[HP.out];simp[Z.out])];rfl,ad.out.trans k5⟩
     ·rw[hpb]at HV;have Z:=hid hpb;clear hpb
      have b2:i<=c:=by omega
      go_wp2_with (go_at_call 28;refine HV.out.mono ?_;rintro e w5 ⟨rfl,k5⟩);have av:=hid (ad.out.trans k5);have ag:=hid (af.out.kept k5 (by simp));obtain⟨g,hg⟩:∃g,wr.heap.size=g:=⟨_,rfl⟩;rw[hg]at ag
      (try rw[hg])
      clear hg k5 HV af x0 x1 x2 x3 T
      go_loopw [29] (fun v wi=>∃k:Nat,k<=i/\v=.int .i64 k/\Kept [] w5 wi/\(l.take k).any (gO p)=false) (fun v _=>i - (intOf v).toNat)
      case atStart=>exact⟨0,Nat.zero_le _,rfl,Kept.refl _ _,by simp⟩
      case round =>
       obtain⟨k,hk,rfl,E,L⟩:=hrel;have u:=hid L;have j:=hid (av.out.trans E);clear L
       by_cases hlk:k < i
       ·have hlk':(k:Int) < (i:Int):=by omega
        obtain⟨b',off',U,hc⟩:=H.out.at_ (by have:=HN.out;omega);injection U with U;injection U with e1 e2;subst e1;subst e2;obtain⟨q,hq⟩:∃q,l[k]?=some q:=⟨_,List.getElem?_eq_getElem (by have:=HN.out;omega)⟩;obtain⟨cq,q1,q2,m⟩:=hc k q hq;obtain⟨ua,ug,rfl,D,a3⟩:=q2;obtain⟨qa,qc,rfl,_,_⟩:=D.form;obtain⟨ha',hc',rfl,_,_⟩:=a3.form;obtain⟨qn,a2⟩:∃qn,q.attrs.length=qn:=⟨_,rfl⟩;obtain⟨hn',a5⟩:∃I,q.guests.length=I:=⟨_,rfl⟩;rw[a2]at D m;rw[a5]at m
        have a0:l.take (k+1)=l.take k++[q]:=by rw[List.take_succ_eq_append_getElem (by have:=HN.out;omega),(List.getElem?_eq_some_iff.1 hq).2]
        have y0:wr.cell? ⟨b,f+k*4,none⟩=some (.string ⟨q.name.toArray⟩):=Kept.cellOf (m 0 _ (by decide) rfl) _ j.out;have y1:wr.cell? ⟨b,f+k*4+1,none⟩=some (.int .i64 q.pub):=Kept.cellOf (m 1 _ (by decide) rfl) _ j.out;have y2:wr.cell? ⟨b,f+k*4+2,none⟩=some (.slice qa qn qc):=Kept.cellOf (m 2 _ (by decide) rfl) _ j.out;have y3:wr.cell? ⟨b,f+k*4+3,none⟩=some (.slice ha' hn' hc'):=Kept.cellOf (m 3 _ (by decide) rfl) _ j.out;obtain⟨z,A⟩:∃x,wr.alloc (.cells #[.string ⟨q.name.toArray⟩,.int .i64 q.pub,.slice qa qn qc,.slice ha' hn' hc'] 36)=x:=⟨_,rfl⟩;have kB:Kept [] wr z:=A▸(Kept.refl _ _).alloc _;have G:Blk z wr.heap.size 36 #[.string ⟨q.name.toArray⟩,.int .i64 q.pub,.slice qa qn qc,.slice ha' hn' hc']:=A▸Blk.new _ _ _;have F:=ag.out.kept (E.trans kB) (by simp);have z0:z.cell? ⟨wr.heap.size,0,none⟩=some (.string ⟨q.name.toArray⟩):=G.cell 0;have z1:z.cell? ⟨wr.heap.size,1,none⟩=some (.int .i64 q.pub):=G.cell 1;have z2:z.cell? ⟨wr.heap.size,2,none⟩=some (.slice qa qn qc):=G.cell 2;have u0:z.cell? ⟨g,0,none⟩=some (.string ⟨p.name.toArray⟩):=F.cell 0;have u1:z.cell? ⟨g,1,none⟩=some (.int .i64 p.pub):=F.cell 1;have u2:z.cell? ⟨g,2,none⟩=some (.slice Y y X):=F.cell 2;have J:=hid (kK (D.kept (j.out.trans kB)) ((by have:=ap.out;exact this.kept (j.out.trans kB):Row z 1 (.slice Y y X) y (strs p.attrs))));have a7:=hid A;have ab:=hid (j.out.trans kB);have N:=hid (E.trans kB);have a9:=hid a0
        have aq:Hid (q∈l.take i):=hid (List.mem_of_getElem? (show(l.take i)[k]?=some q by rw[List.getElem?_take_of_lt hlk];exact hq));clear hc q1 m a3 A kB G F D a0 a2 a5 E hq;go_upto_region 11 with(fail);have hwB':=a7.out;rw[hwB'];clear hwB' y0 y1 y2 y3 a7
        have O:Hid (gO p q=true->R=false):=hid fun hb=>G1.out i hlt (by
         unfold badK
         rw[HP.out];simp only[Bool.or_eq_true,List.any_eq_true]
         exact Or.inr ⟨q,aq.out,hb⟩)
        by_cases n1:q.name=p.name
        ·by_cases n2:q.pub=p.pub
         ·go_wp2_with fail;go_ret;exact⟨by rw[O.out (by unfold gO;simp[n1,n2])];rfl,ab.out⟩
         ·by_cases n3:q.attrs=p.attrs
          ·have o:=J.out;rw[decide_eq_true n3]at o;have t:=hid o;clear o J;go_wp2_with (go_at_call 83;refine t.out.mono ?_;rintro e w6 ⟨rfl,k6⟩)
           go_roundw
           case rel=>exact⟨k+1,by omega,by go_num,N.out.trans k6,by rw[a9.out,List.any_append,u.out];simp[gO,n1,n2,n3]⟩
           case measure=>simp[intOf];omega
          ·have o:=J.out;rw[decide_eq_false n3]at o;have t:=hid o;clear o J;go_wp2_with (go_at_call 83;refine t.out.mono ?_;rintro e w6 ⟨rfl,k6⟩);go_ret;exact⟨by rw[O.out (by unfold gO;simp[n1,n3])];rfl,ab.out.trans k6⟩
        ·go_wp2_with fail
         go_roundw
         case rel=>exact⟨k+1,by omega,by go_num,N.out,by rw[a9.out,List.any_append,u.out];simp[gO,n1]⟩
         case measure=>simp[intOf];omega
       ·obtain rfl:k=i:=by omega
        go_wp2_with fail
        go_roundw
        case rel =>
         refine⟨k+1,by omega,by go_num,j.out,fun k' hk'=>?_⟩
         by_cases e:k'=k
         ·subst e;unfold badK;rw[HP.out];simp only[Z.out,u.out];rfl
         ·exact P.out k' (by omega)
        case measure=>simp[intOf];omega
    ·obtain rfl:i=n:=by omega
     go_wp2_with fail;go_ret;exact⟨by rw[G2.out b0.out h16 (fun k hk=>P.out k hk)];rfl,au.out⟩
  ·have h16':(16:Int) < (n:Int):=by omega
   have T:((n:Int)==0)=false:=by simpa using h0
   go_enter func38,ntmps38
   go_wp2_with fail;go_ret;exact⟨by rw[G4.out h16];rfl,Kept.refl _ _⟩
theorem eL{α:Type}{q:α->Bool}{l:List α}{j:Nat}{a:α}(hb:∀x∈l.take j,q x=false)(hj:l[j]?=some a)(ha:q a=true):l.findIdx? q=some j:=by
 rw[List.findIdx?_eq_some_iff_getElem];obtain⟨h1,h2⟩:=List.getElem?_eq_some_iff.1 hj;refine⟨h1,by rw[h2];exact ha,fun i hi=>?_⟩;have:=hb (l[i]) (List.mem_take_iff_getElem.2 ⟨i,by omega,rfl⟩)
 simp[this]
theorem eM{α:Type}{q:α->Bool}{l:List α}(hb:∀x∈l,q x=false):l.findIdx? q=none:=by
 rw[List.findIdx?_eq_none_iff];exact hb
theorem jy{α:Type}(q:α->Bool)(l:List α):l.any q=match l.findIdx? q with|some _=>true|none=>false:=by
 cases h:l.findIdx? q with
 |none =>
  rw[List.findIdx?_eq_none_iff]at h
  simpa using h
 |some i =>
  obtain⟨h1,h2,_⟩:=List.findIdx?_eq_some_iff_getElem.1 h;simp only[List.any_eq_true];exact⟨l[i],List.getElem_mem h1,h2⟩
def idxV(o:Option Nat):Int:=match o with|some i=>(i:Int)|none=>-1
theorem qD{w:World}{v:Value}{l:List Pd}(q:Pd->Bool)(h:aj PdR 5 w v l)
  (hq:∀a∈l,∀cs w',Kept [] w w'->PdR w' cs a->Calls prog 124 #[.agg cs.toArray] w' fun e w2=>e=.returned (.bool (q a))/\Kept [] w' w2) :
  Calls prog 95 #[v,.func (.func 124) #[] #[]] w fun e w'=>e=.returned (.int .i64 (idxV (l.findIdx? q)))/\Kept [] w w':=by
 obtain⟨sa,sc,rfl,Q,_⟩:=h.form;have U:=hid hq;have y:=hid h;clear hq h
 go_enter func95,ntmps95
 go_wp2_with fail
 go_loopw [8] (fun v wr=>∃j:Nat,j<=l.length/\v=.int .i64 j/\Kept [] w wr/\∀a∈l.take j,q a=false) (fun v _=>l.length - (intOf v).toNat)
 case atStart=>exact⟨0,Nat.zero_le _,rfl,Kept.refl _ _,by simp⟩
 case round =>
  obtain⟨j,hj,rfl,f,m⟩:=hrel;have p:=hid f;have g:=hid m;clear m
  by_cases hlt:j < l.length
  ·have hlt':(j:Int) < (l.length:Int):=by omega
   have t:=y.out.kept (fun c a hR=>PdR.kept f hR) f;obtain⟨b,d,rfl,I⟩:=t.at_ (by omega);obtain⟨a,i⟩:∃a,l[j]?=some a:=⟨_,List.getElem?_eq_getElem hlt⟩;obtain⟨T,R,G,s⟩:=I j a i;have o:=U.out a (List.mem_of_getElem? i) T wr f G;obtain⟨r,F⟩:∃r,q a=r:=⟨_,rfl⟩;rw[F]at o;have B:=hid i;have u:=hid F;clear I t i F f;obtain⟨N,M,L,O,C⟩:=a;obtain⟨P,D,rfl,_⟩:=G.rows;have y0:wr.cell? ⟨b,d+j*5,none⟩=some (.int .i64 N):=s 0 _ (by decide) rfl;have Z:wr.cell? ⟨b,d+j*5+1,none⟩=some (.string ⟨M.toArray⟩):=s 1 _ (by decide) rfl;have Y:wr.cell? ⟨b,d+j*5+2,none⟩=some (.string ⟨L.toArray⟩):=s 2 _ (by decide) rfl;have X:wr.cell? ⟨b,d+j*5+3,none⟩=some (.int .i64 O):=s 3 _ (by decide) rfl;have V:wr.cell? ⟨b,d+j*5+4,none⟩=some (.slice P C.length D):=s 4 _ (by decide) rfl;have A:=hid o;clear R G s o
   cases r
   ·go_wp2_with (go_at_call 124;refine A.out.mono ?_;rintro e J ⟨rfl,E⟩)
    go_roundw
    case rel =>
     refine⟨j+1,by omega,by go_num,p.out.trans E,fun x n=>?_⟩;rw[List.take_add_one,B.out]at n
     rcases List.mem_append.1 n with n|n
     ·exact g.out x n
     ·simp at n;rw[n];exact u.out
    case measure=>simp[intOf];omega
   ·go_wp2_with (go_at_call 124;refine A.out.mono ?_;rintro e J ⟨rfl,E⟩);go_ret;exact⟨by rw[eL g.out B.out u.out];rfl,p.out.trans E⟩
  ·obtain rfl:j=l.length:=by omega
   have k:=eM (q:=q) (l:=l) (by rw[<-List.take_length (l:=l)];exact g.out);have z:=hid k;clear k;go_wp2_with fail;go_ret;exact⟨by rw[z.out];rfl,p.out⟩
theorem oI{w:World}{v:Value}{l:List Pd}(q:Pd->Bool)(h:aj PdR 5 w v l)
  (hq:∀a∈l,∀cs w',Kept [] w w'->PdR w' cs a->Calls prog 124 #[.agg cs.toArray] w' fun e w2=>e=.returned (.bool (q a))/\Kept [] w' w2) :
  Calls prog 52 #[v,.func (.func 124) #[] #[]] w fun e w'=>e=.returned (.bool (l.any q))/\Kept [] w w':=by
 have c:=hid (qD q h hq);rw[jy];obtain⟨g,f,rfl,k,_⟩:=h.form;clear h hq
 cases ho:l.findIdx? q with
 |none =>
  rw[ho]at c;have b:Hid (Calls prog 95 #[.slice g l.length f,.func (.func 124) #[] #[]] w fun e w'=>e=.returned (.int .i64 (-1))/\Kept [] w w'):=c;clear c ho
  go_enter func52,ntmps52
  go_wp2_with (go_at_call 95;refine b.out.mono ?_;rintro e j ⟨rfl,d⟩);go_ret;exact⟨rfl,d⟩
 |some i =>
  rw[ho]at c;have b:Hid (Calls prog 95 #[.slice g l.length f,.func (.func 124) #[] #[]] w fun e w'=>e=.returned (.int .i64 (i:Int))/\Kept [] w w'):=c
  have m:(0:Int)<=(i:Int):=by omega
  clear c ho
  go_enter func52,ntmps52
  go_wp2_with (go_at_call 95;refine b.out.mono ?_;rintro e j ⟨rfl,d⟩);go_ret;exact⟨rfl,d⟩
mutual
/-- whether there is room, and what room is left -/
def szB:Pd->Int->Int->Bool × Int
 | .node _ _ _ _ ks,room,lv=>if room - 1 < 0\/lv < 1 then(false,room - 1)else szL ks (room - 1) (lv - 1)
def szL:List Pd->Int->Int->Bool × Int
 | [],r,_=>(true,r)
 |p::l,r,lv=>if(szB p r lv).1 then szL l (szB p r lv).2 lv else(false,(szB p r lv).2)
end
mutual
theorem jE:∀(p:Pd) (r lv:Int),((szB p r lv).1=true↔(sizeB p:Int)<=r/\(deepB p:Int)<=lv)/\((szB p r lv).1=true->(szB p r lv).2=r - sizeB p)/\(szB p r lv).2 < r
 | .node k l rr c ks,r,lv=>by
  rw[szB,sizeB,deepB];have h:=nF ks (r - 1) (lv - 1)
  split
  ·next hc =>
   refine⟨⟨fun h=>(by cases h),fun h=>?_⟩,fun h=>(by cases h),by simp only;omega⟩;omega
  ·next hc =>
   obtain⟨h1,h2,h3⟩:=h;refine⟨?_,fun ht=>?_,by omega⟩
   ·rw[h1];constructor <;> intro hh <;> omega
   ·rw[h2 ht];omega
theorem nF:∀(l:List Pd) (r lv:Int),((szL l r lv).1=true↔(sizeL l=0\/(sizeL l:Int)<=r)/\(deepL l=0\/(deepL l:Int)<=lv))/\((szL l r lv).1=true->(szL l r lv).2=r - sizeL l)/\(szL l r lv).2<=r
 | [],r,lv=>by rw[szL,sizeL,deepL];simp
 |p::l,r,lv=>by
  rw[szL,sizeL,deepL];obtain⟨h1,h2,h3⟩:=jE p r lv;obtain⟨g1,g2,g3⟩:=nF l (szB p r lv).2 lv
  have hp:1<=sizeB p:=by cases p;rw[sizeB];omega
  have b:1<=deepB p:=by cases p;rw[deepB];omega
  split
  ·next hc =>
   have c:=h2 hc;have d:=h1.1 hc;refine⟨?_,fun ht=>?_,by omega⟩
   ·rw[g1];constructor <;> intro a <;> omega
   ·rw[g2 ht];omega
  ·next hc =>
   refine⟨⟨fun h=>(by cases h),fun a=>absurd (h1.2 ?_) hc⟩,fun h=>(by cases h),by simp only;omega⟩;omega
end
theorem tX(p:Pd):(szB p 100 12).1=dG p:=by
 rw[Bool.eq_iff_iff,(jE p 100 12).1]
 unfold dG
 simp only[Bool.and_eq_true,decide_eq_true_eq];omega
theorem fV{w2:World}{tmps:Array Value}{b:Bool}{R:Ending->World->Prop}(h2:tmps[6]?.getD undef=.bool b)(hR:R (.returned (.bool b)) w2) :
  bodyPost prog Tryz.f119 R Exit.ret { tmps:=tmps,defers:=[] } w2:=by
 refine bodyPost_ret (v:=.bool b) ?_ rfl hR;simp only[results,results119]
 simp[go_sem,h2]
theorem rU{W1:World}{rp:Nat}(hlo:W1.heap.size<=rp):∀(m:Nat) (p:Pd) (cs:List Value) (w:World) (room lv:Int),sizeB p<=m->PdR W1 cs p->Kept [] W1 w->Blk w rp 3 #[.int .i64 room]->0<=room->room<=1000000->0<=lv->lv<=12 ->
  Calls prog 119 #[.agg cs.toArray,.pointer (some ⟨rp,0,none⟩),.int .i64 lv] w fun e w'=>e=.returned (.bool (szB p room lv).1)/\Kept [rp] w w'/\Blk w' rp 3 #[.int .i64 (szB p room lv).2]:=by
 intro m
 induction m with
 |zero=>intro p cs w room lv hm;cases p;rw[sizeB]at hm;omega
 |succ m ih =>
  rintro⟨G,l,r,P,a⟩ cs w room lv hm hp hk hb a9 a8 ab aa;obtain⟨J,I,rfl,h⟩:=hp.rows;rw[sizeB]at hm;obtain⟨_,_,a1,ac,_⟩:=h.form;obtain⟨W,Y⟩:∃W,w.alloc (.cells #[.int .i64 G,.string ⟨l.toArray⟩,.string ⟨r.toArray⟩,.int .i64 P,.slice J a.length I] 46)=W:=⟨_,rfl⟩;have s:Kept [] w W:=Y▸(Kept.refl _ _).alloc _;have O:Blk W w.heap.size 46 #[.int .i64 G,.string ⟨l.toArray⟩,.string ⟨r.toArray⟩,.int .i64 P,.slice J a.length I]:=Y▸Blk.new _ _ _;have t:=hb.kept s (by simp);have n:=hb.lt;have r0:W.cell? ⟨rp,0,none⟩=some (.int .i64 room):=t.cell 0;have f0:=t.frozen 0;obtain⟨V,E⟩:∃V,W.setCell ⟨rp,0,none⟩ (.int .i64 (room - 1))=V:=⟨_,rfl⟩;have kV:Kept [rp] w V:=E▸(s.mono (by simp)).setCell (Or.inl (by simp)) _;have L:Kept [] W1 V:=E▸(hk.trans s).setCell (Or.inr hlo) _;have bV:Blk V rp 3 #[.int .i64 (room - 1)]:=E▸t.set_ 0 _;have Q:Blk V w.heap.size 46 #[.int .i64 G,.string ⟨l.toArray⟩,.string ⟨r.toArray⟩,.int .i64 P,.slice J a.length I]:=E▸O.far (by simp only;omega) _;have s0:V.cell? ⟨rp,0,none⟩=some (.int .i64 (room - 1)):=bV.cell 0;have s4:V.cell? ⟨w.heap.size,4,none⟩=some (.slice J a.length I):=Q.cell 4;have HV:=hid E;have KV:=hid kV;have a2:=hid L;have BV:=hid bV;have HW:=hid Y;have T:=hid h;obtain⟨o,c⟩:∃o,szB (.node G l r P a) room lv=o:=⟨_,rfl⟩;have z:=c;rw[szB]at z;rw[c];have HO:=hid z;clear Y s O t hb hk hp h a1 c E kV L bV Q z
  show Calls _ _ #[.agg #[.int .i64 G,.string ⟨l.toArray⟩,.string ⟨r.toArray⟩,.int .i64 P,.slice J a.length I],.pointer (some ⟨rp,0,none⟩),.int .i64 lv] _ _
  go_enter func119,ntmps119
  go_upto_region 1 with(fail);have hW':=HW.out;rw[hW'];clear hW';go_upto_region 2 with(fail);have hV':=HV.out;rw[hV'];clear hV' r0 f0
  by_cases hc1:room - 1 < 0
  ·have c:=HO.out;rw[if_pos (Or.inl hc1)]at c;subst c;go_wp2_with fail;refine fV (b:=false) rfl ⟨rfl,KV.out,BV.out⟩
  ·by_cases hc2:lv < 1
   ·have c:=HO.out;rw[if_pos (Or.inr hc2)]at c;subst c;go_wp2_with fail;refine fV (b:=false) rfl ⟨rfl,KV.out,BV.out⟩
   ·have c:=HO.out;rw[if_neg (by omega)]at c;have a5:=hid c;clear c;go_wp2_with fail
    go_loopw [25] (fun v wr=>∃(j:Nat) (i:Int),j<=a.length/\v=.int .i64 j/\Kept [rp] V wr/\Blk wr rp 3 #[.int .i64 i]/\szL (a.drop j) i (lv - 1)=o/\0<=i/\i<=1000000) (fun v _=>a.length - (intOf v).toNat)
    case atStart=>exact⟨0,room - 1,Nat.zero_le _,rfl,Kept.refl _ _,BV.out,a5.out,by omega,by omega⟩
    case round =>
     obtain⟨j,i,hj,rfl,A,B,g,af,ad⟩:=hrel;have a6:=hid A
     by_cases n:j < a.length
     ·have hlt':(j:Int) < (a.length:Int):=by omega
      have D:Kept [] W1 wr:=a2.out.fresh A (by simp;exact hlo);obtain⟨b,f,rfl,hc⟩:=T.out.at_ (by omega);obtain⟨cq,h1,Z,F⟩:=hc j a[j] (List.getElem?_eq_getElem n);obtain⟨q,X⟩:∃q,a[j]=q:=⟨_,rfl⟩;rw[X]at Z;rw[List.drop_eq_getElem_cons n,X]at g;rw[szL]at g
      have a0:sizeB q<=m:=by have:=bh (X▸List.getElem_mem n:q∈a);omega
      have M:=jE q i (lv - 1);obtain⟨kd',l',r',cc',ks'⟩:=q;obtain⟨ka',kc',rfl,_⟩:=Z.rows;have y0:wr.cell? ⟨b,f+j*5,none⟩=some (.int .i64 kd'):=Kept.cellOf (F 0 _ (by decide) rfl) wr D;have y1:wr.cell? ⟨b,f+j*5+1,none⟩=some (.string ⟨l'.toArray⟩):=Kept.cellOf (F 1 _ (by decide) rfl) wr D;have y2:wr.cell? ⟨b,f+j*5+2,none⟩=some (.string ⟨r'.toArray⟩):=Kept.cellOf (F 2 _ (by decide) rfl) wr D;have y3:wr.cell? ⟨b,f+j*5+3,none⟩=some (.int .i64 cc'):=Kept.cellOf (F 3 _ (by decide) rfl) wr D;have y4:wr.cell? ⟨b,f+j*5+4,none⟩=some (.slice ka' ks'.length kc'):=Kept.cellOf (F 4 _ (by decide) rfl) wr D;obtain⟨u,k⟩:∃x,wr.alloc (.cells #[(.int .i64 kd'),(.string ⟨l'.toArray⟩),(.string ⟨r'.toArray⟩),(.int .i64 cc'),(.slice ka' ks'.length kc')] 46)=x:=⟨_,rfl⟩;have U:Kept [] wr u:=k▸(Kept.refl _ _).alloc _;have d:Blk u wr.heap.size 46 #[(.int .i64 kd'),(.string ⟨l'.toArray⟩),(.string ⟨r'.toArray⟩),(.int .i64 cc'),(.slice ka' ks'.length kc')]:=k▸Blk.new _ _ _;have IH:=hid (ih (.node kd' l' r' cc' ks') _ u i (lv - 1) a0 Z (D.trans U) (B.kept U (by simp)) (by omega) (by omega) (by omega) (by omega));have a3:=hid k;have KA:=hid (A.fresh U (by simp));have x0:u.cell? ⟨wr.heap.size,0,none⟩=some (.int .i64 kd'):=d.cell 0;have x1:u.cell? ⟨wr.heap.size,1,none⟩=some (.string ⟨l'.toArray⟩):=d.cell 1;have x2:u.cell? ⟨wr.heap.size,2,none⟩=some (.string ⟨r'.toArray⟩):=d.cell 2;have x3:u.cell? ⟨wr.heap.size,3,none⟩=some (.int .i64 cc'):=d.cell 3
      have x4:u.cell? ⟨wr.heap.size,4,none⟩=some (.slice ka' ks'.length kc'):=d.cell 4;have R:=hid g;have C:=hid M;clear h1 Z F k U d hc X g M;go_upto_region 7 with(fail);have hwA':=a3.out;rw[hwA'];clear hwA' y0 y1 y2 y3 y4
      cases hrq:(szB (.node kd' l' r' cc' ks') i (lv - 1)).1
      ·have y:=R.out;rw[hrq]at y IH;simp only[Bool.false_eq_true,if_false]at y;subst y;go_wp2_with (go_at_call 119;refine IH.out.mono ?_;rintro e w6 ⟨rfl,k6,b6⟩);refine fV (b:=false) rfl ⟨rfl,KV.out.trans (KA.out.trans k6),b6⟩
      ·have y:=R.out;have hv:=C.out.2.1 hrq;rw[hrq]at y IH;simp only[if_true]at y;have HZ:=hid y;have a4:=hid hv;clear y hv;go_wp2_with (go_at_call 119;refine IH.out.mono ?_;rintro e w6 ⟨rfl,k6,b6⟩)
       go_roundw
       case rel=>exact⟨j+1,_,by omega,by go_num,KA.out.trans k6,b6,HZ.out,by rw[a4.out];have:=(C.out.1.1 hrq).1;omega,by have:=C.out.2.2;omega⟩
       case measure=>simp[intOf];omega
     ·obtain rfl:j=a.length:=by omega
      have N:o=(true,i):=by
       rw[<-g,List.drop_length,szL]
      subst N;have a7:=hid B;clear B;go_wp2_with fail;refine fV (b:=true) rfl ⟨rfl,KV.out.trans a6.out,a7.out⟩
theorem rT{w2:World}{tmps:Array Value}{b:Bool}{R:Ending->World->Prop}(h2:tmps[2]?.getD undef=.bool b)(hR:R (.returned (.bool b)) w2) :
  bodyPost prog Tryz.f73 R Exit.ret { tmps:=tmps,defers:=[] } w2:=by
 refine bodyPost_ret (v:=.bool b) ?_ rfl hR;simp only[results,results73]
 simp[go_sem,h2]
theorem lB{w:World}{p:Pd}{cs:List Value}(hp:PdR w cs p) :
  Calls prog 73 #[.agg cs.toArray] w fun e w'=>e=.returned (.bool (dG p))/\Kept [] w w':=by
 obtain⟨g,l,r,j,f⟩:=p;obtain⟨m,k,rfl,_⟩:=hp.rows;obtain⟨W,n⟩:∃W,w.alloc (.cells #[.int .i64 g,.string ⟨l.toArray⟩,.string ⟨r.toArray⟩,.int .i64 j,.slice m f.length k] 46)=W:=⟨_,rfl⟩;obtain⟨V,o⟩:∃V,W.alloc (.cells #[.int .i64 100] 3)=V:=⟨_,rfl⟩;have c:Kept [] w W:=n▸(Kept.refl _ _).alloc _;have d:Kept [] W V:=o▸(Kept.refl _ _).alloc _;have i:Blk W w.heap.size 46 #[.int .i64 g,.string ⟨l.toArray⟩,.string ⟨r.toArray⟩,.int .i64 j,.slice m f.length k]:=n▸Blk.new _ _ _;have a:=i.kept d (by simp);have h:Blk V W.heap.size 3 #[.int .i64 100]:=o▸Blk.new _ _ _;have E:V.cell? ⟨w.heap.size,0,none⟩=some (.int .i64 g):=a.cell 0;have D:V.cell? ⟨w.heap.size,1,none⟩=some (.string ⟨l.toArray⟩):=a.cell 1;have C:V.cell? ⟨w.heap.size,2,none⟩=some (.string ⟨r.toArray⟩):=a.cell 2;have B:V.cell? ⟨w.heap.size,3,none⟩=some (.int .i64 j):=a.cell 3;have A:V.cell? ⟨w.heap.size,4,none⟩=some (.slice m f.length k):=a.cell 4;have s:=hid (rU (W1:=W) (rp:=W.heap.size) (Nat.le_refl _) _ _ _ V 100 12 (Nat.le_refl _) (PdR.kept c hp) d h (by decide) (by decide) (by decide) (by decide));rw[tX]at s;have v:=hid n;have y:=hid o;have z:=hid (c.trans d);have u:=hid c.size;clear n o c d i a h hp
 show Calls _ _ #[.agg #[.int .i64 g,.string ⟨l.toArray⟩,.string ⟨r.toArray⟩,.int .i64 j,.slice m f.length k]] _ _
 go_enter func73,ntmps73
 go_upto_region 1 with(fail);have hW':=v.out;rw[hW'];clear hW';go_upto_region 2 with(fail);have hV':=y.out;rw[hV'];clear hV';go_wp2_with (go_at_call 119;refine s.out.mono ?_;rintro e F ⟨rfl,t,G⟩);refine rT (b:=dG ⟨g,l,r,j,f⟩) rfl ⟨rfl,z.out.fresh t ?_⟩;intro x q;rw[List.mem_singleton]at q;exact q▸u.out
end Go.Proofs.YtpcmamoomaddoaaGreatDoor
