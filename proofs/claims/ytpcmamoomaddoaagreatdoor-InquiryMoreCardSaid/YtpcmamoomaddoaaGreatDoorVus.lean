import Derived.Lib.IndexMore
import Derived.Test.YtpcmamoomaddoaaGreatDoorNms
set_option maxRecDepth 100000
set_option maxHeartbeats 32000000
namespace Go.Proofs.YtpcmamoomaddoaaGreatDoor
open Go.RowKit
open Lib(hid)
theorem lq{w:World}{v:Value}{l:List Int}{n:Nat}(h:Row w 1 v n (ints l))(x:Int) :
  Calls Tryz.prog 84 #[v,.int .i64 x] w fun e w'=>e=.returned (.bool (l.contains x))/\w'=w:=by
 have g:l.length=n:=by have:=h.1;simpa [ints]using this
 obtain⟨a,c,rfl,i,o⟩:=h.form
 rcases Nat.eq_zero_or_pos l.length with k|m
 ·have:=List.eq_nil_of_length_eq_zero k;subst this
  have:n=0:=by simpa using g.symm
  subst this;exact Tryz.slices_Contains_int_empty a c _ w
 ·obtain⟨b,f,rfl,d⟩:=h.at_ (by omega)
  have:=Tryz.slices_Contains_int b f n c l x w (by omega) i (fun j hj=>by
   rw[d j _ (bu (by omega:j < l.length))]
   simp[List.getD_eq_getElem?_getD,show j < l.length by omega])
  refine this.mono ?_;rintro e w' ⟨rfl,rfl⟩;refine⟨?_,rfl⟩
  congr 2
  rw[List.take_of_length_le (by omega)]
/-- the front of a row -/
theorem Row.front{w:World}{l:List Value}{n i:Nat}{a:Option Addr}{c:Nat}(h:Row w 1 (.slice a n c) n l)(hi:i<=n):Row w 1 (.slice a i c) i (l.take i):=by
 obtain⟨h1,h2,a',c',hv,hc,hcell⟩:=h;injection hv with e1 _ e3;subst e1;subst e3;refine⟨by rw[List.length_take];omega,by omega,a,c,rfl,by omega,fun hp=>?_⟩;obtain⟨b,off,ha,hc⟩:=hcell (by omega);exact⟨b,off,ha,fun k u hu=>hc k u (by rw[List.getElem?_take]at hu;split at hu;exact hu;cases hu)⟩
def jk(l:List Int)(i:Nat):Bool:=decide (l.getD i 0 < 1) ||(l.take i).contains (l.getD i 0)
def logB(l:List Int):Bool:=!(List.range l.length).any (jk l)&&decide (l.length<=16)
theorem oy{l:List Int}{i:Nat}(hi:i < l.length)(h:jk l i=true):logB l=false:=by
 unfold logB
 rw[show(List.range l.length).any (jk l)=true from List.any_eq_true.2 ⟨i,List.mem_range.2 hi,h⟩]
 rfl
theorem sP{l:List Int}(h:∀i,i < l.length->jk l i=false):logB l=decide (l.length<=16):=by
 unfold logB
 rw[show(List.range l.length).any (jk l)=false from List.any_eq_false.2 fun i hi=>by rw[h i (List.mem_range.1 hi)];simp]
 rfl
theorem mF{w:World}{v:Value}{l:List Int}(h:Row w 1 v l.length (ints l))(hl:l.length<=100000) :
  Calls Tryz.prog 39 #[v] w fun e w'=>e=.returned (.bool (logB l))/\w'=w:=by
 obtain⟨a,c,rfl,_,s⟩:=h.form;obtain⟨n,r⟩:∃n,l.length=n:=⟨_,rfl⟩;rw[r]at h s hl ⊢;have A:=hid h;have u:=hid r;clear h r
 go_enter Tryz.func39,Tryz.ntmps39
 go_wp2_with fail
 go_loopw [7] (fun v wr=>∃i:Nat,i<=n/\v=.int .i64 i/\wr=w/\∀k,k < i->jk l k=false) (fun v _=>n - (intOf v).toNat)
 case atStart=>exact⟨0,Nat.zero_le _,rfl,rfl,fun k hk=>absurd hk (by omega)⟩
 case round =>
  obtain⟨i,F,rfl,rfl,j⟩:=hrel;have m:=hid j;clear j
  by_cases hlt:i < n
  ·have hlt':(i:Int) < (n:Int):=by omega
   obtain⟨b,p,rfl,z⟩:=A.out.at_ (by omega)
   have f:i < l.length:=by have:=u.out;omega
   obtain⟨x,q⟩:∃x,l[i]=x:=⟨_,rfl⟩
   have E:wr.cell? ⟨b,p+i,none⟩=some (.int .i64 x):=by rw[z i _ (bu f),q]
   have o:l.getD i 0=x:=by simp[List.getD_eq_getElem?_getD,f,q]
   have y:=hid (lq (l:=l.take i) (by have:=A.out.front (i:=i) (by omega);rwa [show(ints l).take i=ints (l.take i)by simp[ints,List.map_take]]at this) x)
   have g:jk l i=(decide (x < 1) ||(l.take i).contains x):=by unfold jk;rw[o]
   have d:=hid g
   have C:i<=c:=by omega
   clear g z q o
   by_cases h1:x < 1
   ·go_wp2_with fail;go_ret;refine⟨?_,rfl⟩;rw[oy f (by rw[d.out];simp[h1])]
    rfl
   ·obtain⟨D,t⟩:∃b,(l.take i).contains x=b:=⟨_,rfl⟩;rw[t]at y d
    cases D
    ·go_wp2_with (go_at_call 84;refine y.out.mono ?_;rintro e B ⟨rfl,rfl⟩)
     go_roundw
     case rel =>
      refine⟨i+1,by omega,by go_num,by first|trivial|rfl,fun k hk=>?_⟩
      by_cases e:k=i
      ·subst e;rw[d.out];simp[h1]
      ·exact m.out k (by omega)
     case measure=>simp[intOf];omega
    ·go_wp2_with (go_at_call 84;refine y.out.mono ?_;rintro e B ⟨rfl,rfl⟩);go_ret;refine⟨?_,rfl⟩;rw[oy f (by rw[d.out];simp)]
     rfl
  ·obtain rfl:i=n:=by omega
   go_wp2_with fail;go_ret;refine⟨?_,rfl⟩;rw[sP (fun k hk=>m.out k (by have:=u.out;omega)),u.out]
   simp
   omega
open Go.Proofs.Tryz
theorem lW:∀s:Bs,Lib.index s [46]=if(s.takeWhile (fun c=>c.toNat != 46)).length < s.length then((s.takeWhile (fun c=>c.toNat != 46)).length:Int)else -1
 | []=>rfl
 |c::t=>by
  unfold Lib.index
  by_cases h:c=46
  ·subst h;rw[if_pos (by rfl)]
   rfl
  ·have hn:c.toNat≠46:=fun e=>h (UInt8.toNat_inj.1 e)
   have h1:List.isPrefixOf [46] (c::t)=false:=by simp[List.isPrefixOf];intro e;exact absurd e.symm h
   have b:(c.toNat != 46)=true:=by simpa using hn
   rw[if_neg (by rw[h1];simp),lW t,List.takeWhile_cons,b];simp only[if_true,List.length_cons]
   by_cases hl:(t.takeWhile (fun c=>c.toNat != 46)).length < t.length
   ·have a:(t.takeWhile (fun c=>c.toNat != 46)).length+1 < t.length+1:=by omega
    have:(((t.takeWhile (fun c=>c.toNat != 46)).length:Int)==-1)=false:=by rw[beq_eq_false_iff_ne];omega
    rw[if_pos hl,if_pos a,this]
    rfl
   ·have a:¬(t.takeWhile (fun c=>c.toNat != 46)).length+1 < t.length+1:=by omega
    rw[if_neg hl,if_neg a]
    rfl
theorem vU(s:Bs)(p:UInt8->Bool):s.take (s.takeWhile p).length=s.takeWhile p:=by
 induction s with
 |nil=>rfl
 |cons a t ih =>
  rw[List.takeWhile_cons]
  split
  ·rw[List.length_cons,List.take_succ_cons,ih]
  ·rfl
theorem wP(s:Bs):Lib.cut s [46]=match cutB s with|some (a,b)=>(a,b,true)|none=>(s,[],false):=by
 unfold Lib.cut cutB
 rw[lW]
 by_cases h:(s.takeWhile (fun c=>c.toNat != 46)).length < s.length
 ·rw[if_pos h,if_pos h,if_pos (by omega)]
  simp[vU]
 ·rw[if_neg h,if_neg h,if_neg (by decide)]
theorem xf{s a b:Bs}(h:cutB s=some (a,b)):a.length<=s.length/\b.length<=s.length:=by
 unfold cutB at h
 split at h
 ·injection h with h;injection h with h1 h2;subst h1;subst h2;rw[List.length_drop];omega
 ·cases h
theorem ew{B:Nat}(s:Bs)(w:World)(hs:s.length<=100000000)(hE:EnvB B w) :
  Calls prog 62 #[.string ⟨s.toArray⟩] w fun e w'=>e=.returned (.bool (aG s))/\Kept [] w w':=by
 obtain⟨m,l⟩:=hE.mlen;have d:=Tryz.strings_Cut ⟨s.toArray⟩ ⟨#[46]⟩ m w (by simp[ByteArray.size];omega) l;simp only[wP]at d;have c:∀(t:Bs) (w':World),t.length<=s.length->Kept [] w w'->Calls prog 108 #[.string ⟨t.toArray⟩] w' fun e f=>e=.returned (.bool (cn t))/\w'=f:=fun t w' ht k=>oH t w' (by omega) (hE.kept0 k);have h:=hid c;clear c hE l
 unfold aG
 cases hcut:cutB s with
 |none =>
  rw[hcut]at d;have g:=hid d;clear d hcut
  go_enter func62,ntmps62
  go_wp2_with (go_at_call 107;refine g.out.mono ?_;rintro e f ⟨rfl,n,rfl⟩);go_ret;exact⟨rfl,(Kept.refl _ _).drewN _⟩
 |some x =>
  obtain⟨a,b⟩:=x;obtain⟨j,o⟩:=xf hcut;rw[hcut]at d;have g:=hid d;clear d hcut
  show Calls _ _ _ _ fun e w'=>e=.returned (.bool (cn a&&cn b))/\Kept [] w w'
  cases ha:cn a
  ·go_enter func62,ntmps62
   go_wp2_with (first|(go_at_call 107;refine g.out.mono ?_;rintro e f ⟨rfl,n,rfl⟩)|(go_at_call 108;refine(h.out a _ j ((Kept.refl _ _).drewN _)).mono ?_;rw[ha];rintro e i ⟨rfl,rfl⟩));go_ret;exact⟨rfl,(Kept.refl _ _).drewN _⟩
  ·go_enter func62,ntmps62
   go_wp2_with (first|(go_at_call 107;refine g.out.mono ?_;rintro e f ⟨rfl,n,rfl⟩)|(go_at_call 108;with_reducible refine(h.out a _ j ((Kept.refl _ _).drewN _)).mono ?_;(rw[ha];rintro e i ⟨rfl,rfl⟩))|(go_at_call 108;refine(h.out b _ o ((Kept.refl _ _).drewN _)).mono ?_;rintro e i ⟨rfl,rfl⟩));go_ret;exact⟨by simp,(Kept.refl _ _).drewN _⟩
theorem sI{B:Nat}(s:Bs)(w:World)(hs:s.length<=100000000)(hE:EnvB B w) :
  Calls prog 161 #[.string ⟨s.toArray⟩] w fun e w'=>e=.returned (.bool (aR s))/\Kept [] w w':=by
 have HV:=hid (ew s w hs hE);clear hE
 unfold aR
 rcases s with _|⟨c,t⟩
 ·go_enter func161,ntmps161
  go_wp2_with fail;go_ret;exact⟨rfl,Kept.refl _ _⟩
 ·have hne:((c::t:Bs)==[])=false:=rfl;obtain⟨s,hse⟩:∃s,c::t=s:=⟨_,rfl⟩
  have hemp:s.isEmpty=false:=by rw[<-hse];rfl
  rw[hse]at HV hne ⊢;rw[hemp];clear hse hs;simp only[Bool.false_or]
  go_enter func161,ntmps161
  go_wp2_with (go_at_call 62;refine HV.out.mono ?_;rintro e w2 ⟨rfl,k2⟩);go_ret;exact⟨rfl,k2⟩
end Go.Proofs.YtpcmamoomaddoaaGreatDoor
namespace Go.Proofs.YtpcmamoomaddoaaGreatDoor
open Go.RowKit
open Lib(hid)
structure Pss where
 name:List UInt8
 pub:Int
 attrs:List (List UInt8)
 guests:List Int
/-- the name of an attribute -/
def nmA(p a:Bs):Bs:=p++[46]++a
def badA(p:Bs)(l:List Bs)(i:Nat):Bool:=!aG (nmA p (l.getD i [])) ||(l.take i).contains (l.getD i [])
def dW(p:Pss):Bool:=cE p.name&&decide (p.attrs.length < 6)&&!(List.range p.attrs.length).any (badA p.name p.attrs)
theorem lI{p:Pss}{i:Nat}(hi:i < p.attrs.length)(h:badA p.name p.attrs i=true):dW p=false:=by
 unfold dW
 rw[show(List.range p.attrs.length).any (badA p.name p.attrs)=true from List.any_eq_true.2 ⟨i,List.mem_range.2 hi,h⟩]
 simp
theorem pX{p:Pss}(h1:cE p.name=true)(h2:p.attrs.length < 6)(h:∀i,i < p.attrs.length->badA p.name p.attrs i=false):dW p=true:=by
 unfold dW
 rw[show(List.range p.attrs.length).any (badA p.name p.attrs)=false from List.any_eq_false.2 fun i hi=>by rw[h i (List.mem_range.1 hi)];simp,h1]
 simp[h2]
theorem gj{B:Nat}{w:World}{p:Pss}{va vg:Value}(h:Row w 1 va p.attrs.length (strs p.attrs))(hn:p.name.length<=10000000)(ha:∀a∈p.attrs,a.length<=10000000)(hE:EnvB B w) :
  Calls Tryz.prog 28 #[.agg #[.string ⟨p.name.toArray⟩,.int .i64 p.pub,va,vg]] w fun e w'=>e=.returned (.bool (dW p))/\Kept [] w w':=by
 obtain⟨W,hW⟩:∃W,w.alloc (.cells #[.string ⟨p.name.toArray⟩,.int .i64 p.pub,va,vg] 36)=W:=⟨_,rfl⟩;have O:Kept [] w W:=hW▸(Kept.refl _ _).alloc _;have D:Blk W w.heap.size 36 #[.string ⟨p.name.toArray⟩,.int .i64 p.pub,va,vg]:=hW▸Blk.new _ _ _;obtain⟨d,f⟩:∃d,p.name=d:=⟨_,rfl⟩;obtain⟨R,N⟩:∃R,dW p=R:=⟨_,rfl⟩;obtain⟨pu,u⟩:∃pu,p.pub=pu:=⟨_,rfl⟩;obtain⟨l,s⟩:∃l,p.attrs=l:=⟨_,rfl⟩;obtain⟨a,c,rfl,_,Q⟩:=h.form
 have M:∀i,i < l.length->badA d l i=true->R=false:=fun i hi hb=>by rw[<-N];exact lI (s▸hi) (by rw[f,s];exact hb)
 have L:cE d=true->l.length < 6->(∀i,i < l.length->badA d l i=false)->R=true:=fun h1 h2 h3=>by rw[<-N];exact pX (by rw[f];exact h1) (by rw[s];exact h2) (by rw[f,s];exact h3)
 have X:cE d=false->R=false:=fun h1=>by rw[<-N];unfold dW;rw[f,h1];rfl
 have J:¬l.length < 6->R=false:=fun h1=>by rw[<-N];unfold dW;rw[s];simp[h1]
 rw[f]at D hn;rw[s]at ha h Q;rw[u]at D;rw[N,f,u,s];rw[s]at D;obtain⟨n,y⟩:∃n,l.length=n:=⟨_,rfl⟩;rw[y]at h Q D M L J ⊢;have c0:W.cell? ⟨w.heap.size,0,none⟩=some (.string ⟨d.toArray⟩):=D.cell 0;have c2:W.cell? ⟨w.heap.size,2,none⟩=some (.slice a n c):=D.cell 2;have HN:=hid (ke d W (by omega));have HA:=hid ha;have H:=hid h;have HB:=hid D;have I:=hid O;have HW:=hid hW;have HE:=hid hE;have a2:=hid y;have U:=hid hn;rw[f,u,s,y]at HW;have G1:=hid M;have G2:=hid L;have G3:=hid X;have G4:=hid J;clear hW O D f N u s h y hn ha hE M L X J
 go_enter Tryz.func28,Tryz.ntmps28
 go_upto_region 1 with(fail);have hW':=HW.out;rw[hW'];clear hW' HW;obtain⟨b1,j⟩:∃b,cE d=b:=⟨_,rfl⟩;rw[j]at HN;have V:=hid j;clear j
 cases b1
 ·go_wp2_with (go_at_call 61;refine HN.out.mono ?_;rintro e F ⟨rfl,rfl⟩);go_ret;exact⟨by rw[G3.out V.out];rfl,I.out⟩
 ·by_cases h6:n < 6
  ·have h6':(n:Int) < 6:=by omega
   go_wp2_with (go_at_call 61;refine HN.out.mono ?_;rintro e F ⟨rfl,rfl⟩);clear c0 c2
   go_loopw [18] (fun v wr=>∃i:Nat,i<=n/\v=.int .i64 i/\Kept [] W wr/\∀k,k < i->badA d l k=false) (fun v _=>n - (intOf v).toNat)
   case atStart=>exact⟨0,Nat.zero_le _,rfl,Kept.refl _ _,fun k hk=>absurd hk (by omega)⟩
   case round =>
    obtain⟨i,hi,rfl,q,C⟩:=hrel;have E:=hid C;have A:=hid q;clear C
    by_cases hlt:i < n
    ·have hlt':(i:Int) < (n:Int):=by omega
     have o:=H.out.kept (I.out.trans q);obtain⟨b,m,rfl,hc⟩:=o.at_ (by omega)
     have G:i < l.length:=by have:=a2.out;omega
     obtain⟨x,Y⟩:∃x,l[i]=x:=⟨_,rfl⟩;have a5:x.length<=10000000:=HA.out x (Y▸List.getElem_mem G)
     have y0:wr.cell? ⟨b,m+i,none⟩=some (.string ⟨x.toArray⟩):=by rw[hc i _ (eD G),Y]
     have P:l.getD i []=x:=by simp[List.getD_eq_getElem?_getD,G,Y]
     have z:=HB.out.kept q (by simp);have d0:wr.cell? ⟨w.heap.size,0,none⟩=some (.string ⟨d.toArray⟩):=z.cell 0;have d2:wr.cell? ⟨w.heap.size,2,none⟩=some (.slice (some ⟨b,m,none⟩) n c):=z.cell 2;have a7:=hid z
     have HC:=hid (fun(w':World) (k:Kept [] wr w')=>gy (l:=l.take i) (v:=.slice (some ⟨b,m,none⟩) i c) (by
      have:=(o.kept k).front (i:=i) (by omega);rw[show(strs l).take i=strs (l.take i)by simp[strs,List.map_take]]at this
      rwa [show(l.take i).length=i by rw[List.length_take];omega]) x)
     have Z:=ew (nmA d x) wr (by unfold nmA;simp only[List.length_append,List.length_cons,List.length_nil];have:=U.out;omega) (HE.out.kept0 (I.out.trans q))
     have g:badA d l i=(!aG (nmA d x) ||(l.take i).contains x):=by unfold badA;rw[P]
     obtain⟨b1,j⟩:∃b,aG (nmA d x)=b:=⟨_,rfl⟩;obtain⟨b2,T⟩:∃b,(l.take i).contains x=b:=⟨_,rfl⟩;rw[j]at Z g;rw[T]at HC g
     have e1:(⟨(nmA d x).toArray⟩:ByteArray)=⟨d.toArray⟩++⟨#[46]⟩++⟨x.toArray⟩:=by
      rw[show(⟨#[46]⟩:ByteArray)=⟨([46]:List UInt8).toArray⟩from rfl,bcat,bcat]
      rfl
     rw[e1]at Z;have HV:=hid Z;have r:=hid g
     have a6:i<=c:=by omega
     clear g hc Y P Z e1 j T z o q;have hn':=U.out
     have a1:(⟨d.toArray⟩:ByteArray).size=d.length:=by simp[ByteArray.size]
     have a0:(⟨#[46]⟩:ByteArray).size=1:=rfl
     have a4:(⟨x.toArray⟩:ByteArray).size=x.length:=by simp[ByteArray.size]
     have a3:((⟨d.toArray⟩:ByteArray)++(⟨#[46]⟩:ByteArray)).size=d.length+1:=by rw[ByteArray.size_append,a1,a0]
     cases b1
     ·go_wp2_with (go_at_call 62;refine HV.out.mono ?_;rintro e F ⟨rfl,t⟩);go_ret;exact⟨by rw[G1.out i hlt (by rw[r.out];rfl)];rfl,(I.out.trans A.out).trans t⟩
     ·cases b2
      ·go_wp2_with (first
        |(go_at_call 62;refine HV.out.mono ?_;rintro e F ⟨rfl,t⟩;have z2:F.cell? ⟨w.heap.size,2,none⟩=some (.slice (some ⟨b,m,none⟩) n c):=Kept.cellOf d2 _ t)
        |(go_at_call 63;refine(HC.out _ t).mono ?_;rintro e w6 ⟨rfl,rfl⟩))
       go_roundw
       case rel =>
        refine⟨i+1,by omega,by go_num,A.out.trans t,fun k hk=>?_⟩
        by_cases e:k=i
        ·subst e;rw[r.out];rfl
        ·exact E.out k (by omega)
       case measure=>simp[intOf];omega
      ·go_wp2_with (first
        |(go_at_call 62;refine HV.out.mono ?_;rintro e F ⟨rfl,t⟩;have z2:F.cell? ⟨w.heap.size,2,none⟩=some (.slice (some ⟨b,m,none⟩) n c):=Kept.cellOf d2 _ t)
        |(go_at_call 63;refine(HC.out _ t).mono ?_;rintro e w6 ⟨rfl,rfl⟩))
       go_ret;exact⟨by rw[G1.out i hlt (by rw[r.out];rfl)];rfl,(I.out.trans A.out).trans t⟩
    ·obtain rfl:i=n:=by omega
     go_wp2_with fail;go_ret;exact⟨by rw[G2.out V.out h6 (fun k hk=>E.out k hk)];rfl,I.out.trans A.out⟩
  ·have h6':¬(n:Int) < 6:=by omega
   go_wp2_with (go_at_call 61;refine HN.out.mono ?_;rintro e F ⟨rfl,rfl⟩);go_ret;exact⟨by rw[G4.out h6];rfl,I.out⟩
open Go.Proofs.Tryz Go.Shelf Go.Sort
theorem oF:(prog.info? 82).map (fun i=>(i.zero,i.size,i.bytes))=some (some (.agg #[.string ⟨#[]⟩,.int .i64 0]),2,24):=by kernel_rfl
abbrev Bnd:=Bs × Int
def cZ(l:List Bnd):List Value:=l.flatMap fun b=>[.string ⟨b.1.toArray⟩,.int .i64 b.2]
theorem kR(l:List Bnd)(b:Bnd):cZ (l++[b])=cZ l++[.string ⟨b.1.toArray⟩,.int .i64 b.2]:=by simp[cZ]
def dR(p:Pss)(at_:List Int)(j:Nat):List Bnd:=(List.range j).map fun i=>(nmA p.name (p.attrs.getD i []),at_.getD (i+1) 0)
def badV(at_:List Int)(i:Nat):Bool:=decide (at_.getD (i+1) 0 < 0) ||decide (65535 < at_.getD (i+1) 0)
def dv(p:Pss)(at_:List Int):Except Int (List Bnd) :=
 if dW p=false\/at_.length<=p.attrs.length then .error 1 else if(List.range p.attrs.length).any (badV at_)then .error 3 else .ok (dR p at_ p.attrs.length)
theorem gE(p:Pss)(at_:List Int)(j:Nat):(dR p at_ j).length=j:=by simp[dR]
theorem nC(p:Pss)(at_:List Int)(j:Nat):dR p at_ (j+1)=dR p at_ j++[(nmA p.name (p.attrs.getD j []),at_.getD (j+1) 0)]:=by simp[dR,List.range_succ]
theorem jQ{p:Pss}(h:dW p=true):p.attrs.length < 6:=by
 unfold dW at h
 simp only[Bool.and_eq_true,decide_eq_true_eq]at h;exact h.1.2
def ValsE(w:World)(e:Ending)(w':World):Except Int (List Bnd)->Prop
 | .error c=>e=.returned (.tuple #[.slice none 0 0,.int .i64 c])
 | .ok l=>∃v,e=.returned (.tuple #[v,.int .i64 0])/\w'.ownsRow w.heap.size 82 2 v l.length (cZ l)
theorem fm{w2:World}{tmps:Array Value}{u v:Value}{R:Ending->World->Prop}(h4:tmps[4]?.getD undef=u)(h5:tmps[5]?.getD undef=v)(hR:R (.returned (.tuple #[u,v])) w2) :
  bodyPost prog Tryz.f11 R Exit.ret { tmps:=tmps,defers:=[] } w2:=by
 subst h4;subst h5;refine bodyPost_ret (v:=.tuple #[tmps[4]?.getD undef,tmps[5]?.getD undef]) ?_ rfl hR;simp only[results,results11]
 simp[go_sem]
theorem gD{B:Nat}{w:World}{p:Pss}{va vg vt:Value}{at_:List Int}(h:Row w 1 va p.attrs.length (strs p.attrs))(ht:Row w 1 vt at_.length (ints at_))(hn:p.name.length<=10000000)(ha:∀a∈p.attrs,a.length<=10000000)(hat:at_.length<=100000)(hpl:p.attrs.length<=100000)(hE:EnvB B w) :
  Calls prog 11 #[.agg #[.string ⟨p.name.toArray⟩,.int .i64 p.pub,va,vg],vt] w fun e w'=>Kept [] w w'/\ValsE w e w' (dv p at_):=by
 obtain⟨i0,hi,ag,af,ad⟩:=info_parts oF;obtain⟨W,hW⟩:∃W,w.alloc (.cells #[.string ⟨p.name.toArray⟩,.int .i64 p.pub,va,vg] 36)=W:=⟨_,rfl⟩;have E:Kept [] w W:=hW▸(Kept.refl _ _).alloc _;have X:Blk W w.heap.size 36 #[.string ⟨p.name.toArray⟩,.int .i64 p.pub,va,vg]:=hW▸Blk.new _ _ _;have u:=gj (p:=p) (vg:=vg) (h.kept E) hn ha (hE.kept0 E);obtain⟨a,c,rfl,_,ap⟩:=h.form;obtain⟨ta,tc,rfl,_,an⟩:=ht.form;obtain⟨R,hR⟩:∃R,dv p at_=R:=⟨_,rfl⟩;obtain⟨d,A⟩:∃d,p.name=d:=⟨_,rfl⟩;obtain⟨pu,a3⟩:∃pu,p.pub=pu:=⟨_,rfl⟩;obtain⟨n,C⟩:∃n,p.attrs.length=n:=⟨_,rfl⟩;obtain⟨m,U⟩:∃m,at_.length=m:=⟨_,rfl⟩;obtain⟨bp,G⟩:∃b,dW p=b:=⟨_,rfl⟩;have au:=hid A;have f:=hid C;have L:=hid U;have Z:=hid G;have J:=hid hR
 have N:bp=true->n < 6:=fun e=>by have:=jQ (G.trans e);omega
 rw[G]at u;rw[hR];rw[A,a3,C]at u X hW ⊢;rw[A]at hn;rw[C]at h ap hpl;rw[U]at ht an hat ⊢;have c0:W.cell? ⟨w.heap.size,0,none⟩=some (.string ⟨d.toArray⟩):=X.cell 0;have c1:W.cell? ⟨w.heap.size,1,none⟩=some (.int .i64 pu):=X.cell 1;have c2:W.cell? ⟨w.heap.size,2,none⟩=some (.slice a n c):=X.cell 2;have c3:W.cell? ⟨w.heap.size,3,none⟩=some vg:=X.cell 3;have I:=hid u;have HA:=hid ha;have H:=hid h;have HT:=hid ht;have HB:=hid X;have HK:=hid E;have HW:=hid hW;have av:=hid hn;clear hW E X A hR a3 h C U G hn ha hE ht u
 go_enter func11,ntmps11
 go_upto_region 1 with(fail);have hW':=HW.out;rw[hW'];clear hW' HW
 cases bp
 ·go_wp2_with (go_at_call 28;refine I.out.mono ?_;rintro e M ⟨rfl,t⟩);refine fm rfl rfl ⟨HK.out.trans t,?_⟩;have:=J.out
  unfold dv at this
  rw[if_pos (Or.inl Z.out)]at this;subst this
  rfl
 ·have N:=N rfl
  by_cases hmn:m<=n
  ·have hmn':(m:Int)<=(n:Int):=by omega
   go_wp2_with (go_at_call 28;refine I.out.mono ?_;rintro e M ⟨rfl,t⟩;have z2:M.cell? ⟨w.heap.size,2,none⟩=some (.slice a n c):=Kept.cellOf c2 _ t);refine fm rfl rfl ⟨HK.out.trans t,?_⟩;have:=J.out
   unfold dv at this
   rw[if_pos (Or.inr (by have:=L.out;have:=f.out;omega))]at this;subst this
   rfl
  ·have hmn':¬(m:Int)<=(n:Int):=by omega
   go_wp2_with (go_at_call 28;refine I.out.mono ?_;rintro e M ⟨rfl,t⟩;have z2:M.cell? ⟨w.heap.size,2,none⟩=some (.slice a n c):=Kept.cellOf c2 _ t);have Y:=hid hmn;have a8:=hid t;have b2:=hid (HB.out.kept t (by simp));clear hmn' hmn c0 c1 c2 c3 z2 t I
   go_loopw [6,24] (fun v i wr=>∃j:Nat,j<=n/\i=.int .i64 j/\Kept [] M wr/\wr.ownsRow M.heap.size 82 2 v j (cZ (dR p at_ j))/\∀k,k < j->badV at_ k=false) (fun _ i _=>n - (intOf i).toNat)
   case atStart=>exact⟨0,Nat.zero_le _,rfl,Kept.refl _ _,World.ownsRow_nil _ _ _ _,fun k hk=>absurd hk (by omega)⟩
   case round =>
    obtain⟨j,hj,rfl,D,l,P⟩:=hrel;obtain⟨oa,oc,rfl⟩:=dp l (by decide);have T:=hid P;have r:=hid ((HK.out.trans a8.out).trans D);have Q:=hid D;have HO:=hid l;clear P l
    by_cases hlt:j < n
    ·have hlt':(j:Int) < (n:Int):=by omega
     have b6:j+1 < m:=by have:=Y.out;omega
     have hjm':(j:Int)+1 < (m:Int):=by omega
     obtain⟨b,ac,rfl,hc⟩:=(H.out.kept r.out).at_ (by omega);obtain⟨tb,a0,rfl,a2⟩:=(HT.out.kept r.out).at_ (by omega)
     have F:j < p.attrs.length:=by have:=f.out;omega
     have a1:j+1 < at_.length:=by have:=L.out;omega
     obtain⟨x,hx⟩:∃x,p.attrs[j]=x:=⟨_,rfl⟩;obtain⟨y,hy⟩:∃y,at_[j+1]=y:=⟨_,rfl⟩;have b5:x.length<=10000000:=HA.out x (hx▸List.getElem_mem F)
     have y0:wr.cell? ⟨b,ac+j,none⟩=some (.string ⟨x.toArray⟩):=by rw[hc j _ (eD F),hx]
     have y1:wr.cell? ⟨tb,a0+(j+1),none⟩=some (.int .i64 y):=by rw[a2 (j+1) _ (bu a1),hy]
     have a4:p.attrs.getD j []=x:=by simp[List.getD_eq_getElem?_getD,F,hx]
     have V:at_.getD (j+1) 0=y:=by simp[List.getD_eq_getElem?_getD,a1,hy]
     have O:badV at_ j=(decide (y < 0) ||decide (65535 < y)):=by unfold badV;rw[V]
     have a7:Hid (dR p at_ (j+1)=dR p at_ j++[(nmA d x,y)]):=hid (by rw[nC,a4,V,au.out]);have s:=hid O;have a6:=b2.out.kept D (by simp);have d0:wr.cell? ⟨w.heap.size,0,none⟩=some (.string ⟨d.toArray⟩):=a6.cell 0
     have o:badV at_ j=true->R=.error 3:=fun hb=>by
      have:=J.out
      unfold dv at this
      rw[if_neg (by rw[Z.out];have:=L.out;have:=f.out;have:=Y.out;simp;omega),if_pos (List.any_eq_true.2 ⟨j,List.mem_range.2 F,hb⟩)]at this;exact this.symm
     have a9:=hid o;have hn':=av.out
     have ab:(⟨d.toArray⟩:ByteArray).size=d.length:=by simp[ByteArray.size]
     have aa:(⟨#[46]⟩:ByteArray).size=1:=rfl
     have b4:(⟨x.toArray⟩:ByteArray).size=x.length:=by simp[ByteArray.size]
     have b3:((⟨d.toArray⟩:ByteArray)++(⟨#[46]⟩:ByteArray)).size=d.length+1:=by rw[ByteArray.size_append,ab,aa]
     have e1:(⟨d.toArray⟩:ByteArray)++⟨#[46]⟩++⟨x.toArray⟩=⟨(nmA d x).toArray⟩:=by
      rw[show(⟨#[46]⟩:ByteArray)=⟨([46]:List UInt8).toArray⟩from rfl,bcat,bcat]
      rfl
     clear O hc a2 hx hy a4 V o D a6
     by_cases h1:y < 0
     ·go_wp2_with fail;refine fm rfl rfl ⟨r.out,?_⟩;rw[a9.out (by rw[s.out];simp[h1])]
      rfl
     ·by_cases h2:65535 < y
      ·go_wp2_with fail;refine fm rfl rfl ⟨r.out,?_⟩;rw[a9.out (by rw[s.out];simp[h2])]
       rfl
      ·have q:M.heap.size<=(wr.alloc (.cells #[.string ⟨(nmA d x).toArray⟩,.int .i64 y] 82)).heap.size:=by have:=Q.out.size;rw[World.size_alloc];omega
       have b1:=hid q;clear q;go_wp2_with (at_builtin;refine aH rfl _ _ _ rfl M.heap.size 82 i0 _ 2 24 underlying30 hi ag af ad rfl (by decide) (.slice oa j oc) j (cZ (dR p at_ j)) rfl (ax HO.out (S:=[]) ((Kept.refl [] wr).alloc _) (by simp)) _ 1 [.string ⟨(nmA d x).toArray⟩,.int .i64 y] rfl (al (cs:=[.string ⟨(nmA d x).toArray⟩,.int .i64 y]) (Blk.new _ _ _) rfl (by decide)) (by simp[Value.oneCell']) (by unfold maxLen;omega) (by omega) b1.out ?_;intro a' c' w6 g a5 ao;have aq:=hid g;have b0:=hid a5;clear g a5 ao)
       go_roundw
       case rel =>
        refine⟨j+1,by omega,by go_num,((Q.out.alloc _).fresh b0.out (fun z hz=>?_)),?_,fun k hk=>?_⟩
        ·exact(aA HO.out z hz).1
        ·rw[a7.out,kR];exact aq.out
        ·by_cases e:k=j
         ·subst e;rw[s.out];simp[h1,h2]
         ·exact T.out k (by omega)
       case measure=>simp[intOf];omega
    ·obtain rfl:j=n:=by omega
     go_wp2_with fail;refine fm rfl rfl ⟨r.out,?_⟩;have:=J.out
     unfold dv at this
     rw[if_neg (by rw[Z.out];have:=L.out;have:=f.out;have:=Y.out;simp;omega),if_neg (by rw[List.any_eq_true];rintro⟨k,hk,hb⟩;rw[T.out k (by have:=List.mem_range.1 hk;have:=f.out;omega)]at hb;cases hb)]at this;subst this;refine⟨_,rfl,?_⟩;rw[gE,f.out];exact ownsRow_base_a HO.out (HK.out.trans a8.out).size
end Go.Proofs.YtpcmamoomaddoaaGreatDoor
namespace Go.Proofs.YtpcmamoomaddoaaGreatDoor
open Go.RowKit Go.Maps
open Go.Proofs.Tryz
open Lib(hid)
def dE(_:World)(c:List Value)(b:Bnd):Prop:=c=[.string ⟨b.1.toArray⟩,.int .i64 b.2]
def badN(l:List Bnd)(i:Nat):Bool:=match l[i]? with|none=>false|some b=>decide (b.1∈(l.take i).map Prod.fst) || !aG b.1 ||decide (b.2 < 0) ||decide (65535 < b.2)
def db(l:List Bnd):Bool:=!(List.range l.length).any (badN l)
theorem qN{l:List Bnd}{i:Nat}(hi:i < l.length)(h:badN l i=true):db l=false:=by
 unfold db
 rw[show(List.range l.length).any (badN l)=true from List.any_eq_true.2 ⟨i,List.mem_range.2 hi,h⟩]
 rfl
theorem jj{l:List Bnd}(h:∀i,i < l.length->badN l i=false):db l=true:=by
 unfold db
 rw[show(List.range l.length).any (badN l)=false from List.any_eq_false.2 fun i hi=>by rw[h i (List.mem_range.1 hi)];simp]
 rfl
theorem fj:∀w,(zeroValue 4).run prog w=.ok (.bool false) w:=zeroValue4
theorem fo{B:Nat}{w:World}{v:Value}{l:List Bnd}(h:aj dE 2 w v l)(hs:∀b∈l,b.1.length<=10000000)(hl:l.length<=100000)(hE:EnvB B w) :
  Calls prog 99 #[v] w fun e w'=>e=.returned (.bool (db l))/\Kept [] w w':=by
 have ac:=@run_makeMap prog;obtain⟨a,c,rfl,a1,a5⟩:=h.form;obtain⟨R,hR⟩:∃R,db l=R:=⟨_,rfl⟩;obtain⟨n,hn⟩:∃n,l.length=n:=⟨_,rfl⟩
 have T:∀i,i < n->badN l i=true->R=false:=fun i hi hb=>by rw[<-hR];exact qN (by omega) hb
 have G2:(∀i,i < n->badN l i=false)->R=true:=fun h3=>by rw[<-hR];exact jj (fun i hi=>h3 i (by omega))
 rw[hR];rw[hn]at h a5 a1 hl ⊢;obtain⟨m,hm⟩:∃m,w.heap.size=m:=⟨_,rfl⟩;have t:am aC (w.alloc (.map #[] 0)) m 0 (fun _=>none):=hm▸am.made (E:=aC) w;have N:=hid t;have HM:=hid hm;have H:=hid h;have HN:=hid hn;have HS:=hid hs;have HE:=hid hE;have T:=hid T;have G2:=hid G2;clear hR hn h hs hE t
 go_enter func99,ntmps99
 go_wp2_with fail
 (try rw[hm])
 clear hm
 go_loopw [9] (fun v wr=>∃i:Nat,i<=n/\v=.int .i64 i/\Kept [] w wr/\am aC wr m i (colS ((l.take i).map Prod.fst))/\∀k,k < i->badN l k=false) (fun v _=>n - (intOf v).toNat)
 case atStart=>exact⟨0,Nat.zero_le _,rfl,(Kept.refl _ _).alloc _,N.out.congr fun x _=>by simp[colS],fun k hk=>absurd hk (by omega)⟩
 case round =>
  obtain⟨i,hi,rfl,r,Z,I⟩:=hrel;have J:=hid I;have aa:=hid r;have a8:=hid Z;clear I Z
  by_cases hlt:i < n
  ·have hlt':(i:Int) < (n:Int):=by omega
   obtain⟨b,V,rfl,hc⟩:=H.out.at_ (by have:=HN.out;omega);obtain⟨p,Y⟩:∃p,l[i]?=some p:=⟨_,List.getElem?_eq_getElem (by have:=HN.out;omega)⟩;obtain⟨cp,q1,q2,q3⟩:=hc i p Y;have L:=HS.out p (List.mem_of_getElem? Y)
   have X:l.take (i+1)=l.take i++[p]:=by rw[List.take_succ_eq_append_getElem (by have:=HN.out;omega),(List.getElem?_eq_some_iff.1 Y).2]
   have G:badN l i=(decide (p.1∈(l.take i).map Prod.fst) || !aG p.1 ||decide (p.2 < 0) ||decide (65535 < p.2)):=by unfold badN;rw[Y]
   unfold dE at q2
   subst q2;obtain⟨x,y⟩:=p;have y0:wr.cell? ⟨b,V+i*2,none⟩=some (.string ⟨x.toArray⟩):=Kept.cellOf (q3 0 _ (by decide) rfl) _ r;have y1:wr.cell? ⟨b,V+i*2+1,none⟩=some (.int .i64 y):=Kept.cellOf (q3 1 _ (by decide) rfl) _ r;obtain⟨U,A⟩:∃z,wr.alloc (.cells #[.string ⟨x.toArray⟩,.int .i64 y] 82)=z:=⟨_,rfl⟩;have kA:Kept [] wr U:=A▸(Kept.refl _ _).alloc _;have C:Blk U wr.heap.size 82 #[.string ⟨x.toArray⟩,.int .i64 y]:=A▸Blk.new _ _ _;have x0:U.cell? ⟨wr.heap.size,0,none⟩=some (.string ⟨x.toArray⟩):=C.cell 0;have x1:U.cell? ⟨wr.heap.size,1,none⟩=some (.int .i64 y):=C.cell 1;have Q:=hid (ew x U (by show x.length<=_;have:x.length<=10000000:=L;omega) (HE.out.kept0 (r.trans kA)));have j:=hid (a8.out.kept kA (by simp));have F:=hid C;have a3:=hid A;have u:=hid (r.trans kA);have o:=hid G;have a7:=hid X;have P:Hid (x.length<=maxLen):=hid (by have:x.length<=10000000:=L;unfold maxLen;omega);clear hc q1 q3 A kA C r Y L G X;go_upto_region 5 with(fail);have hwA':=a3.out;rw[hwA'];clear hwA' y0 y1 a3
   by_cases hin:x∈(l.take i).map Prod.fst
   ·have O:colS ((l.take i).map Prod.fst) x=some (.bool true):=by unfold colS;rw[if_pos hin]
    go_wp2_with (first
     |(at_lookup;refine aX (E:=aC) j.out (x:=x) P.out rfl _ _ 178 4 rfl underlying178 (.bool false) fj rfl rfl ?_;rw[O];simp only[Option.getD_some])
     |go_in)
    go_ret;exact⟨by rw[T.out i hlt (by rw[o.out,decide_eq_true hin];rfl)];rfl,u.out⟩
   ·have O:colS ((l.take i).map Prod.fst) x=none:=by unfold colS;rw[if_neg hin]
    cases hvn:aG x
    ·rw[hvn]at Q;have M:=hid hvn;clear hvn
     go_wp2_with (first
      |(at_lookup;refine aX (E:=aC) j.out (x:=x) P.out rfl _ _ 178 4 rfl underlying178 (.bool false) fj rfl rfl ?_;rw[O];simp only[Option.getD_none])
      |(go_at_call 62;refine Q.out.mono ?_;rintro e s ⟨rfl,g⟩;have d:=F.out.kept g (by simp);have d0:s.cell? ⟨wr.heap.size,0,none⟩=some (.string ⟨x.toArray⟩):=d.cell 0;have d1:s.cell? ⟨wr.heap.size,1,none⟩=some (.int .i64 y):=d.cell 1;have f:=j.out.kept g (by simp);have D:=hid f;have q:=hid g;clear d f g)
      |go_in)
     go_ret;exact⟨by rw[T.out i hlt (by rw[o.out,M.out];simp)];rfl,u.out.trans q.out⟩
    ·rw[hvn]at Q;have M:=hid hvn;clear hvn
     by_cases h1:y < 0
     ·go_wp2_with (first
       |(at_lookup;refine aX (E:=aC) j.out (x:=x) P.out rfl _ _ 178 4 rfl underlying178 (.bool false) fj rfl rfl ?_;rw[O];simp only[Option.getD_none])
       |(go_at_call 62;refine Q.out.mono ?_;rintro e s ⟨rfl,g⟩;have d:=F.out.kept g (by simp);have d0:s.cell? ⟨wr.heap.size,0,none⟩=some (.string ⟨x.toArray⟩):=d.cell 0;have d1:s.cell? ⟨wr.heap.size,1,none⟩=some (.int .i64 y):=d.cell 1;have f:=j.out.kept g (by simp);have D:=hid f;have q:=hid g;clear d f g)
       |go_in)
      go_ret;exact⟨by rw[T.out i hlt (by rw[o.out,decide_eq_true h1];simp)];rfl,u.out.trans q.out⟩
     ·by_cases h2:65535 < y
      ·go_wp2_with (first
        |(at_lookup;refine aX (E:=aC) j.out (x:=x) P.out rfl _ _ 178 4 rfl underlying178 (.bool false) fj rfl rfl ?_;rw[O];simp only[Option.getD_none])
        |(go_at_call 62;refine Q.out.mono ?_;rintro e s ⟨rfl,g⟩;have d:=F.out.kept g (by simp);have d0:s.cell? ⟨wr.heap.size,0,none⟩=some (.string ⟨x.toArray⟩):=d.cell 0;have d1:s.cell? ⟨wr.heap.size,1,none⟩=some (.int .i64 y):=d.cell 1;have f:=j.out.kept g (by simp);have D:=hid f;have q:=hid g;clear d f g)
        |go_in)
       go_ret;exact⟨by rw[T.out i hlt (by rw[o.out,decide_eq_true h2];simp)];rfl,u.out.trans q.out⟩
      ·have a6:i < maxLen:=by unfold maxLen;omega
       go_wp2_with (first
        |(at_lookup;refine aX (E:=aC) j.out (x:=x) P.out rfl _ _ 178 4 rfl underlying178 (.bool false) fj rfl rfl ?_;rw[O];simp only[Option.getD_none])
        |(go_at_call 62;refine Q.out.mono ?_;rintro e s ⟨rfl,g⟩;have d:=F.out.kept g (by simp);have d0:s.cell? ⟨wr.heap.size,0,none⟩=some (.string ⟨x.toArray⟩):=d.cell 0;have d1:s.cell? ⟨wr.heap.size,1,none⟩=some (.int .i64 y):=d.cell 1;have f:=j.out.kept g (by simp);have D:=hid f;have q:=hid g;clear d f g)
        |(at_mapUpdate;refine dQ (E:=aC) D.out (x:=x) P.out rfl _ _ _ 178 4 rfl underlying178 a6 (.bool true) rfl rfl rfl ?_;intro w6 a0 a2 a4;have a9:=hid a0;have ab:=hid (Kept.of_turned a2 (List.mem_singleton_self m));clear a0 a2 a4)
        |go_in)
       go_roundw
       case rel =>
        refine⟨i+1,by omega,by go_num,(u.out.trans q.out).fresh ab.out (fun z hz=>by rw[List.mem_singleton]at hz;have:=HM.out;omega),?_,fun k hk=>?_⟩
        ·refine a9.out.congr fun z _=>?_;rw[a7.out,List.map_append]
         unfold colS
         by_cases e:z=x
         ·simp[e]
         ·simp[e]
        ·by_cases e:k=i
         ·subst e;rw[o.out,M.out,decide_eq_false hin,show decide (y < 0)=false by simp;omega,show decide (65535 < y)=false by simp;omega];rfl
         ·exact J.out k (by omega)
       case measure=>simp[intOf];omega
  ·obtain rfl:i=n:=by omega
   go_wp2_with fail;go_ret;exact⟨by rw[G2.out (fun k hk=>J.out k hk)];rfl,aa.out⟩
end Go.Proofs.YtpcmamoomaddoaaGreatDoor
namespace Go.Proofs.YtpcmamoomaddoaaGreatDoor
open Go.RowKit
open Go.Proofs.Tryz
open Lib(hid)
def aV(n lo hi:Int):Bool:=decide (lo<=n)&&decide (n<=hi)
theorem cL(n lo hi:Int)(w:World) :
  Calls prog 98 #[.int .i64 n,.int .i64 lo,.int .i64 hi] w fun e w'=>e=.returned (.bool (aV n lo hi))/\w'=w:=by
 unfold aV
 by_cases h1:lo<=n
 ·by_cases h2:n<=hi
  ·go_enter func98,ntmps98
   go_wp2_with fail;go_ret
   simp[h1,h2]
  ·go_enter func98,ntmps98
   go_wp2_with fail;go_ret
   simp[h2]
   try omega
 ·go_enter func98,ntmps98
  go_wp2_with fail;go_ret
  simp
  try omega
/-- a use -/
structure Sn where
 q:Int
 win:Int
 asof:Int
 hold:Int
def useB(nq nm:Nat)(x:Sn):Bool:=aV x.q 0 ((nq:Int) - 1)&&aV x.win 0 15&&aV x.asof 0 16&&aV x.hold (-1) ((nm:Int) - 1)
theorem mE(nq nm nu cq cm cu:Nat)(qa ma ua:Option Addr)(x:Sn)(w:World)(hq:nq<=1000000)(hm:nm<=1000000) :
  Calls prog 59 #[.agg #[.slice qa nq cq,.slice ma nm cm,.slice ua nu cu],.agg #[.int .i64 x.q,.int .i64 x.win,.int .i64 x.asof,.int .i64 x.hold]] w fun e w'=>e=.returned (.bool (useB nq nm x))/\Kept [] w w':=by
 obtain⟨i,h,g,f⟩:=x;obtain⟨R,c⟩:∃R,useB nq nm ⟨i,h,g,f⟩=R:=⟨_,rfl⟩;rw[c]
 unfold useB at c
 simp only at c
 have u:=hid (fun w'=>cL i 0 ((nq:Int) - 1) w');have t:=hid (fun w'=>cL h 0 15 w');have s:=hid (fun w'=>cL g 0 16 w');have r:=hid (fun w'=>cL f (-1) ((nm:Int) - 1) w');obtain⟨z,n⟩:∃b,aV i 0 ((nq:Int) - 1)=b:=⟨_,rfl⟩;obtain⟨y,m⟩:∃b,aV h 0 15=b:=⟨_,rfl⟩;obtain⟨v,l⟩:∃b,aV g 0 16=b:=⟨_,rfl⟩;obtain⟨G,k⟩:∃b,aV f (-1) ((nm:Int) - 1)=b:=⟨_,rfl⟩;rw[n]at u c;rw[m]at t c;rw[l]at s c;rw[k]at r c;clear n m l k;obtain⟨W,o⟩:∃W,(w.alloc (.cells #[.slice qa nq cq,.slice ma nm cm,.slice ua nu cu] 67)).alloc (.cells #[.int .i64 i,.int .i64 h,.int .i64 g,.int .i64 f] 84)=W:=⟨_,rfl⟩;have j:Kept [] w W:=o▸((Kept.refl _ _).alloc _).alloc _;have d:Blk W w.heap.size 67 #[.slice qa nq cq,.slice ma nm cm,.slice ua nu cu]:=o▸(Blk.new _ _ _).alloc _;have a:Blk W (w.heap.size+1) 84 #[.int .i64 i,.int .i64 h,.int .i64 g,.int .i64 f]:=o▸Blk.new1 _ _ _ _;have J:W.cell? ⟨w.heap.size,0,none⟩=some (.slice qa nq cq):=d.cell 0;have I:W.cell? ⟨w.heap.size,1,none⟩=some (.slice ma nm cm):=d.cell 1;have F:W.cell? ⟨w.heap.size+1,0,none⟩=some (.int .i64 i):=a.cell 0;have E:W.cell? ⟨w.heap.size+1,1,none⟩=some (.int .i64 h):=a.cell 1;have D:W.cell? ⟨w.heap.size+1,2,none⟩=some (.int .i64 g):=a.cell 2;have C:W.cell? ⟨w.heap.size+1,3,none⟩=some (.int .i64 f):=a.cell 3;have B:=hid j;have A:=hid o;clear o j d a
 cases z <;> cases y <;> cases v <;> (
  go_enter func59,ntmps59
  go_upto_region 1 with(fail);have hW':=A.out;rw[hW'];clear hW'
  go_wp2_with (first
   |(go_at_call 98;(with_reducible refine(u.out _).mono ?_);rintro e p ⟨rfl,rfl⟩)
   |(go_at_call 98;(with_reducible refine(t.out _).mono ?_);rintro e p ⟨rfl,rfl⟩)
   |(go_at_call 98;(with_reducible refine(s.out _).mono ?_);rintro e p ⟨rfl,rfl⟩)
   |(go_at_call 98;(with_reducible refine(r.out _).mono ?_);rintro e p ⟨rfl,rfl⟩))
  go_ret
  exact⟨by rw[<-c];rfl,B.out⟩)
end Go.Proofs.YtpcmamoomaddoaaGreatDoor
