import Derived.Test.YtpcmamoomaddoaaGreatDoorPrd
set_option maxRecDepth 100000
set_option maxHeartbeats 32000000
namespace Go.Proofs.YtpcmamoomaddoaaGreatDoor
open Go.RowKit
/-! ### the predicate of a sight is one alone -/
theorem qj{A:List K3}{n m:List Bs}(h:iz A n)(k:iz A m):n=m:=by
 obtain⟨h1,h2,h3⟩:=h;obtain⟨k1,k2,k3⟩:=k;exact fT (fun a _ b _=>List.le_antisymm) ((List.perm_ext_iff_of_nodup h1 k1).2 fun s=>(h3 s).trans (k3 s).symm) h2 k2
theorem aU.uniq{q:Bs}{most:Int}{r r':Except Int Pd}(h:aU q most r)(k:aU q most r'):r=r':=by
 unfold aU at h k
 split at h
 ·next h1=>rw[if_pos h1]at k;rw[h,k]
 ·next h1 =>
  rw[if_neg h1]at k
  split at h
  ·next h2=>rw[if_pos h2]at k;rw[h,k]
  ·next h2 =>
   rw[if_neg h2]at k;obtain⟨n,h3,rfl⟩:=h;obtain⟨m,k3,rfl⟩:=k;rw[qj h3 k3]
open Classical in
noncomputable def predF (q:Bs) (most:Int):Except Int Pd:=if h:∃r,aU q most r then Classical.choose h else .error 0
theorem aU.eq{q:Bs}{most:Int}{r:Except Int Pd}(h:aU q most r):predF q most=r:=by
 unfold predF
 rw[dif_pos ⟨r,h⟩];exact(Classical.choose_spec (⟨r,h⟩:∃r,aU q most r)).uniq h
/-! ### the holders -/
structure Iss where
 key:Int
 attrs:List Int
structure Cz where
 num:Int
 vals:List Bnd
 tick:List Int
def valOf(l:List Bnd)(s:Bs):Option Int:=(l.find? fun b=>decide (b.1=s)).map Prod.snd
def put1(acc:List Bnd)(b:Bnd):Except Int (List Bnd) :=
 match valOf acc b.1 with
 |some v=>if v=b.2 then .ok acc else .error 20
 |none=>.ok (acc++[b])
def findC(P:List Cz)(n:Int):Option Cz:=P.find? fun c=>decide (c.num=n)
def setC(P:List Cz)(c:Cz):List Cz:=P.filter (fun d=>decide (d.num≠c.num))++[c]
def czOf(k:Nat)(P:List Cz)(n:Int):Cz:=(findC P n).getD ⟨n,[],List.replicate k 0⟩
def bump(t:List Int)(i:Nat):List Int:=t.set i (t.getD i 0+1)
def lR(ks:List Pss)(i:Int):Option Pss:=if i < 0 then none else ks[i.toNat]?
/-- the holder behind an issuing of values l -/
def oO(k:Nat)(P:List Cz)(n:Int)(vs:List Bnd)(i:Nat):Cz:=⟨n,vs,bump (czOf k P n).tick i⟩
/-- the issuing with values l of the holder n, for the key i -/
def addN(k:Nat)(P:List Cz)(i:Nat)(n:Int)(l:List Bnd):Except Int (List Cz) :=
 if n < 1 then .error 1 else
 match aF put1 (czOf k P n).vals l with
 | .error c=>.error c
 | .ok vs=>if 64 < (setC P (oO k P n vs i)).length\/4096 < (oO k P n vs i).tick.getD i 0 then .error 6 else .ok (setC P (oO k P n vs i))
def addB(ks:List Pss)(P:List Cz)(x:Iss):Except Int (List Cz) :=
 match lR ks x.key with
 |none=>.error 1
 |some p=>match dv p x.attrs with
  | .error c=>.error c
  | .ok l=>addN ks.length P x.key.toNat (x.attrs.headD 0) l
/-! ### the members -/
def aL(P:List Cz):List Int:=(P.map Cz.num).mergeSort fun a b=>decide (a<=b)
def aS(l:List Bnd):List Bnd:=l.mergeSort fun a b=>decide (a.1<=b.1)
def dZ(log:List Int)(P:List Cz)(n:Int):Mb:=⟨aS (czOf 0 P n).vals,(czOf 0 P n).tick,Lib.idxOf log n⟩
def membersB(log:List Int)(P:List Cz):List Mb:=(aL P).map (dZ log P)
/-! ### the sights -/
structure Sgt where
 q:Bs
 most:Int
 passes:List Pss
 rev:List Int
 links:List Nat
 holder:Int
def ig(x p:Pss):Bool:=decide (p.name=x.name)&&decide (p.pub=x.pub)&&decide (p.attrs=x.attrs)
def eI(l:List Nat):Bool:=match l with|[]=>false|[n]=>decide (0 < n)|_=>true
def fq(log rev:List Int):Bool:=decide (log.length < rev.length) || !decide (rev=log.take rev.length)
noncomputable def sightB (ks:List Pss) (log nums:List Int) (c:List Pd × List Sn) (x:Sgt):Except Int (List Pd × List Sn) :=
 match predF x.q x.most with
 | .error e=>.error e
 | .ok p =>
  match x.passes with
  | []=>.error 2
  |t::rest =>
   if rest≠[]\/eI x.links=true then .error 2 else
   match ks.findIdx? (ig t)with
   |none=>.error 4
   |some key =>
    if fq log x.rev=true then .error 17
    else if x.holder≠0/\Lib.idxOf nums x.holder < 0 then .error 19
    else if 4096<=c.2.length then .error 6
    else match c.1.findIdx? (cC p)with
     |some i=>.ok (c.1,c.2++[⟨i,key,x.rev.length,Lib.idxOf nums x.holder⟩])
     |none=>if 128<=c.1.length then .error 6 else .ok (c.1++[p],c.2++[⟨c.1.length,key,x.rev.length,Lib.idxOf nums x.holder⟩])
/-- a crowd -/
structure Crw where
 qs:List Pd
 ms:List Mb
 us:List Sn
noncomputable def accountB (ks:List Pss) (log:List Int) (is:List Iss) (ss:List Sgt):Except Int (Crw × List Int) :=
 if dI ks=false\/logB log=false then .error 1 else
 match aF (addB ks) [] is with
 | .error e=>.error e
 | .ok P=>match aF (sightB ks log (aL P)) ([],[]) ss with
  | .error e=>.error e
  | .ok (q,u)=>.ok (⟨q,membersB log P,u⟩,aL P)
def cX(c:Crw):Bool:=decide (c.qs.length<=128)&&decide (c.ms.length<=64)&&decide (c.us.length<=4096)&&!(c.qs.any fun p=>!aP p)&&!(c.ms.any fun m=>!memB m)&&!(c.us.any fun x=>!useB c.qs.length c.ms.length x)
/-! ### laws of holders -/
theorem ce{P:List Cz}{n:Int}{c:Cz}(h:findC P n=some c):c∈P/\c.num=n:=by
 unfold findC at h
 exact⟨List.mem_of_find?_eq_some h,by simpa using List.find?_some h⟩
theorem kz{P:List Cz}{n:Int}(h:findC P n=none):∀c∈P,c.num≠n:=by
 unfold findC at h
 intro c hc
 simpa using List.find?_eq_none.1 h c hc
theorem eO{P:List Cz}(hn:(P.map Cz.num).Nodup){c:Cz}(hc:c∈P):findC P c.num=some c:=by
 induction P with
 |nil=>cases hc
 |cons d P ih =>
  rw[List.map_cons,List.nodup_cons]at hn
  unfold findC
  rw[List.find?_cons]
  by_cases e:d.num=c.num
  ·rcases List.mem_cons.1 hc with h|h
   ·subst h;simp
   ·exact absurd (List.mem_map.2 ⟨c,h,e.symm⟩) hn.1
  ·rw[decide_eq_false e]
   rcases List.mem_cons.1 hc with h|h
   ·exact absurd (by rw[h]) e
   ·exact ih hn.2 h
theorem lZ(P:List Cz)(c:Cz)(n:Int):findC (setC P c) n=if n=c.num then some c else findC P n:=by
 unfold setC
 show(P.filter (fun d=>decide (d.num≠c.num))++[c]).find? (fun d=>decide (d.num=n))=_
 rw[List.find?_append,List.find?_filter]
 by_cases e:n=c.num
 ·subst e;rw[if_pos rfl]
  have:P.find? (fun a=>decide (decide (a.num≠c.num)=true/\decide (a.num=c.num)=true))=none:=by
   rw[List.find?_eq_none];intro x _
   simp
  rw[this]
  simp
 ·rw[if_neg e]
  have:(fun a:Cz=>decide (decide (a.num≠c.num)=true/\decide (a.num=n)=true))=fun a=>decide (a.num=n):=by
   funext a
   by_cases e2:a.num=n
   ·simp[e2,e]
   ·simp[e2]
  rw[this]
  unfold findC
  cases P.find? (fun c=>decide (c.num=n))with
  |some d=>rfl
  |none=>simp[Ne.symm e]
theorem uH{P:List Cz}(hn:(P.map Cz.num).Nodup){n:Int}{c0:Cz}(h:findC P n=some c0):P.Perm (c0::P.filter fun d=>decide (d.num≠n)):=by
 induction P with
 |nil=>cases h
 |cons d P ih =>
  rw[List.map_cons,List.nodup_cons]at hn
  unfold findC at h
  rw[List.find?_cons]at h
  by_cases e:d.num=n
  ·rw[decide_eq_true e]at h;injection h with h;subst h;rw[List.filter_cons_of_neg (by simp[e])]
   have:P.filter (fun x=>decide (x.num≠n))=P:=List.filter_eq_self.2 fun x hx=>by
    simp only[decide_eq_true_eq];intro e2;exact hn.1 (List.mem_map.2 ⟨x,hx,by rw[e2,e]⟩)
   rw[this]
  ·rw[decide_eq_false e]at h;rw[List.filter_cons_of_pos (by simp[e])];exact((ih hn.2 h).cons d).trans (List.Perm.swap _ _ _)
theorem uY{P:List Cz}{n:Int}(h:findC P n=none):P.filter (fun d=>decide (d.num≠n))=P :=
 List.filter_eq_self.2 fun x hx=>by simpa using kz h x hx
theorem mem_setC{P:List Cz}{c d:Cz}:d∈setC P c↔(d∈P/\d.num≠c.num)\/d=c:=by
 unfold setC
 simp
theorem lK{P:List Cz}(hn:(P.map Cz.num).Nodup)(c:Cz):((setC P c).map Cz.num).Nodup:=by
 unfold setC
 rw[List.map_append,List.nodup_append];refine⟨(List.filter_sublist.map _).nodup hn,by simp,fun a ha b hb=>?_⟩;obtain⟨d,hd,rfl⟩:=List.mem_map.1 ha;simp at hb;subst hb
 simpa using(List.mem_filter.1 hd).2
theorem tV{P:List Cz}(hn:(P.map Cz.num).Nodup)(c:Cz)(f:Cz->Int):((setC P c).map f).sum=(P.map f).sum+f c - (match findC P c.num with|some d=>f d|none=>0):=by
 unfold setC
 rw[List.map_append,List.sum_append]
 cases h:findC P c.num with
 |none=>rw[uY h];simp
 |some d =>
  have:=nG ((uH hn h).map f);rw[List.map_cons,List.sum_cons]at this;rw[this]
  simp
  omega
theorem oZ(t:List Int)(i:Nat):(bump t i).length=t.length:=by simp[bump]
theorem oY:∀(t:List Int) (i:Nat),i < t.length->(bump t i).sum=t.sum+1
 | [],i,h=>by simp at h
 |a::t,0,_=>by simp[bump];omega
 |a::t,i+1,h=>by
  have:=oY t i (by simpa using h)
  unfold bump at this ⊢
  rw[List.getD_cons_succ,List.set_cons_succ,List.sum_cons,List.sum_cons,this];omega
theorem bump_mem{t:List Int}{i:Nat}{x:Int}(h:x∈bump t i):x∈t\/x=(bump t i).getD i 0:=by
 unfold bump at h ⊢
 by_cases hi:i < t.length
 ·rcases List.mem_or_eq_of_mem_set h with h1|h1
  ·exact Or.inl h1
  ·refine Or.inr ?_;rw[h1,List.getD_eq_getElem?_getD (l:=t.set _ _),List.getElem?_set_self (by simpa using hi)]
   rfl
 ·rw[List.set_eq_of_length_le (by omega)]at h;exact Or.inl h
theorem pd{t:List Int}{i:Nat}(hi:i < t.length):(bump t i).getD i 0=t.getD i 0+1:=by
 unfold bump
 rw[List.getD_eq_getElem?_getD (l:=t.set _ _),List.getElem?_set_self (by simpa using hi)]
 rfl
theorem kj{ks:List Pss}{i:Int}{p:Pss}(h:lR ks i=some p):0<=i/\i.toNat < ks.length/\ks[i.toNat]?=some p:=by
 unfold lR at h
 split at h
 ·cases h
 ·exact⟨by omega,(List.getElem?_eq_some_iff.1 h).1,h⟩
/-! ### values of one holder -/
def cr(l:List Bnd):Prop:=(l.map Prod.fst).Nodup/\∀b∈l,aG b.1=true/\0<=b.2/\b.2<=65535
theorem pz{l:List Bnd}{s:Bs}(h:valOf l s=none):s∉l.map Prod.fst:=by
 unfold valOf at h
 rw[Option.map_eq_none_iff,List.find?_eq_none]at h;intro hm;obtain⟨b,hb,rfl⟩:=List.mem_map.1 hm;exact h b hb (by simp)
theorem py(l:List Bnd)(b:Bnd)(s:Bs):valOf (l++[b]) s=(valOf l s).or (if b.1=s then some b.2 else none):=by
 unfold valOf
 rw[List.find?_append]
 cases List.find? (fun b=>decide (b.1=s)) l with
 |some c=>rfl
 |none=>by_cases e:b.1=s <;> simp[e]
theorem wq{acc acc':List Bnd}{b:Bnd}(h:put1 acc b=.ok acc')(hv:cr acc)(hb:aG b.1=true/\0<=b.2/\b.2<=65535):cr acc':=by
 unfold put1 at h
 split at h
 ·split at h
  ·injection h with h;subst h;exact hv
  ·cases h
 ·next hn =>
  injection h with h;subst h;refine⟨?_,fun c hc=>?_⟩
  ·rw[List.map_append,List.nodup_append];refine⟨hv.1,by simp,fun a ha c hc=>?_⟩;simp at hc;subst hc;exact fun e=>pz hn (e▸ha)
  ·rcases List.mem_append.1 hc with hc|hc
   ·exact hv.2 c hc
   ·simp at hc;subst hc;exact hb
theorem ye{acc acc' l:List Bnd}(hl:∀b∈l,aG b.1=true/\0<=b.2/\b.2<=65535)(hv:cr acc)(h:aF put1 acc l=.ok acc'):cr acc' :=
 dN (P:=fun _ a=>cr a) (fun _ _ x _ ht hx hf=>wq hf ht (hl x (List.mem_of_getElem? hx))) hv h
theorem mD{p:Pss}{at_:List Int}{l:List Bnd}(h:dv p at_=.ok l):p.attrs.length < at_.length/\l.length=p.attrs.length/\p.attrs.length < 6/\∀b∈l,aG b.1=true/\0<=b.2/\b.2<=65535:=by
 unfold dv at h
 split at h
 ·cases h
 ·next h1 =>
  rw[not_or]at h1
  split at h
  ·cases h
  ·next h2 =>
   injection h with h;subst h
   have a:dW p=true:=by have:=h1.1;simpa using this
   refine⟨by have:=h1.2;omega,by rw[gE],jQ a,fun b hb=>?_⟩
   unfold dR at hb
   obtain⟨i,d,rfl⟩:=List.mem_map.1 hb;have hi':=List.mem_range.1 d
   have e:badV at_ i=false:=by
    cases hbv:badV at_ i with
    |false=>rfl
    |true=>exact absurd (List.any_eq_true.2 ⟨i,d,hbv⟩) h2
   unfold badV at e
   simp only[Bool.or_eq_false_iff,decide_eq_false_iff_not]at e;refine⟨?_,by dsimp only;omega,by dsimp only;omega⟩
   have c:badA p.name p.attrs i=false:=by
    cases hba:badA p.name p.attrs i with
    |false=>rfl
    |true=>rw[lI hi' hba]at a;cases a
   unfold badA at c
   simp only[Bool.or_eq_false_iff,Bool.not_eq_false']at c;exact c.1
/-! ### the invariant of the holders -/
structure PInv (k:Nat) (is:List Iss) (j:Nat) (P:List Cz):Prop where
 nodup:(P.map Cz.num).Nodup
 pos:∀c∈P,1<=c.num
 tl:∀c∈P,c.tick.length=k/\∀t∈c.tick,0<=t/\t<=4096
 sum:(P.map fun c=>c.tick.sum).sum=j
 src:∀c∈P,∃x∈is,x.attrs.head?=some c.num
 vals:∀c∈P,cr c.vals
 len:P.length<=64
theorem PInv.nil_(k:Nat)(is:List Iss):PInv k is 0 []:=⟨by simp,by simp,by simp,by simp,by simp,by simp,by simp⟩
theorem qZ:∀k:Nat,(List.replicate k (0:Int)).sum=0
 |0=>rfl
 |k+1=>by rw[List.replicate_succ,List.sum_cons,qZ k];rfl
theorem oP{k:Nat}{is:List Iss}{j:Nat}{P:List Cz}(h:PInv k is j P)(n:Int):(czOf k P n).tick.length=k/\(∀t∈(czOf k P n).tick,0<=t/\t<=4096)/\cr (czOf k P n).vals/\(match findC P n with|some d=>d.tick.sum|none=>0)=(czOf k P n).tick.sum:=by
 unfold czOf
 cases hf:findC P n with
 |some c =>
  have hc:=(ce hf).1;exact⟨(h.tl c hc).1,(h.tl c hc).2,h.vals c hc,rfl⟩
 |none =>
  refine⟨by simp,fun t ht=>?_,⟨by simp,by simp⟩,?_⟩
  ·have:=(List.mem_replicate.1 ht).2;omega
  ·show(0:Int)=(List.replicate k (0:Int)).sum
   exact(qZ k).symm
theorem vK{ks:List Pss}{is:List Iss}{j:Nat}{P P':List Cz}{x:Iss}(h:PInv ks.length is j P)(hx:is[j]?=some x)(ha:addB ks P x=.ok P'):PInv ks.length is (j+1) P':=by
 unfold addB at ha
 split at ha
 ·cases ha
 ·next p hk =>
  obtain⟨B,A,_⟩:=kj hk
  split at ha
  ·cases ha
  ·next l hl =>
   obtain⟨k,z,y,q⟩:=mD hl
   unfold addN at ha
   split at ha
   ·cases ha
   ·next hp =>
    split at ha
    ·cases ha
    ·next vs hvs =>
     split at ha
     ·cases ha
     ·next hfull =>
      rw[not_or]at hfull;injection ha with ha;obtain⟨n,e⟩:∃n,x.attrs.headD 0=n:=⟨_,rfl⟩
      have g:x.attrs.head?=some n:=by
       cases hat:x.attrs with
       |nil=>rw[hat]at k;simp at k
       |cons a t=>rw[hat]at e;simp at e;subst e;rfl
      rw[e]at ha hvs hfull hp;obtain⟨w,o,v,u⟩:=oP h n;obtain⟨c,f⟩:∃c,oO ks.length P n vs x.key.toNat=c:=⟨_,rfl⟩
      have m:c.num=n:=by rw[<-f];rfl
      have s:c.vals=vs:=by rw[<-f];rfl
      have i:c.tick=bump (czOf ks.length P n).tick x.key.toNat:=by rw[<-f];rfl
      rw[f]at ha hfull;subst ha
      have r:cr c.vals:=by rw[s];exact ye q v hvs
      refine⟨lK h.nodup c,fun d hd=>?_,fun d hd=>?_,?_,fun d hd=>?_,fun d hd=>?_,by omega⟩
      ·rcases mem_setC.1 hd with⟨b,_⟩|rfl
       ·exact h.pos d b
       ·omega
      ·rcases mem_setC.1 hd with⟨b,_⟩|rfl
       ·exact h.tl d b
       ·refine⟨by rw[i,oZ,w],fun t ht=>?_⟩;rw[i]at ht hfull
        rcases bump_mem ht with b|b
        ·exact o t b
        ·rw[b];refine⟨?_,by omega⟩;rw[pd (by omega)]
         have:0<=(czOf ks.length P n).tick.getD x.key.toNat 0:=by
          rw[List.getD_eq_getElem?_getD,List.getElem?_eq_getElem (by omega)];exact(o _ (List.getElem_mem _)).1
         omega
      ·rw[tV h.nodup c fun c=>c.tick.sum,m,u,h.sum,i,oY _ _ (by omega)];omega
      ·rcases mem_setC.1 hd with⟨b,_⟩|rfl
       ·exact h.src d b
       ·exact⟨x,List.mem_of_getElem? hx,by rw[g,m]⟩
      ·rcases mem_setC.1 hd with⟨b,_⟩|rfl
       ·exact h.vals d b
       ·exact r
theorem bX{ks:List Pss}{is:List Iss}{P:List Cz}(h:aF (addB ks) [] is=.ok P):PInv ks.length is is.length P :=
 dN (P:=fun j P=>PInv ks.length is j P) (fun _ _ _ _ h hx hf=>vK h hx hf) (PInv.nil_ _ _) h
/-! ### the members -/
theorem bi(P:List Cz):(aL P).Perm (P.map Cz.num):=List.mergeSort_perm _ _
theorem oh(P:List Cz):(aL P).Pairwise (·<=·):=by
 have:=List.pairwise_mergeSort (le:=fun a b:Int=>decide (a<=b)) (fun a b c h1 h2=>by simp only[decide_eq_true_eq]at *;omega) (fun a b=>by simp only[Bool.or_eq_true,decide_eq_true_eq];omega) (P.map Cz.num)
 exact this.imp fun h=>by simpa using h
theorem uL{P:List Cz}(hn:(P.map Cz.num).Nodup):(aL P).Pairwise (· < ·):=by
 have h1:(aL P).Nodup:=(bi P).nodup_iff.2 hn
 exact(List.Pairwise.and (oh P) h1).imp fun⟨a,b⟩=>by omega
theorem aZ(l:List Bnd):(aS l).Perm l:=List.mergeSort_perm _ _
theorem mw(l:List Bnd):(aS l).Pairwise fun a b=>a.1<=b.1:=by
 have:=List.pairwise_mergeSort (le:=fun a b:Bnd=>decide (a.1<=b.1)) (fun a b c h1 h2=>by simp only[decide_eq_true_eq]at *;exact List.le_trans h1 h2) (fun a b=>by simp only[Bool.or_eq_true,decide_eq_true_eq];exact List.le_total _ _) l
 exact this.imp fun h=>by simpa using h
theorem kQ{l m:List Bnd}(hn:(l.map Prod.fst).Nodup)(hp:m.Perm l)(hm:m.Pairwise fun a b=>a.1<=b.1):m=aS l:=by
 refine fT (le:=fun a b:Bnd=>a.1<=b.1) (fun a ha b hb h1 h2=>?_) (hp.trans (aZ l).symm) hm (mw l);have e:=List.le_antisymm h1 h2;have ha':=hp.mem_iff.1 ha;have hb':=hp.mem_iff.1 hb;clear ha hb hm hp h1 h2
 induction l with
 |nil=>cases ha'
 |cons c l ih =>
  rw[List.map_cons,List.nodup_cons]at hn
  rcases List.mem_cons.1 ha' with h|h
  ·rcases List.mem_cons.1 hb' with k|k
   ·rw[h,k]
   ·exact absurd (List.mem_map.2 ⟨b,k,by rw[<-e,h]⟩) hn.1
  ·rcases List.mem_cons.1 hb' with k|k
   ·exact absurd (List.mem_map.2 ⟨a,h,by rw[e,k]⟩) hn.1
   ·exact ih hn.2 h k
theorem sE{P:List Cz}{m:List Int}(hp:m.Perm (P.map Cz.num))(hm:m.Pairwise (·<=·)):m=aL P :=
 fT (le:=fun a b:Int=>a<=b) (fun a _ b _ h1 h2=>by omega) (hp.trans (bi P).symm) hm (oh P)
theorem ph{l:List Bnd}(h:cr l):db (aS l)=true:=by
 have hp:=aZ l;have hn:((aS l).map Prod.fst).Nodup:=(hp.map Prod.fst).nodup_iff.2 h.1;refine jj fun i hi=>?_
 unfold badN
 rw[List.getElem?_eq_getElem hi];obtain⟨b1,b2,b3⟩:=h.2 _ (hp.mem_iff.1 (List.getElem_mem hi));simp only[Bool.or_eq_false_iff,decide_eq_false_iff_not];refine⟨⟨⟨fun hm=>?_,by rw[b1];rfl⟩,by omega⟩,by omega⟩;obtain⟨b,hb,e⟩:=List.mem_map.1 hm;obtain⟨j,hj,e2⟩:=List.mem_take_iff_getElem.1 hb;have hne:=(List.pairwise_iff_getElem.1 hn) j i (by simp;omega) (by simpa using hi) (by omega);rw[List.getElem_map,List.getElem_map]at hne;exact hne (by rw[e2];exact e)
theorem fG(x:Int):∀(l:List Int) (i:Nat),-1<=Lib.idxFrom l x i/\Lib.idxFrom l x i < (i:Int)+l.length+(if l=[]then 1 else 0)
 | [],i=>by simp[Lib.idxFrom];omega
 |z::l,i=>by
  rw[Lib.idxFrom]
  split
  ·simp;omega
  ·have:=fG x l (i+1);simp only[List.length_cons,reduceCtorEq,if_false];refine⟨this.1,?_⟩
   by_cases e:l=[]
   ·subst e;simp[Lib.idxFrom];omega
   ·rw[if_neg e]at this;have:=this.2
    push_cast at this ⊢
    omega
theorem fc(l:List Int)(x:Int):-1<=Lib.idxOf l x/\Lib.idxOf l x < l.length:=by
 have:=fG x l 0
 unfold Lib.idxOf
 refine⟨this.1,?_⟩
 by_cases e:l=[]
 ·subst e;simp[Lib.idxFrom]
 ·rw[if_neg e]at this;have:=this.2
  push_cast at this
  omega
/-! ### the invariant of the sights -/
structure SInv (nk nl nn j:Nat) (c:List Pd × List Sn):Prop where
 len:c.2.length=j
 few:c.1.length<=128/\c.2.length<=4096
 diff:c.1.Pairwise (·≠·)
 valid:∀p∈c.1,aP p=true
 uses:∀x∈c.2,(0<=x.q/\x.q < c.1.length)/\(0<=x.win/\x.win < nk)/\(0<=x.asof/\x.asof<=nl)/\(-1<=x.hold/\x.hold < nn)
theorem SInv.nil_(nk nl nn:Nat):SInv nk nl nn 0 ([],[]):=⟨rfl,by simp,by simp,by simp,by simp⟩
theorem rQ{log rev:List Int}(h:¬fq log rev=true):rev.length<=log.length:=by
 unfold fq at h
 simp only[Bool.or_eq_true,decide_eq_true_eq,not_or]at h;omega
theorem pI{ks:List Pss}{log nums:List Int}{j:Nat}{c c':List Pd × List Sn}{x:Sgt}(h:SInv ks.length log.length nums.length j c)(hs:sightB ks log nums c x=.ok c')
  (hp:∀p,predF x.q x.most=.ok p->aP p=true):SInv ks.length log.length nums.length (j+1) c':=by
 unfold sightB at hs
 split at hs
 ·cases hs
 ·next p hpf =>
  have n:=hp p hpf
  split at hs
  ·cases hs
  ·split at hs
   ·cases hs
   ·split at hs
    ·cases hs
    ·next key hk =>
     have r:key < ks.length:=(List.findIdx?_eq_some_iff_getElem.1 hk).1
     split at hs
     ·cases hs
     ·next hst =>
      have o:=rQ hst
      split at hs
      ·cases hs
      ·split at hs
       ·cases hs
       ·next hfull =>
        obtain⟨k,g⟩:=fc nums x.holder
        split at hs
        ·next i hi =>
         have s:i < c.1.length:=(List.findIdx?_eq_some_iff_getElem.1 hi).1;injection hs with hs;subst hs;refine⟨by simp[h.len],⟨h.few.1,by simp;omega⟩,h.diff,h.valid,fun y d=>?_⟩
         rcases List.mem_append.1 d with d|d
         ·exact h.uses y d
         ·simp at d;subst d;exact⟨⟨by dsimp only;omega,by dsimp only;omega⟩,⟨by dsimp only;omega,by dsimp only;omega⟩,⟨by dsimp only;omega,by dsimp only;omega⟩,k,g⟩
        ·next hi =>
         split at hs
         ·cases hs
         ·next h128 =>
          injection hs with hs;subst hs;refine⟨by simp[h.len],⟨by simp;omega,by simp;omega⟩,?_,fun q f=>?_,fun y d=>?_⟩
          ·rw[List.pairwise_append];refine⟨h.diff,by simp,fun a ha b hb e=>?_⟩;simp at hb;subst hb;have:=(List.findIdx?_eq_none_iff.1 hi) a ha;rw[(eF b a).2 e.symm]at this
           cases this
          ·rcases List.mem_append.1 f with f|f
           ·exact h.valid q f
           ·simp at f;subst f;exact n
          ·dsimp only at d ⊢
           rw[List.length_append,List.length_singleton]
           rcases List.mem_append.1 d with d|d
           ·obtain⟨⟨m,t⟩,l⟩:=h.uses y d;exact⟨⟨m,by push_cast;omega⟩,l⟩
           ·simp at d;subst d;exact⟨⟨by dsimp only;omega,by dsimp only;push_cast;omega⟩,⟨by dsimp only;omega,by dsimp only;omega⟩,⟨by dsimp only;omega,by dsimp only;omega⟩,k,g⟩
theorem sX{ks:List Pss}(h:dI ks=true):ks.length<=16:=by
 unfold dI at h
 simp only[Bool.and_eq_true,decide_eq_true_eq]at h;exact h.1.2
theorem uR{l:List Int}(h:logB l=true):l.length<=16:=by
 unfold logB at h
 simp only[Bool.and_eq_true,decide_eq_true_eq]at h;exact h.2
theorem nS{q:Bs}{most:Int}(hex:∃r,aU q most r):∀p,predF q most=.ok p->aP p=true:=by
 obtain⟨r,hr⟩:=hex;intro p hp;rw[hr.eq]at hp;subst hp;exact hr.valid
/-- what InquiryCounts says -/
structure Counts (ks:List Pss) (is:List Iss) (ss:List Sgt) (c:Crw) (ns:List Int):Prop where
 uses:c.us.length=ss.length
 nums:ns.length=c.ms.length
 asc:ns.Pairwise (· < ·)
 tl:∀m∈c.ms,m.tickets.length=ks.length
 src:∀n∈ns,∃x∈is,x.attrs.head?=some n
 sum:(c.ms.map fun m=>m.tickets.sum).sum=is.length
 diff:c.qs.Pairwise (·≠·)
 valid:cX c=true
theorem iu{α:Type}{f:α->Bool}{l:List α}(h:∀x∈l,f x=false):l.any f=false:=List.any_eq_false.2 fun x hx=>by rw[h x hx];simp
theorem qI{ks:List Pss}{log:List Int}{is:List Iss}{ss:List Sgt}{c:Crw}{ns:List Int}(hex:∀x∈ss,∃r,aU x.q x.most r)(h:accountB ks log is ss=.ok (c,ns)):Counts ks is ss c ns:=by
 unfold accountB at h
 split at h
 ·cases h
 ·next h0 =>
  rw[not_or]at h0;have F:=sX (ks:=ks) (by have:=h0.1;simpa using this);have E:=uR (l:=log) (by have:=h0.2;simpa using this)
  split at h
  ·cases h
  ·next P hP =>
   have b:=bX hP
   split at h
   ·cases h
   ·next q u hS =>
    injection h with h;injection h with k i;subst k;subst i;have g:SInv ks.length log.length (aL P).length ss.length (q,u):=dN (P:=fun j c=>SInv ks.length log.length (aL P).length j c) (fun j t x u ht hx hf=>pI ht hf (nS (hex x (List.mem_of_getElem? hx)))) (SInv.nil_ _ _ _) hS
    have D:(aL P).length=P.length:=by rw[(bi P).length_eq,List.length_map]
    have s:(membersB log P).length=(aL P).length:=by unfold membersB;rw[List.length_map]
    have e:∀c∈P,czOf 0 P c.num=c:=fun c a=>by unfold czOf;rw[eO b.nodup a];rfl
    have d:∀m∈membersB log P,∃c∈P,m=dZ log P c.num:=fun m hm=>by
     unfold membersB at hm
     obtain⟨n,o,rfl⟩:=List.mem_map.1 hm;obtain⟨c,a,rfl⟩:=List.mem_map.1 ((bi P).mem_iff.1 o);exact⟨c,a,rfl⟩
    refine⟨g.len,s.symm,uL b.nodup,fun m hm=>?_,fun n o=>?_,?_,g.diff,?_⟩
    ·obtain⟨c,a,rfl⟩:=d m hm
     unfold dZ
     rw[e c a];exact(b.tl c a).1
    ·obtain⟨c,a,rfl⟩:=List.mem_map.1 ((bi P).mem_iff.1 o);exact b.src c a
    ·show((membersB log P).map fun m=>m.tickets.sum).sum=_
     rw[<-b.sum]
     unfold membersB
     rw[List.map_map,nG ((bi P).map _),List.map_map]
     congr 1
     refine List.map_congr_left fun c a=>?_
     show(dZ log P c.num).tickets.sum=_
     unfold dZ
     rw[e c a]
    ·unfold cX
     dsimp only
     have J:(membersB log P).any (fun m=>!memB m)=false:=iu fun m hm=>by
      obtain⟨c,a,rfl⟩:=d m hm
      unfold dZ
      rw[e c a]
      unfold memB
      dsimp only
      obtain⟨G,Q⟩:=fc log c.num
      rw[ph (b.vals c a),iu (f:=oddB) (fun t ht=>by
       obtain⟨C,B⟩:=(b.tl c a).2 t ht
       unfold oddB aV
       rw[decide_eq_true C,decide_eq_true B];rfl)]
      unfold aV
      rw[decide_eq_true (by rw[(b.tl c a).1];exact F),decide_eq_true G,decide_eq_true (by omega)]
      rfl
     have I:u.any (fun x=>!useB q.length (membersB log P).length x)=false:=iu fun x hx=>by
      obtain⟨⟨A,z⟩,⟨y,N⟩,⟨w,M⟩,v,L⟩:=g.uses x hx
      dsimp only at z
      unfold useB aV
      rw[decide_eq_true A,decide_eq_true (by omega),decide_eq_true y,decide_eq_true (by omega),decide_eq_true w,decide_eq_true (by omega),decide_eq_true v,decide_eq_true (by omega)]
      rfl
     rw[iu (f:=fun p=>!aP p) (fun p hp=>by rw[g.valid p hp];rfl),J,I];have k:=g.few.1;have i:=g.few.2;have O:=b.len
     dsimp only at k i
     simp only[Bool.and_eq_true,decide_eq_true_eq,Bool.not_false,and_true];exact⟨⟨k,by omega⟩,i⟩
open Go.Proofs.Tryz
open Lib(hid)
theorem vj{w:World}{v1 v2:Value}{l1 l2:List Pd}(h1:aj PdR 5 w v1 l1)(h2:aj PdR 5 w v2 l2)
  (hq:∀p∈l1,∀q∈l2,∀cs ds w',Kept [] w w'->PdR w' cs p->PdR w' ds q->Calls prog 141 #[.agg cs.toArray,.agg ds.toArray] w' fun e w2=>e=.returned (.bool (cC p q))/\Kept [] w' w2) :
  Calls prog 185 #[v1,v2,.func (.func 141) #[] #[]] w fun e w'=>e=.returned (.bool (eG l1 l2))/\Kept [] w w':=by
 obtain⟨a1,c1,rfl,a4,_⟩:=h1.form;obtain⟨a2,c2,rfl,_,_⟩:=h2.form;obtain⟨R,C⟩:∃R,eG l1 l2=R:=⟨_,rfl⟩;obtain⟨n,O⟩:∃n,l1.length=n:=⟨_,rfl⟩;obtain⟨m,hm⟩:∃n,l2.length=n:=⟨_,rfl⟩
 have G1:l1≠l2->R=false:=fun h=>by
  rw[<-C]
  cases hs:eG l1 l2 with
  |false=>rfl
  |true=>exact absurd ((dL l1 l2).1 hs) h
 have G2:l1=l2->R=true:=fun h=>by rw[<-C];exact(dL l1 l2).2 h
 rw[C,O,hm];rw[O]at a4;rw[O]at h1;rw[hm]at h2;have H1:=hid h1;have H2:=hid h2;have X:=hid O;have Y:=hid hm;have HQ:=hid hq;have G1:=hid G1;have G2:=hid G2;clear C O hm h1 h2 hq
 by_cases hnm:n=m
 ·subst hnm
  have a3:((n:Int) != (n:Int))=false:=by simp
  go_enter func185,ntmps185
  go_wp2_with fail
  go_loopw [17] (fun v wr=>∃j:Nat,j<=n/\v=.int .i64 j/\Kept [] w wr/\l1.take j=l2.take j) (fun v _=>n - (intOf v).toNat)
  case atStart=>exact⟨0,Nat.zero_le _,rfl,Kept.refl _ _,by simp⟩
  case round =>
   obtain⟨j,hj,rfl,d,M⟩:=hrel;have D:=hid d;have V:=hid M;clear M
   by_cases hlt:j < n
   ·have hlt':(j:Int) < (n:Int):=by omega
    obtain⟨U,I,rfl,k1⟩:=(H1.out.kept (fun c a C=>PdR.kept d C) d).at_ (by have:=X.out;omega);obtain⟨T,G,rfl,k2⟩:=(H2.out.kept (fun c a C=>PdR.kept d C) d).at_ (by have:=Y.out;omega);obtain⟨p,B⟩:∃a,l1[j]?=some a:=⟨_,List.getElem?_eq_getElem (by have:=X.out;omega)⟩;obtain⟨q,hq⟩:∃a,l2[j]?=some a:=⟨_,List.getElem?_eq_getElem (by have:=Y.out;omega)⟩;obtain⟨cs,p1,p2,F⟩:=k1 j p B;obtain⟨ds,q1,q2,E⟩:=k2 j q hq
    have L:l1.take (j+1)=l1.take j++[p]:=by rw[List.take_succ_eq_append_getElem (by have:=X.out;omega),(List.getElem?_eq_some_iff.1 B).2]
    have J:l2.take (j+1)=l2.take j++[q]:=by rw[List.take_succ_eq_append_getElem (by have:=Y.out;omega),(List.getElem?_eq_some_iff.1 hq).2]
    have HC:=hid (fun w' (k:Kept [] wr w')=>HQ.out p (List.mem_of_getElem? B) q (List.mem_of_getElem? hq) cs ds w' (d.trans k) (PdR.kept k p2) (PdR.kept k q2));obtain⟨r,N⟩:∃r,cC p q=r:=⟨_,rfl⟩;rw[N]at HC
    have a7:Hid (r=true->l1.take (j+1)=l2.take (j+1)):=hid fun h=>by
     subst h;rw[L,J,V.out,(eF p q).1 N]
    have a9:Hid (r=false->l1≠l2):=hid fun h e=>by
     subst h;rw[e,hq]at B;injection B with B;rw[(eF p q).2 B.symm]at N
     cases N
    clear k1 k2 B hq L J N p1 q1;obtain⟨pk,pl,pr,pc,t⟩:=p;obtain⟨pa,u,rfl,_⟩:=p2.rows;obtain⟨qk,ql,qr,qc,o⟩:=q;obtain⟨qa,s,rfl,_⟩:=q2.rows;have y0:wr.cell? ⟨U,I+j*5,none⟩=some (.int .i64 pk):=F 0 _ (by decide) rfl;have y1:wr.cell? ⟨U,I+j*5+1,none⟩=some (.string ⟨pl.toArray⟩):=F 1 _ (by decide) rfl;have y2:wr.cell? ⟨U,I+j*5+2,none⟩=some (.string ⟨pr.toArray⟩):=F 2 _ (by decide) rfl;have y3:wr.cell? ⟨U,I+j*5+3,none⟩=some (.int .i64 pc):=F 3 _ (by decide) rfl;have y4:wr.cell? ⟨U,I+j*5+4,none⟩=some (.slice pa t.length u):=F 4 _ (by decide) rfl;obtain⟨l,z⟩:∃x,wr.alloc (.cells #[.int .i64 pk,.string ⟨pl.toArray⟩,.string ⟨pr.toArray⟩,.int .i64 pc,.slice pa t.length u] 46)=x:=⟨_,rfl⟩;have A:Kept [] wr l:=z▸(Kept.refl _ _).alloc _;have Q:Blk l wr.heap.size 46 #[.int .i64 pk,.string ⟨pl.toArray⟩,.string ⟨pr.toArray⟩,.int .i64 pc,.slice pa t.length u]:=z▸Blk.new _ _ _;have z0:l.cell? ⟨T,G+j*5,none⟩=some (.int .i64 qk):=Kept.cellOf (E 0 _ (by decide) rfl) _ A;have z1:l.cell? ⟨T,G+j*5+1,none⟩=some (.string ⟨ql.toArray⟩):=Kept.cellOf (E 1 _ (by decide) rfl) _ A;have z2:l.cell? ⟨T,G+j*5+2,none⟩=some (.string ⟨qr.toArray⟩):=Kept.cellOf (E 2 _ (by decide) rfl) _ A;have z3:l.cell? ⟨T,G+j*5+3,none⟩=some (.int .i64 qc):=Kept.cellOf (E 3 _ (by decide) rfl) _ A;have z4:l.cell? ⟨T,G+j*5+4,none⟩=some (.slice qa o.length s):=Kept.cellOf (E 4 _ (by decide) rfl) _ A;obtain⟨g,hg⟩:∃g,l.heap.size=g:=⟨_,rfl⟩;obtain⟨f,y⟩:∃x,l.alloc (.cells #[.int .i64 qk,.string ⟨ql.toArray⟩,.string ⟨qr.toArray⟩,.int .i64 qc,.slice qa o.length s] 46)=x:=⟨_,rfl⟩
    have kB:Kept [] l f:=y▸(Kept.refl _ _).alloc _;have i:Blk f g 46 #[.int .i64 qk,.string ⟨ql.toArray⟩,.string ⟨qr.toArray⟩,.int .i64 qc,.slice qa o.length s]:=hg▸y▸Blk.new _ _ _;have b:=Q.kept kB (by simp);have x0:f.cell? ⟨wr.heap.size,0,none⟩=some (.int .i64 pk):=b.cell 0;have x1:f.cell? ⟨wr.heap.size,1,none⟩=some (.string ⟨pl.toArray⟩):=b.cell 1;have x2:f.cell? ⟨wr.heap.size,2,none⟩=some (.string ⟨pr.toArray⟩):=b.cell 2;have x3:f.cell? ⟨wr.heap.size,3,none⟩=some (.int .i64 pc):=b.cell 3;have x4:f.cell? ⟨wr.heap.size,4,none⟩=some (.slice pa t.length u):=b.cell 4;have u0:f.cell? ⟨g,0,none⟩=some (.int .i64 qk):=i.cell 0;have u1:f.cell? ⟨g,1,none⟩=some (.string ⟨ql.toArray⟩):=i.cell 1;have u2:f.cell? ⟨g,2,none⟩=some (.string ⟨qr.toArray⟩):=i.cell 2;have u3:f.cell? ⟨g,3,none⟩=some (.int .i64 qc):=i.cell 3;have u4:f.cell? ⟨g,4,none⟩=some (.slice qa o.length s):=i.cell 4;have a0:=hid (HC.out f (A.trans kB));have a6:=hid z;have a5:=hid y;have HG:=hid hg;have Z:=hid (A.trans kB);clear p2 q2 F E z y A kB Q i b hg HC d;go_upto_region 6 with(fail);have hwA':=a6.out;rw[hwA'];clear hwA' y0 y1 y2 y3 y4;go_upto_region 7 with(fail);rw[HG.out];have hwB':=a5.out;rw[hwB'];clear hwB' z0 z1 z2 z3 z4
    cases r
    ·go_wp2_with (go_at_call 141;refine a0.out.mono ?_;rintro e w5 ⟨rfl,k5⟩);go_ret;exact⟨by rw[G1.out (a9.out (by first|rfl|trivial))];rfl,(D.out.trans Z.out).trans k5⟩
    ·go_wp2_with (go_at_call 141;refine a0.out.mono ?_;rintro e w5 ⟨rfl,k5⟩)
     go_roundw
     case rel=>exact⟨j+1,by omega,by go_num,(D.out.trans Z.out).trans k5,a7.out (by first|rfl|trivial)⟩
     case measure=>simp[intOf];omega
   ·obtain rfl:j=n:=by omega
    go_wp2_with fail;go_ret;have h1:=V.out;rw[List.take_of_length_le (by have:=X.out;omega),List.take_of_length_le (by have:=Y.out;omega)]at h1;exact⟨by rw[G2.out h1];rfl,D.out⟩
 ·have a3:((n:Int) != (m:Int))=true:=by simp;omega
  have P:l1≠l2:=fun e=>hnm (by rw[<-X.out,<-Y.out,e]);have a8:=hid P;clear hnm P
  go_enter func185,ntmps185
  go_wp2_with fail;go_ret;exact⟨by rw[G1.out a8.out];rfl,Kept.refl _ _⟩
theorem mH:∀(m:Nat) (p q:Pd) (cs ds:List Value) (w:World),sizeB p<=m->PdR w cs p->PdR w ds q ->
  Calls prog 141 #[.agg cs.toArray,.agg ds.toArray] w fun e w'=>e=.returned (.bool (cC p q))/\Kept [] w w':=by
 intro m
 induction m with
 |zero=>intro p q cs ds w R;cases p;rw[sizeB]at R;omega
 |succ m ih =>
  rintro⟨E,D,C,F,j⟩ ⟨A,z,y,B,i⟩ cs ds w R Q Y;obtain⟨P,u,rfl,J⟩:=Q.rows;obtain⟨O,t,rfl,G⟩:=Y.rows;rw[sizeB]at R;rw[cC];obtain⟨v,f⟩:∃x,w.alloc (.cells #[.int .i64 E,.string ⟨D.toArray⟩,.string ⟨C.toArray⟩,.int .i64 F,.slice P j.length u] 46)=x:=⟨_,rfl⟩;have V:Kept [] w v:=f▸(Kept.refl _ _).alloc _;have M:Blk v w.heap.size 46 #[.int .i64 E,.string ⟨D.toArray⟩,.string ⟨C.toArray⟩,.int .i64 F,.slice P j.length u]:=f▸Blk.new _ _ _
  have Z:v.heap.size=w.heap.size+1:=by rw[<-f];simp
  obtain⟨h,k⟩:∃x,v.alloc (.cells #[.int .i64 A,.string ⟨z.toArray⟩,.string ⟨y.toArray⟩,.int .i64 B,.slice O i.length t] 46)=x:=⟨_,rfl⟩;have T:Kept [] v h:=k▸(Kept.refl _ _).alloc _;have g:Blk h (w.heap.size+1) 46 #[.int .i64 A,.string ⟨z.toArray⟩,.string ⟨y.toArray⟩,.int .i64 B,.slice O i.length t]:=Z▸k▸Blk.new _ _ _;have b:=M.kept T (by simp);have x0:h.cell? ⟨w.heap.size,0,none⟩=some (.int .i64 E):=b.cell 0;have x1:h.cell? ⟨w.heap.size,1,none⟩=some (.string ⟨D.toArray⟩):=b.cell 1;have x2:h.cell? ⟨w.heap.size,2,none⟩=some (.string ⟨C.toArray⟩):=b.cell 2;have x3:h.cell? ⟨w.heap.size,3,none⟩=some (.int .i64 F):=b.cell 3;have x4:h.cell? ⟨w.heap.size,4,none⟩=some (.slice P j.length u):=b.cell 4;have u0:h.cell? ⟨w.heap.size+1,0,none⟩=some (.int .i64 A):=g.cell 0;have u1:h.cell? ⟨w.heap.size+1,1,none⟩=some (.string ⟨z.toArray⟩):=g.cell 1;have u2:h.cell? ⟨w.heap.size+1,2,none⟩=some (.string ⟨y.toArray⟩):=g.cell 2;have u3:h.cell? ⟨w.heap.size+1,3,none⟩=some (.int .i64 B):=g.cell 3;have u4:h.cell? ⟨w.heap.size+1,4,none⟩=some (.slice O i.length t):=g.cell 4;have d:=V.trans T;have l:=vj (J.kept (fun c a hR=>PdR.kept d hR) d) (G.kept (fun c a hR=>PdR.kept d hR) d) (fun p Q q _ cs ds w' _ h1 h2=>ih p q cs ds w' (by have:=bh Q;omega) h1 h2);obtain⟨r,X⟩:∃r,eG j i=r:=⟨_,rfl⟩;rw[X]at l ⊢;obtain⟨pn,L⟩:∃n,j.length=n:=⟨_,rfl⟩;obtain⟨qn,I⟩:∃n,i.length=n:=⟨_,rfl⟩
  rw[L]at l x4 f ⊢;rw[I]at l u4 k ⊢;have U:=hid l;have s:=hid f;have o:=hid k;have N:=hid d;clear l f k V T d M g b Z X L I J G Q Y ih R
  show Calls _ _ #[.agg #[.int .i64 E,.string ⟨D.toArray⟩,.string ⟨C.toArray⟩,.int .i64 F,.slice P pn u],.agg #[.int .i64 A,.string ⟨z.toArray⟩,.string ⟨y.toArray⟩,.int .i64 B,.slice O qn t]] _ _
  by_cases n1:E=A
  ·subst n1
   by_cases n2:D=z
   ·subst n2
    by_cases n3:C=y
    ·subst n3
     by_cases n4:F=B
     ·subst n4
      go_enter func141,ntmps141
      go_upto_region 1 with(fail);have hwA':=s.out;rw[hwA'];have hwB':=o.out;rw[hwB'];clear hwA' hwB';go_wp2_with (go_at_call 185;refine U.out.mono ?_;rintro e w5 ⟨rfl,k5⟩);go_ret;exact⟨by simp,N.out.trans k5⟩
     ·skip
      go_enter func141,ntmps141
      go_upto_region 1 with(fail);have hwA':=s.out;rw[hwA'];have hwB':=o.out;rw[hwB'];clear hwA' hwB';go_wp2_with fail;go_ret;exact⟨by simp[n4],N.out⟩
    ·skip
     go_enter func141,ntmps141
     go_upto_region 1 with(fail);have hwA':=s.out;rw[hwA'];have hwB':=o.out;rw[hwB'];clear hwA' hwB';go_wp2_with fail;go_ret;exact⟨by simp[n3],N.out⟩
   ·skip
    go_enter func141,ntmps141
    go_upto_region 1 with(fail);have hwA':=s.out;rw[hwA'];have hwB':=o.out;rw[hwB'];clear hwA' hwB';go_wp2_with fail;go_ret;exact⟨by simp[n2],N.out⟩
  ·skip
   go_enter func141,ntmps141
   go_upto_region 1 with(fail);have hwA':=s.out;rw[hwA'];have hwB':=o.out;rw[hwB'];clear hwA' hwB';go_wp2_with fail;go_ret;exact⟨by simp[n1],N.out⟩
end Go.Proofs.YtpcmamoomaddoaaGreatDoor
