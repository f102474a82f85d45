/- The account of what was seen, as a plain function: holders, members, questions, uses. -/
import Derived.Test.YtpcmamoomaddoaaGreatDoorAcp
import Derived.Test.YtpcmamoomaddoaaGreatDoorEql
import Derived.Test.YtpcmamoomaddoaaGreatDoorSiz
import Derived.Test.YtpcmamoomaddoaaGreatDoorPrd
namespace Go.Proofs.YtpcmamoomaddoaaGreatDoor
open Go.RowKit
/-! ### the predicate of a sight is one alone -/
theorem names_uniq {A:List K3} {n m:List Bs} (h:NamesOf A n) (k:NamesOf A m):n=m:=by
 obtain ⟨h1,h2,h3⟩:=h;obtain ⟨k1,k2,k3⟩:=k;exact sort_uniq (fun a _ b _=>List.le_antisymm) ((List.perm_ext_iff_of_nodup h1 k1).2 fun s=>(h3 s).trans (k3 s).symm) h2 k2
theorem PredOf.uniq {q:Bs} {most:Int} {r r':Except Int Pd} (h:PredOf q most r) (k:PredOf q most r'):r=r':=by
 unfold PredOf at h k
 split at h
 ·next h1=>rw [if_pos h1] at k;rw [h,k]
 ·next h1 =>
  rw [if_neg h1] at k
  split at h
  ·next h2=>rw [if_pos h2] at k;rw [h,k]
  ·next h2 =>
   rw [if_neg h2] at k;obtain ⟨n,h3,rfl⟩:=h;obtain ⟨m,k3,rfl⟩:=k;rw [names_uniq h3 k3]
open Classical in
noncomputable def predF (q:Bs) (most:Int):Except Int Pd:=if h:∃ r,PredOf q most r then Classical.choose h else .error 0
theorem PredOf.eq {q:Bs} {most:Int} {r:Except Int Pd} (h:PredOf q most r):predF q most=r:=by
 unfold predF
 rw [dif_pos ⟨r,h⟩];exact (Classical.choose_spec (⟨r,h⟩:∃ r,PredOf q most r)).uniq h
/-! ### the holders -/
structure Iss where
 key:Int
 attrs:List Int
structure Cz where
 num:Int
 vals:List Bnd
 tick:List Int
def valOf (l:List Bnd) (s:Bs):Option Int:=(l.find? fun b=>decide (b.1=s)).map Prod.snd
def put1 (acc:List Bnd) (b:Bnd):Except Int (List Bnd) :=
 match valOf acc b.1 with
 | some v=>if v=b.2 then .ok acc else .error 20
 | none=>.ok (acc++[b])
def findC (P:List Cz) (n:Int):Option Cz:=P.find? fun c=>decide (c.num=n)
def setC (P:List Cz) (c:Cz):List Cz:=P.filter (fun d=>decide (d.num≠c.num))++[c]
def czOf (k:Nat) (P:List Cz) (n:Int):Cz:=(findC P n).getD ⟨n,[],List.replicate k 0⟩
def bump (t:List Int) (i:Nat):List Int:=t.set i (t.getD i 0+1)
def keyAt (ks:List Pss) (i:Int):Option Pss:=if i < 0 then none else ks[i.toNat]?
/-- the holder behind an issuing of values l -/
def czPut (k:Nat) (P:List Cz) (n:Int) (vs:List Bnd) (i:Nat):Cz:=⟨n,vs,bump (czOf k P n).tick i⟩
/-- the issuing with values l of the holder n, for the key i -/
def addN (k:Nat) (P:List Cz) (i:Nat) (n:Int) (l:List Bnd):Except Int (List Cz) :=
 if n < 1 then .error 1 else
 match foldE put1 (czOf k P n).vals l with
 | .error c=>.error c
 | .ok vs=>if 64 < (setC P (czPut k P n vs i)).length∨4096 < (czPut k P n vs i).tick.getD i 0 then .error 6 else .ok (setC P (czPut k P n vs i))
def addB (ks:List Pss) (P:List Cz) (x:Iss):Except Int (List Cz) :=
 match keyAt ks x.key with
 | none=>.error 1
 | some p=>match valsB p x.attrs with
  | .error c=>.error c
  | .ok l=>addN ks.length P x.key.toNat (x.attrs.headD 0) l
/-! ### the members -/
def numsB (P:List Cz):List Int:=(P.map Cz.num).mergeSort fun a b=>decide (a≤b)
def bindsS (l:List Bnd):List Bnd:=l.mergeSort fun a b=>decide (a.1≤b.1)
def memOf (log:List Int) (P:List Cz) (n:Int):Mb:=⟨bindsS (czOf 0 P n).vals,(czOf 0 P n).tick,Lib.idxOf log n⟩
def membersB (log:List Int) (P:List Cz):List Mb:=(numsB P).map (memOf log P)
/-! ### the sights -/
structure Sgt where
 q:Bs
 most:Int
 passes:List Pss
 rev:List Int
 links:List Nat
 holder:Int
def keyIs (x p:Pss):Bool:=decide (p.name=x.name)&&decide (p.pub=x.pub)&&decide (p.attrs=x.attrs)
def linksBad (l:List Nat):Bool:=match l with|[]=>false|[n]=>decide (0 < n)|_=>true
def stale (log rev:List Int):Bool:=decide (log.length < rev.length) || !decide (rev=log.take rev.length)
noncomputable def sightB (ks:List Pss) (log nums:List Int) (c:List Pd × List Sn) (x:Sgt):Except Int (List Pd × List Sn) :=
 match predF x.q x.most with
 | .error e=>.error e
 | .ok p =>
  match x.passes with
  | []=>.error 2
  | t::rest =>
   if rest≠[]∨linksBad x.links=true then .error 2 else
   match ks.findIdx? (keyIs t) with
   | none=>.error 4
   | some key =>
    if stale log x.rev=true then .error 17
    else if x.holder≠0∧Lib.idxOf nums x.holder < 0 then .error 19
    else if 4096≤c.2.length then .error 6
    else match c.1.findIdx? (sameB p) with
     | some i=>.ok (c.1,c.2++[⟨i,key,x.rev.length,Lib.idxOf nums x.holder⟩])
     | none=>if 128≤c.1.length then .error 6 else .ok (c.1++[p],c.2++[⟨c.1.length,key,x.rev.length,Lib.idxOf nums x.holder⟩])
/-- a crowd -/
structure Crw where
 qs:List Pd
 ms:List Mb
 us:List Sn
noncomputable def accountB (ks:List Pss) (log:List Int) (is:List Iss) (ss:List Sgt):Except Int (Crw × List Int) :=
 if keysB ks=false∨logB log=false then .error 1 else
 match foldE (addB ks) [] is with
 | .error e=>.error e
 | .ok P=>match foldE (sightB ks log (numsB P)) ([],[]) ss with
  | .error e=>.error e
  | .ok (q,u)=>.ok (⟨q,membersB log P,u⟩,numsB P)
def crowdB (c:Crw):Bool:=decide (c.qs.length≤128)&&decide (c.ms.length≤64)&&decide (c.us.length≤4096)&&!(c.qs.any fun p=>!validB p)&&!(c.ms.any fun m=>!memB m)&&!(c.us.any fun x=>!useB c.qs.length c.ms.length x)
/-! ### laws of holders -/
theorem findC_some {P:List Cz} {n:Int} {c:Cz} (h:findC P n=some c):c∈P∧c.num=n:=by
 unfold findC at h
 exact ⟨List.mem_of_find?_eq_some h,by simpa using List.find?_some h⟩
theorem findC_none {P:List Cz} {n:Int} (h:findC P n=none):∀ c∈P,c.num≠n:=by
 unfold findC at h
 intro c hc
 simpa using List.find?_eq_none.1 h c hc
theorem findC_mem {P:List Cz} (hn:(P.map Cz.num).Nodup) {c:Cz} (hc:c∈P):findC P c.num=some c:=by
 induction P with
 | nil=>cases hc
 | cons d P ih =>
  rw [List.map_cons,List.nodup_cons] at hn
  unfold findC
  rw [List.find?_cons]
  by_cases e:d.num=c.num
  ·rcases List.mem_cons.1 hc with h|h
   ·subst h;simp
   ·exact absurd (List.mem_map.2 ⟨c,h,e.symm⟩) hn.1
  ·rw [decide_eq_false e]
   rcases List.mem_cons.1 hc with h|h
   ·exact absurd (by rw [h]) e
   ·exact ih hn.2 h
theorem findC_set (P:List Cz) (c:Cz) (n:Int):findC (setC P c) n=if n=c.num then some c else findC P n:=by
 unfold setC
 show (P.filter (fun d=>decide (d.num≠c.num))++[c]).find? (fun d=>decide (d.num=n))=_
 rw [List.find?_append,List.find?_filter]
 by_cases e:n=c.num
 ·subst e;rw [if_pos rfl]
  have:P.find? (fun a=>decide (decide (a.num≠c.num)=true∧decide (a.num=c.num)=true))=none:=by
   rw [List.find?_eq_none];intro x _
   simp
  rw [this]
  simp
 ·rw [if_neg e]
  have:(fun a:Cz=>decide (decide (a.num≠c.num)=true∧decide (a.num=n)=true))=fun a=>decide (a.num=n):=by
   funext a
   by_cases e2:a.num=n
   ·simp [e2,e]
   ·simp [e2]
  rw [this]
  unfold findC
  cases P.find? (fun c=>decide (c.num=n)) with
  | some d=>rfl
  | none=>simp [Ne.symm e]
theorem perm_set {P:List Cz} (hn:(P.map Cz.num).Nodup) {n:Int} {c0:Cz} (h:findC P n=some c0):P.Perm (c0::P.filter fun d=>decide (d.num≠n)):=by
 induction P with
 | nil=>cases h
 | cons d P ih =>
  rw [List.map_cons,List.nodup_cons] at hn
  unfold findC at h
  rw [List.find?_cons] at h
  by_cases e:d.num=n
  ·rw [decide_eq_true e] at h;injection h with h;subst h;rw [List.filter_cons_of_neg (by simp [e])]
   have:P.filter (fun x=>decide (x.num≠n))=P:=List.filter_eq_self.2 fun x hx=>by
    simp only [decide_eq_true_eq];intro e2;exact hn.1 (List.mem_map.2 ⟨x,hx,by rw [e2,e]⟩)
   rw [this]
  ·rw [decide_eq_false e] at h;rw [List.filter_cons_of_pos (by simp [e])];exact ((ih hn.2 h).cons d).trans (List.Perm.swap _ _ _)
theorem keep_set {P:List Cz} {n:Int} (h:findC P n=none):P.filter (fun d=>decide (d.num≠n))=P :=
 List.filter_eq_self.2 fun x hx=>by simpa using findC_none h x hx
theorem mem_setC {P:List Cz} {c d:Cz}:d∈setC P c↔(d∈P∧d.num≠c.num)∨d=c:=by
 unfold setC
 simp
theorem nodup_set {P:List Cz} (hn:(P.map Cz.num).Nodup) (c:Cz):((setC P c).map Cz.num).Nodup:=by
 unfold setC
 rw [List.map_append,List.nodup_append];refine ⟨(List.filter_sublist.map _).nodup hn,by simp,fun a ha b hb=>?_⟩;obtain ⟨d,hd,rfl⟩:=List.mem_map.1 ha;simp at hb;subst hb
 simpa using (List.mem_filter.1 hd).2
theorem sumL_set {P:List Cz} (hn:(P.map Cz.num).Nodup) (c:Cz) (f:Cz→Int):((setC P c).map f).sum=(P.map f).sum+f c - (match findC P c.num with|some d=>f d|none=>0):=by
 unfold setC
 rw [List.map_append,List.sum_append]
 cases h:findC P c.num with
 | none=>rw [keep_set h];simp
 | some d =>
  have:=sum_perm ((perm_set hn h).map f);rw [List.map_cons,List.sum_cons] at this;rw [this]
  simp
  omega
theorem bump_len (t:List Int) (i:Nat):(bump t i).length=t.length:=by simp [bump]
theorem bump_sum:∀ (t:List Int) (i:Nat),i < t.length→(bump t i).sum=t.sum+1
 | [],i,h=>by simp at h
 | a::t,0,_=>by simp [bump];omega
 | a::t,i+1,h=>by
  have:=bump_sum t i (by simpa using h)
  unfold bump at this ⊢
  rw [List.getD_cons_succ,List.set_cons_succ,List.sum_cons,List.sum_cons,this];omega
theorem bump_mem {t:List Int} {i:Nat} {x:Int} (h:x∈bump t i):x∈t∨x=(bump t i).getD i 0:=by
 unfold bump at h ⊢
 by_cases hi:i < t.length
 ·rcases List.mem_or_eq_of_mem_set h with h1|h1
  ·exact Or.inl h1
  ·refine Or.inr ?_;rw [h1,List.getD_eq_getElem?_getD (l:=t.set _ _),List.getElem?_set_self (by simpa using hi)]
   rfl
 ·rw [List.set_eq_of_length_le (by omega)] at h;exact Or.inl h
theorem bump_get {t:List Int} {i:Nat} (hi:i < t.length):(bump t i).getD i 0=t.getD i 0+1:=by
 unfold bump
 rw [List.getD_eq_getElem?_getD (l:=t.set _ _),List.getElem?_set_self (by simpa using hi)]
 rfl
theorem keyAt_some {ks:List Pss} {i:Int} {p:Pss} (h:keyAt ks i=some p):0≤i∧i.toNat < ks.length∧ks[i.toNat]?=some p:=by
 unfold keyAt at h
 split at h
 ·cases h
 ·exact ⟨by omega,(List.getElem?_eq_some_iff.1 h).1,h⟩
/-! ### values of one holder -/
def valsOk (l:List Bnd):Prop:=(l.map Prod.fst).Nodup∧∀ b∈l,validNameB b.1=true∧0≤b.2∧b.2≤65535
theorem valOf_none {l:List Bnd} {s:Bs} (h:valOf l s=none):s∉l.map Prod.fst:=by
 unfold valOf at h
 rw [Option.map_eq_none_iff,List.find?_eq_none] at h;intro hm;obtain ⟨b,hb,rfl⟩:=List.mem_map.1 hm;exact h b hb (by simp)
theorem valOf_snoc (l:List Bnd) (b:Bnd) (s:Bs):valOf (l++[b]) s=(valOf l s).or (if b.1=s then some b.2 else none):=by
 unfold valOf
 rw [List.find?_append]
 cases List.find? (fun b=>decide (b.1=s)) l with
 | some c=>rfl
 | none=>by_cases e:b.1=s <;> simp [e]
theorem put1_ok {acc acc':List Bnd} {b:Bnd} (h:put1 acc b=.ok acc') (hv:valsOk acc) (hb:validNameB b.1=true∧0≤b.2∧b.2≤65535):valsOk acc':=by
 unfold put1 at h
 split at h
 ·split at h
  ·injection h with h;subst h;exact hv
  ·cases h
 ·next hn =>
  injection h with h;subst h;refine ⟨?_,fun c hc=>?_⟩
  ·rw [List.map_append,List.nodup_append];refine ⟨hv.1,by simp,fun a ha c hc=>?_⟩;simp at hc;subst hc;exact fun e=>valOf_none hn (e▸ha)
  ·rcases List.mem_append.1 hc with hc|hc
   ·exact hv.2 c hc
   ·simp at hc;subst hc;exact hb
theorem put_ok {acc acc' l:List Bnd} (hl:∀ b∈l,validNameB b.1=true∧0≤b.2∧b.2≤65535) (hv:valsOk acc) (h:foldE put1 acc l=.ok acc'):valsOk acc' :=
 foldE_law (P:=fun _ a=>valsOk a) (fun _ _ x _ ht hx hf=>put1_ok hf ht (hl x (List.mem_of_getElem? hx))) hv h
theorem vals_ok {p:Pss} {at_:List Int} {l:List Bnd} (h:valsB p at_=.ok l):p.attrs.length < at_.length∧l.length=p.attrs.length∧p.attrs.length < 6∧∀ b∈l,validNameB b.1=true∧0≤b.2∧b.2≤65535:=by
 unfold valsB at h
 split at h
 ·cases h
 ·next h1 =>
  rw [not_or] at h1
  split at h
  ·cases h
  ·next h2 =>
   injection h with h;subst h
   have hp:passB p=true:=by have:=h1.1;simpa using this
   refine ⟨by have:=h1.2;omega,by rw [valsTo_len],passB_lt hp,fun b hb=>?_⟩
   unfold valsTo at hb
   obtain ⟨i,hi,rfl⟩:=List.mem_map.1 hb;have hi':=List.mem_range.1 hi
   have h3:badV at_ i=false:=by
    cases hbv:badV at_ i with
    | false=>rfl
    | true=>exact absurd (List.any_eq_true.2 ⟨i,hi,hbv⟩) h2
   unfold badV at h3
   simp only [Bool.or_eq_false_iff,decide_eq_false_iff_not] at h3;refine ⟨?_,by dsimp only;omega,by dsimp only;omega⟩
   have h4:badA p.name p.attrs i=false:=by
    cases hba:badA p.name p.attrs i with
    | false=>rfl
    | true=>rw [passB_bad hi' hba] at hp;cases hp
   unfold badA at h4
   simp only [Bool.or_eq_false_iff,Bool.not_eq_false'] at h4;exact h4.1
/-! ### the invariant of the holders -/
structure PInv (k:Nat) (is:List Iss) (j:Nat) (P:List Cz):Prop where
 nodup:(P.map Cz.num).Nodup
 pos:∀ c∈P,1≤c.num
 tl:∀ c∈P,c.tick.length=k∧∀ t∈c.tick,0≤t∧t≤4096
 sum:(P.map fun c=>c.tick.sum).sum=j
 src:∀ c∈P,∃ x∈is,x.attrs.head?=some c.num
 vals:∀ c∈P,valsOk c.vals
 len:P.length≤64
theorem PInv.nil_ (k:Nat) (is:List Iss):PInv k is 0 []:=⟨by simp,by simp,by simp,by simp,by simp,by simp,by simp⟩
theorem rep_sum:∀ k:Nat,(List.replicate k (0:Int)).sum=0
 | 0=>rfl
 | k+1=>by rw [List.replicate_succ,List.sum_cons,rep_sum k];rfl
theorem czOf_inv {k:Nat} {is:List Iss} {j:Nat} {P:List Cz} (h:PInv k is j P) (n:Int):(czOf k P n).tick.length=k∧(∀ t∈(czOf k P n).tick,0≤t∧t≤4096)∧valsOk (czOf k P n).vals∧(match findC P n with|some d=>d.tick.sum|none=>0)=(czOf k P n).tick.sum:=by
 unfold czOf
 cases hf:findC P n with
 | some c =>
  have hc:=(findC_some hf).1;exact ⟨(h.tl c hc).1,(h.tl c hc).2,h.vals c hc,rfl⟩
 | none =>
  refine ⟨by simp,fun t ht=>?_,⟨by simp,by simp⟩,?_⟩
  ·have:=(List.mem_replicate.1 ht).2;omega
  ·show (0:Int)=(List.replicate k (0:Int)).sum
   exact (rep_sum k).symm
theorem addB_inv {ks:List Pss} {is:List Iss} {j:Nat} {P P':List Cz} {x:Iss} (h:PInv ks.length is j P) (hx:is[j]?=some x) (ha:addB ks P x=.ok P'):PInv ks.length is (j+1) P':=by
 unfold addB at ha
 split at ha
 ·cases ha
 ·next p hk =>
  obtain ⟨k0,k1,_⟩:=keyAt_some hk
  split at ha
  ·cases ha
  ·next l hl =>
   obtain ⟨l1,l2,l3,l4⟩:=vals_ok hl
   unfold addN at ha
   split at ha
   ·cases ha
   ·next hp =>
    split at ha
    ·cases ha
    ·next vs hvs =>
     split at ha
     ·cases ha
     ·next hfull =>
      rw [not_or] at hfull;injection ha with ha;obtain ⟨n,hn⟩:∃ n,x.attrs.headD 0=n:=⟨_,rfl⟩
      have hhd:x.attrs.head?=some n:=by
       cases hat:x.attrs with
       | nil=>rw [hat] at l1;simp at l1
       | cons a t=>rw [hat] at hn;simp at hn;subst hn;rfl
      rw [hn] at ha hvs hfull hp;obtain ⟨c1,c2,c3,c4⟩:=czOf_inv h n;obtain ⟨c,hc⟩:∃ c,czPut ks.length P n vs x.key.toNat=c:=⟨_,rfl⟩
      have e1:c.num=n:=by rw [←hc];rfl
      have e2:c.vals=vs:=by rw [←hc];rfl
      have e3:c.tick=bump (czOf ks.length P n).tick x.key.toNat:=by rw [←hc];rfl
      rw [hc] at ha hfull;subst ha
      have hv:valsOk c.vals:=by rw [e2];exact put_ok l4 c3 hvs
      refine ⟨nodup_set h.nodup c,fun d hd=>?_,fun d hd=>?_,?_,fun d hd=>?_,fun d hd=>?_,by omega⟩
      ·rcases mem_setC.1 hd with ⟨h1,_⟩|rfl
       ·exact h.pos d h1
       ·omega
      ·rcases mem_setC.1 hd with ⟨h1,_⟩|rfl
       ·exact h.tl d h1
       ·refine ⟨by rw [e3,bump_len,c1],fun t ht=>?_⟩;rw [e3] at ht hfull
        rcases bump_mem ht with h1|h1
        ·exact c2 t h1
        ·rw [h1];refine ⟨?_,by omega⟩;rw [bump_get (by omega)]
         have:0≤(czOf ks.length P n).tick.getD x.key.toNat 0:=by
          rw [List.getD_eq_getElem?_getD,List.getElem?_eq_getElem (by omega)];exact (c2 _ (List.getElem_mem _)).1
         omega
      ·rw [sumL_set h.nodup c fun c=>c.tick.sum,e1,c4,h.sum,e3,bump_sum _ _ (by omega)];omega
      ·rcases mem_setC.1 hd with ⟨h1,_⟩|rfl
       ·exact h.src d h1
       ·exact ⟨x,List.mem_of_getElem? hx,by rw [hhd,e1]⟩
      ·rcases mem_setC.1 hd with ⟨h1,_⟩|rfl
       ·exact h.vals d h1
       ·exact hv
theorem people_inv {ks:List Pss} {is:List Iss} {P:List Cz} (h:foldE (addB ks) [] is=.ok P):PInv ks.length is is.length P :=
 foldE_law (P:=fun j P=>PInv ks.length is j P) (fun _ _ _ _ h hx hf=>addB_inv h hx hf) (PInv.nil_ _ _) h
/-! ### the members -/
theorem numsB_perm (P:List Cz):(numsB P).Perm (P.map Cz.num):=List.mergeSort_perm _ _
theorem numsB_le (P:List Cz):(numsB P).Pairwise (·≤·):=by
 have:=List.pairwise_mergeSort (le:=fun a b:Int=>decide (a≤b)) (fun a b c h1 h2=>by simp only [decide_eq_true_eq] at *;omega) (fun a b=>by simp only [Bool.or_eq_true,decide_eq_true_eq];omega) (P.map Cz.num)
 exact this.imp fun h=>by simpa using h
theorem numsB_lt {P:List Cz} (hn:(P.map Cz.num).Nodup):(numsB P).Pairwise (· < ·):=by
 have h1:(numsB P).Nodup:=(numsB_perm P).nodup_iff.2 hn
 exact (List.Pairwise.and (numsB_le P) h1).imp fun ⟨a,b⟩=>by omega
theorem bindsS_perm (l:List Bnd):(bindsS l).Perm l:=List.mergeSort_perm _ _
theorem bindsS_le (l:List Bnd):(bindsS l).Pairwise fun a b=>a.1≤b.1:=by
 have:=List.pairwise_mergeSort (le:=fun a b:Bnd=>decide (a.1≤b.1)) (fun a b c h1 h2=>by simp only [decide_eq_true_eq] at *;exact List.le_trans h1 h2) (fun a b=>by simp only [Bool.or_eq_true,decide_eq_true_eq];exact List.le_total _ _) l
 exact this.imp fun h=>by simpa using h
theorem binds_uniq {l m:List Bnd} (hn:(l.map Prod.fst).Nodup) (hp:m.Perm l) (hm:m.Pairwise fun a b=>a.1≤b.1):m=bindsS l:=by
 refine sort_uniq (le:=fun a b:Bnd=>a.1≤b.1) (fun a ha b hb h1 h2=>?_) (hp.trans (bindsS_perm l).symm) hm (bindsS_le l);have e:=List.le_antisymm h1 h2;have ha':=hp.mem_iff.1 ha;have hb':=hp.mem_iff.1 hb;clear ha hb hm hp h1 h2
 induction l with
 | nil=>cases ha'
 | cons c l ih =>
  rw [List.map_cons,List.nodup_cons] at hn
  rcases List.mem_cons.1 ha' with h|h
  ·rcases List.mem_cons.1 hb' with k|k
   ·rw [h,k]
   ·exact absurd (List.mem_map.2 ⟨b,k,by rw [←e,h]⟩) hn.1
  ·rcases List.mem_cons.1 hb' with k|k
   ·exact absurd (List.mem_map.2 ⟨a,h,by rw [e,k]⟩) hn.1
   ·exact ih hn.2 h k
theorem nums_uniq {P:List Cz} {m:List Int} (hp:m.Perm (P.map Cz.num)) (hm:m.Pairwise (·≤·)):m=numsB P :=
 sort_uniq (le:=fun a b:Int=>a≤b) (fun a _ b _ h1 h2=>by omega) (hp.trans (numsB_perm P).symm) hm (numsB_le P)
theorem bindsB_sort {l:List Bnd} (h:valsOk l):bindsB (bindsS l)=true:=by
 have hp:=bindsS_perm l;have hn:((bindsS l).map Prod.fst).Nodup:=(hp.map Prod.fst).nodup_iff.2 h.1;refine bindsB_done fun i hi=>?_
 unfold badN
 rw [List.getElem?_eq_getElem hi];obtain ⟨b1,b2,b3⟩:=h.2 _ (hp.mem_iff.1 (List.getElem_mem hi));simp only [Bool.or_eq_false_iff,decide_eq_false_iff_not];refine ⟨⟨⟨fun hm=>?_,by rw [b1];rfl⟩,by omega⟩,by omega⟩;obtain ⟨b,hb,e⟩:=List.mem_map.1 hm;obtain ⟨j,hj,e2⟩:=List.mem_take_iff_getElem.1 hb;have hne:=(List.pairwise_iff_getElem.1 hn) j i (by simp;omega) (by simpa using hi) (by omega);rw [List.getElem_map,List.getElem_map] at hne;exact hne (by rw [e2];exact e)
theorem idxFrom_bounds (x:Int):∀ (l:List Int) (i:Nat),-1≤Lib.idxFrom l x i∧Lib.idxFrom l x i < (i:Int)+l.length+(if l=[] then 1 else 0)
 | [],i=>by simp [Lib.idxFrom];omega
 | z::l,i=>by
  rw [Lib.idxFrom]
  split
  ·simp;omega
  ·have:=idxFrom_bounds x l (i+1);simp only [List.length_cons,reduceCtorEq,if_false];refine ⟨this.1,?_⟩
   by_cases e:l=[]
   ·subst e;simp [Lib.idxFrom];omega
   ·rw [if_neg e] at this;have:=this.2
    push_cast at this ⊢
    omega
theorem idxOf_bounds (l:List Int) (x:Int):-1≤Lib.idxOf l x∧Lib.idxOf l x < l.length:=by
 have:=idxFrom_bounds x l 0
 unfold Lib.idxOf
 refine ⟨this.1,?_⟩
 by_cases e:l=[]
 ·subst e;simp [Lib.idxFrom]
 ·rw [if_neg e] at this;have:=this.2
  push_cast at this
  omega
/-! ### the invariant of the sights -/
structure SInv (nk nl nn j:Nat) (c:List Pd × List Sn):Prop where
 len:c.2.length=j
 few:c.1.length≤128∧c.2.length≤4096
 diff:c.1.Pairwise (·≠·)
 valid:∀ p∈c.1,validB p=true
 uses:∀ x∈c.2,(0≤x.q∧x.q < c.1.length)∧(0≤x.win∧x.win < nk)∧(0≤x.asof∧x.asof≤nl)∧(-1≤x.hold∧x.hold < nn)
theorem SInv.nil_ (nk nl nn:Nat):SInv nk nl nn 0 ([],[]):=⟨rfl,by simp,by simp,by simp,by simp⟩
theorem stale_len {log rev:List Int} (h:¬ stale log rev=true):rev.length≤log.length:=by
 unfold stale at h
 simp only [Bool.or_eq_true,decide_eq_true_eq,not_or] at h;omega
theorem sightB_inv {ks:List Pss} {log nums:List Int} {j:Nat} {c c':List Pd × List Sn} {x:Sgt} (h:SInv ks.length log.length nums.length j c) (hs:sightB ks log nums c x=.ok c')
  (hp:∀ p,predF x.q x.most=.ok p→validB p=true):SInv ks.length log.length nums.length (j+1) c':=by
 unfold sightB at hs
 split at hs
 ·cases hs
 ·next p hpf =>
  have hv:=hp p hpf
  split at hs
  ·cases hs
  ·split at hs
   ·cases hs
   ·split at hs
    ·cases hs
    ·next key hk =>
     have hkl:key < ks.length:=(List.findIdx?_eq_some_iff_getElem.1 hk).1
     split at hs
     ·cases hs
     ·next hst =>
      have hrl:=stale_len hst
      split at hs
      ·cases hs
      ·split at hs
       ·cases hs
       ·next hfull =>
        obtain ⟨b1,b2⟩:=idxOf_bounds nums x.holder
        split at hs
        ·next i hi =>
         have hil:i < c.1.length:=(List.findIdx?_eq_some_iff_getElem.1 hi).1;injection hs with hs;subst hs;refine ⟨by simp [h.len],⟨h.few.1,by simp;omega⟩,h.diff,h.valid,fun y hy=>?_⟩
         rcases List.mem_append.1 hy with hy|hy
         ·exact h.uses y hy
         ·simp at hy;subst hy;exact ⟨⟨by dsimp only;omega,by dsimp only;omega⟩,⟨by dsimp only;omega,by dsimp only;omega⟩,⟨by dsimp only;omega,by dsimp only;omega⟩,b1,b2⟩
        ·next hi =>
         split at hs
         ·cases hs
         ·next h128 =>
          injection hs with hs;subst hs;refine ⟨by simp [h.len],⟨by simp;omega,by simp;omega⟩,?_,fun q hq=>?_,fun y hy=>?_⟩
          ·rw [List.pairwise_append];refine ⟨h.diff,by simp,fun a ha b hb e=>?_⟩;simp at hb;subst hb;have:=(List.findIdx?_eq_none_iff.1 hi) a ha;rw [(same_iff b a).2 e.symm] at this
           cases this
          ·rcases List.mem_append.1 hq with hq|hq
           ·exact h.valid q hq
           ·simp at hq;subst hq;exact hv
          ·dsimp only at hy ⊢
           rw [List.length_append,List.length_singleton]
           rcases List.mem_append.1 hy with hy|hy
           ·obtain ⟨⟨u1,u2⟩,u3⟩:=h.uses y hy;exact ⟨⟨u1,by push_cast;omega⟩,u3⟩
           ·simp at hy;subst hy;exact ⟨⟨by dsimp only;omega,by dsimp only;push_cast;omega⟩,⟨by dsimp only;omega,by dsimp only;omega⟩,⟨by dsimp only;omega,by dsimp only;omega⟩,b1,b2⟩
theorem keysB_len {ks:List Pss} (h:keysB ks=true):ks.length≤16:=by
 unfold keysB at h
 simp only [Bool.and_eq_true,decide_eq_true_eq] at h;exact h.1.2
theorem logB_len {l:List Int} (h:logB l=true):l.length≤16:=by
 unfold logB at h
 simp only [Bool.and_eq_true,decide_eq_true_eq] at h;exact h.2
theorem predF_valid {q:Bs} {most:Int} (hex:∃ r,PredOf q most r):∀ p,predF q most=.ok p→validB p=true:=by
 obtain ⟨r,hr⟩:=hex;intro p hp;rw [hr.eq] at hp;subst hp;exact hr.valid
/-- what InquiryCounts says -/
structure Counts (ks:List Pss) (is:List Iss) (ss:List Sgt) (c:Crw) (ns:List Int):Prop where
 uses:c.us.length=ss.length
 nums:ns.length=c.ms.length
 asc:ns.Pairwise (· < ·)
 tl:∀ m∈c.ms,m.tickets.length=ks.length
 src:∀ n∈ns,∃ x∈is,x.attrs.head?=some n
 sum:(c.ms.map fun m=>m.tickets.sum).sum=is.length
 diff:c.qs.Pairwise (·≠·)
 valid:crowdB c=true
theorem any_none {α:Type} {f:α→Bool} {l:List α} (h:∀ x∈l,f x=false):l.any f=false:=List.any_eq_false.2 fun x hx=>by rw [h x hx];simp
theorem counts_law {ks:List Pss} {log:List Int} {is:List Iss} {ss:List Sgt} {c:Crw} {ns:List Int} (hex:∀ x∈ss,∃ r,PredOf x.q x.most r) (h:accountB ks log is ss=.ok (c,ns)):Counts ks is ss c ns:=by
 unfold accountB at h
 split at h
 ·cases h
 ·next h0 =>
  rw [not_or] at h0;have hk:=keysB_len (ks:=ks) (by have:=h0.1;simpa using this);have hlg:=logB_len (l:=log) (by have:=h0.2;simpa using this)
  split at h
  ·cases h
  ·next P hP =>
   have hi:=people_inv hP
   split at h
   ·cases h
   ·next q u hS =>
    injection h with h;injection h with h1 h2;subst h1;subst h2;have hs:SInv ks.length log.length (numsB P).length ss.length (q,u):=foldE_law (P:=fun j c=>SInv ks.length log.length (numsB P).length j c) (fun j t x u ht hx hf=>sightB_inv ht hf (predF_valid (hex x (List.mem_of_getElem? hx)))) (SInv.nil_ _ _ _) hS
    have hnl:(numsB P).length=P.length:=by rw [(numsB_perm P).length_eq,List.length_map]
    have hml:(membersB log P).length=(numsB P).length:=by unfold membersB;rw [List.length_map]
    have hcz:∀ c∈P,czOf 0 P c.num=c:=fun c hc=>by unfold czOf;rw [findC_mem hi.nodup hc];rfl
    have hmem:∀ m∈membersB log P,∃ c∈P,m=memOf log P c.num:=fun m hm=>by
     unfold membersB at hm
     obtain ⟨n,hn,rfl⟩:=List.mem_map.1 hm;obtain ⟨c,hc,rfl⟩:=List.mem_map.1 ((numsB_perm P).mem_iff.1 hn);exact ⟨c,hc,rfl⟩
    refine ⟨hs.len,hml.symm,numsB_lt hi.nodup,fun m hm=>?_,fun n hn=>?_,?_,hs.diff,?_⟩
    ·obtain ⟨c,hc,rfl⟩:=hmem m hm
     unfold memOf
     rw [hcz c hc];exact (hi.tl c hc).1
    ·obtain ⟨c,hc,rfl⟩:=List.mem_map.1 ((numsB_perm P).mem_iff.1 hn);exact hi.src c hc
    ·show ((membersB log P).map fun m=>m.tickets.sum).sum=_
     rw [←hi.sum]
     unfold membersB
     rw [List.map_map,sum_perm ((numsB_perm P).map _),List.map_map]
     congr 1
     refine List.map_congr_left fun c hc=>?_
     show (memOf log P c.num).tickets.sum=_
     unfold memOf
     rw [hcz c hc]
    ·unfold crowdB
     dsimp only
     have A2:(membersB log P).any (fun m=>!memB m)=false:=any_none fun m hm=>by
      obtain ⟨c,hc,rfl⟩:=hmem m hm
      unfold memOf
      rw [hcz c hc]
      unfold memB
      dsimp only
      obtain ⟨b1,b2⟩:=idxOf_bounds log c.num
      rw [bindsB_sort (hi.vals c hc),any_none (f:=oddB) (fun t ht=>by
       obtain ⟨t1,t2⟩:=(hi.tl c hc).2 t ht
       unfold oddB withinB
       rw [decide_eq_true t1,decide_eq_true t2];rfl)]
      unfold withinB
      rw [decide_eq_true (by rw [(hi.tl c hc).1];exact hk),decide_eq_true b1,decide_eq_true (by omega)]
      rfl
     have A3:u.any (fun x=>!useB q.length (membersB log P).length x)=false:=any_none fun x hx=>by
      obtain ⟨⟨u1,u2⟩,⟨u3,u4⟩,⟨u5,u6⟩,u7,u8⟩:=hs.uses x hx
      dsimp only at u2
      unfold useB withinB
      rw [decide_eq_true u1,decide_eq_true (by omega),decide_eq_true u3,decide_eq_true (by omega),decide_eq_true u5,decide_eq_true (by omega),decide_eq_true u7,decide_eq_true (by omega)]
      rfl
     rw [any_none (f:=fun p=>!validB p) (fun p hp=>by rw [hs.valid p hp];rfl),A2,A3];have h1:=hs.few.1;have h2:=hs.few.2;have h3:=hi.len
     dsimp only at h1 h2
     simp only [Bool.and_eq_true,decide_eq_true_eq,Bool.not_false,and_true];exact ⟨⟨h1,by omega⟩,h2⟩
end Go.Proofs.YtpcmamoomaddoaaGreatDoor
