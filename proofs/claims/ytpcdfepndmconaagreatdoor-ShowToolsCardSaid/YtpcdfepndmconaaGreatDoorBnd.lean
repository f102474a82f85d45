/- Bounds under which a record is encoded: small records, and records that are read from short strings. -/
import Derived.Test.YtpcdfepndmconaaGreatDoorRtk
namespace Go.Proofs.YtpcdfepndmconaaGreatDoor
open Go.RowKit Tape
theorem encB_of {r:Rec} (hi:RecI r) (hf:FewB r):EncB r:=by
 have ok:=okR_of hi hf;have hp:=pf_ok hi hf;have h1:=hf.da
 have ht:(terms r.links).length≤36:=by
  have key:∀ l:List (List (Lnk × List UInt8)),(∀ x∈l,x.length≤6)→(terms l).length≤l.length*6:=by
   intro l
   induction l with
   | nil=>intro _;simp [terms]
   | cons a l ih =>
    intro h;have h1:=ih fun x hx=>h x (by simp [hx]);have h2:=h a (by simp)
    unfold terms at h1 ⊢
    rw [List.flatMap_cons,List.length_append,List.length_map,List.length_cons,Nat.add_mul];omega
  have:=key r.links hf.lkl;have:=hf.lk;omega
 refine ⟨ok,⟨by omega,fun l hl=>by have:=hf.dal l hl;omega,fun l hl x hx=>?_,by omega,hp.1⟩,by omega,?_,?_⟩
 ·have:=hf.ana l hl x hx;omega
 ·intro t htm;obtain ⟨l,hl,hx⟩:=List.mem_flatMap.1 htm;obtain ⟨x,hx1,rfl⟩:=List.mem_map.1 hx;have:=hf.lkt l hl x hx1;omega
 ·have:=numsE_le hp.1 (by have:=hp.2;omega)
  unfold pfE
  have:=hp.2;omega
theorem readPf_all (s:List UInt8) (p:Pf) (h:readPf s=(p,true)):AllI (pfN p):=by
 unfold readPf at h
 split at h
 ·next hc =>
  rw [Bool.and_eq_true,done_iff,ended_iff] at hc;obtain ⟨⟨a1,a2⟩,b1,b2⟩:=hc;obtain ⟨_,d2⟩:=clauses_codec.inv _ b1;rw [b2,List.append_nil] at d2
  simp only at d2
  obtain ⟨hp,_⟩:=Prod.mk.inj h;subst hp
  unfold pfN Pf.pairs
  simp only
  rw [pairs_back,←d2];exact nums_i64 _
 ·cases (Prod.mk.inj h).2
theorem readR_all (s:List UInt8) (r:Rec) (h:readR s=(r,true)):AllI (nums7E r.n7)∧AllI (pfN r.proof):=by
 obtain ⟨ts,r1,h1⟩:∃ a b,Wire.texts ⟨s,false⟩=(a,b):=⟨_,_,rfl⟩;obtain ⟨ns,r2,h2⟩:∃ a b,Wire.nums r1=(a,b):=⟨_,_,rfl⟩;obtain ⟨tx,r3,h3⟩:∃ a b,Wire.text r2=(a,b):=⟨_,_,rfl⟩;obtain ⟨p,ok,h4⟩:∃ a b,readPf tx=(a,b):=⟨_,_,rfl⟩;obtain ⟨x,tp,h5⟩:∃ a b,nums7 ⟨ns,false⟩=(a,b):=⟨_,_,rfl⟩
 unfold readR at h
 rw [h1] at h
 simp only at h
 rw [h2] at h
 simp only at h
 rw [h3] at h
 simp only at h
 rw [h4] at h
 unfold joinR at h
 rw [h5] at h
 simp only at h
 split at h
 ·next hc =>
  rw [Bool.and_eq_true,Bool.and_eq_true,Bool.and_eq_true,done_iff,ended_iff,decide_eq_true_eq] at hc;obtain ⟨⟨⟨⟨a1,a2⟩,rfl⟩,b1,b2⟩,ht⟩:=hc;obtain ⟨hr,_⟩:=Prod.mk.inj h;subst hr;obtain ⟨_,g2⟩:=nums7_codec.inv ⟨ns,false⟩ (by rw [h5];exact b1);rw [h5] at g2;simp only [b2,List.append_nil] at g2;obtain ⟨s1,s2⟩:=strip_attach x.2.2.1 ts ht
  have e1:(mkR x ts p).n7=x:=by
   unfold mkR Rec.n7
   simp only [s1]
  refine ⟨?_,readPf_all tx p h4⟩;rw [e1,←g2];have:=nums_i64 r1;rw [h2] at this;exact this
 ·cases (Prod.mk.inj h).2
theorem flat_ge {α β:Type} {f:α→List β}:∀ (l:List α),(∀ x∈l,1≤(f x).length)→l.length≤(l.flatMap f).length
 | [],_=>by simp
 | a::l,h=>by
  have h1:=flat_ge l fun x hx=>h x (by simp [hx]);have h2:=h a (by simp);rw [List.flatMap_cons,List.length_append,List.length_cons];omega
theorem flat_mem {α β:Type} {f:α→List β}:∀ (l:List α) (x:α),x∈l→(f x).length≤(l.flatMap f).length
 | [],x,h=>by simp at h
 | a::l,x,h=>by
  rw [List.flatMap_cons,List.length_append]
  rcases List.mem_cons.1 h with rfl|h
  ·omega
  ·have:=flat_mem (f:=f) l x h;omega
theorem numsE_ge (l:List Int):l.length≤(Wire.numsE l).length:=by
 have:=flat_ge (f:=Wire.intE) l (fun x _=>by simp [Wire.intE])
 unfold Wire.numsE Wire.listE
 simp only [List.length_append];omega
theorem textE_ge (t:List UInt8):t.length+1≤(Wire.textE t).length:=by
 unfold Wire.textE
 simp only [List.length_append,List.length_cons,List.length_nil];omega
theorem textsE_ge (l:List (List UInt8)):l.length≤(Wire.textsE l).length∧∀ t∈l,t.length≤(Wire.textsE l).length:=by
 have h1:=flat_ge (f:=Wire.textE) l (fun x _=>by have:=textE_ge x;omega)
 unfold Wire.textsE Wire.listE
 simp only [List.length_append];refine ⟨by omega,fun t ht=>?_⟩;have h2:=flat_mem (f:=Wire.textE) l t ht;have h3:=textE_ge t;omega
theorem pfOk_of {p:Pf} (hs:p.shaped) (hl:(pfN p).length≤600) (hi:AllI (pfN p)):PfOk p:=by
 obtain ⟨h1,h2⟩:=pairs_fst p.dares p.answers hs
 have h3:∀ c∈p.pairs,(clauseE c).length≤600:=fun c hc=>by
  have:=flat_mem (f:=clauseE) p.pairs c hc
  unfold pfN manyE at hl
  simp only [List.length_cons] at hl;omega
 have h4:∀ c∈p.pairs,c.length≤600∧∀ x∈c,x.2.length≤600:=fun c hc=>by
  have:=h3 c hc
  unfold clauseE manyE at this
  simp only [List.length_cons] at this;refine ⟨by have:=flat_ge (f:=spndE) c (fun x _=>by simp [spndE]);omega,fun x hx=>?_⟩;have h5:=flat_mem (f:=spndE) c x hx
  have h6:(spndE x).length=x.2.length+2:=by simp [spndE,listE]
  omega
 refine ⟨?_,fun l hl=>?_,fun l hl x hx=>?_,by omega,hi⟩
 ·have h5:=flat_ge (f:=clauseE) p.pairs (fun c _=>by simp [clauseE,manyE])
  have h6:p.pairs.length=p.dares.length:=by rw [←h1];unfold Pf.pairs;rw [List.length_map]
  unfold pfN manyE at hl
  simp only [List.length_cons] at hl;omega
 ·rw [←h1] at hl;obtain ⟨c,hc,rfl⟩:=List.mem_map.1 hl;rw [List.length_map];exact (h4 c hc).1
 ·rw [←h2] at hl;obtain ⟨c,hc,rfl⟩:=List.mem_map.1 hl;obtain ⟨y,hy,rfl⟩:=List.mem_map.1 hx;exact (h4 c hc).2 y hy
theorem recI_zero:RecI zeroR:=⟨by simp [zeroR],by simp [zeroR],by simp [zeroR],by simp [zeroR,AllI],by simp [zeroR,AllI],by simp [zeroR],by simp [zeroR,AllI],by simp [zeroR],by simp [zeroR]⟩
theorem fewB_zero:FewB zeroR:=⟨by simp [zeroR],by simp [zeroR],by simp [zeroR],by simp [zeroR],by simp [zeroR],by simp [zeroR],by simp [zeroR],by simp [zeroR],by simp [zeroR],by simp [zeroR],by simp [zeroR],by simp [zeroR],by simp [zeroR],by simp [zeroR],by simp [zeroR],by simp [zeroR],by simp [zeroR]⟩
theorem readR_no {s:List UInt8} {c:Rec} (h:readR s=(c,false)):c=zeroR:=by
 unfold readR joinR at h
 split at h
 ·cases (Prod.mk.inj h).2
 ·exact (Prod.mk.inj h).1.symm
theorem encB_read {s:List UInt8} {c:Rec} {ok:Bool} (h:readR s=(c,ok)) (hs:s.length≤600):EncB c:=by
 cases ok
 ·rw [readR_no h];exact encB_of recI_zero fewB_zero
 ·obtain ⟨h1,h2⟩:=readR_inv s c h;obtain ⟨h3,h4⟩:=readR_all s c h;rw [←h2] at hs
  unfold recE at hs
  simp only [List.length_append] at hs;have g1:=textsE_ge (terms c.links);have g2:=numsE_ge (nums7E c.n7);have g3:=textE_ge (pfE c.proof);have g4:(pfN c.proof).length≤(pfE c.proof).length:=numsE_ge _;exact ⟨⟨h3,by omega,h4,by omega,by omega,fun t ht=>by have:=g1.2 t ht;omega,by omega⟩,pfOk_of h1 (by omega) h4,by omega,fun t ht=>by have:=g1.2 t ht;omega,by omega⟩
end Go.Proofs.YtpcdfepndmconaaGreatDoor
