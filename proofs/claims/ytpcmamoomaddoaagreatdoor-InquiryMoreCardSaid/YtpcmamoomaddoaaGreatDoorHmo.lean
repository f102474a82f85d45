import Derived.Test.YtpcmamoomaddoaaGreatDoorMor
set_option maxRecDepth 100000
set_option maxHeartbeats 32000000
namespace Go.Proofs.YtpcmamoomaddoaaGreatDoor
theorem rG{F F':Bs->Option Int}(hF:∀y v,F y=some v->F' y=some v){x:K3}(h:bndB F x=true):bndB F' x=true/\isB F' x=isB F x:=by
 unfold bndB at h ⊢
 rw[Bool.and_eq_true,Option.isSome_iff_exists,Option.isSome_iff_exists]at h;obtain⟨⟨v,h1⟩,⟨z,h2⟩⟩:=h
 unfold isB
 rw[hF _ _ h1,hF _ _ h2,h1,h2];exact⟨rfl,rfl⟩
mutual
theorem qU{F F':Bs->Option Int}(hF:∀y v,F y=some v->F' y=some v):∀p:Pd,(∀x∈atomsB p,bndB F x=true)->truF F' p=truF F p
 | .node k l r c ks,h=>by
  rw[truF,truF];rw[atomsB]at h
  by_cases h0:k=0
  ·rw[if_pos h0]at h ⊢;rw[if_pos h0];exact(rG hF (h _ (by simp))).2
  ·rw[if_neg h0]at h ⊢;rw[if_neg h0,rF hF ks (fun x hx=>h x (by simpa using hx))]
theorem rF{F F':Bs->Option Int}(hF:∀y v,F y=some v->F' y=some v):∀l:List Pd,(∀x∈atomsL l,bndB F x=true)->cntF F' l=cntF F l
 | [],_=>rfl
 |p::l,h=>by
  rw[atomsL]at h;rw[cntF,cntF,qU hF p (fun x hx=>h x (List.mem_append_left _ hx)),rF hF l (fun x hx=>h x (List.mem_append_right _ hx))]
end
theorem wW{p:Pd}{l l':List Bnd}(hF:∀y v,envF l y=some v->envF l' y=some v)(h:hldB p l=true):hldB p l'=true:=by
 unfold hldB at h ⊢
 rw[Bool.and_eq_true,List.all_eq_true]at h;rw[Bool.and_eq_true,List.all_eq_true,qU hF p h.1];exact⟨fun x hx=>(rG hF (h.1 x hx)).1,h.2⟩
end Go.Proofs.YtpcmamoomaddoaaGreatDoor
