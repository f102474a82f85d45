import Derived.OrdersHeld
import Derived.Test.YtcidfldeiklcjaaGreatDoorPfJ
set_option maxRecDepth 100000
set_option maxHeartbeats 32000000
namespace Go.Proofs.YtcidfldeiklcjaaGreatDoor
open Go.RowKit
section
variable {P:Program} {ops:Array Oper} {Q:Exit->Act->World->Prop} {md:Region.Mode} {S:World->Prop} {T:List Nat}
def nR(T:List Nat)(listed:Array Bool):Prop:=∀t∈T,listed.getD t true=false
def bV(P:Program)(md:Region.Mode)(ops:Array Oper)(Q:Exit->Act->World->Prop)(S:World->Prop)(T:List Nat):Nat->Array Bool->Act->World->Prop
 |0,listed,a,w=>Region.ready md ops listed=[]/\Q .normal a w
 |fuel+1,listed,a,w =>
  (Region.ready md ops listed=[]->Q .normal a w) /\
  ∀i∈Region.ready md ops listed,wpOp P ops Q i (fun a' w'=>(nR T (listed.setIfInBounds i true)->S w')/\bV P md ops Q S T fuel (listed.setIfInBounds i true) a' w') a w
theorem kK:∀(fuel:Nat) (listed:Array Bool) (a:Act) (w:World),bV P md ops Q S T fuel listed a w->wpAny P md ops Q fuel listed a w
 |0,_,_,_,h=>h
 |fuel+1,_,_,_,h=>⟨h.1,fun i hi=>wpOp_mono (fun a' w' h'=>kK fuel _ a' w' h'.2) (h.2 i hi)⟩
def uN(md:Region.Mode)(ops:Array Oper)(i:Nat)(D:List Nat):Bool :=
 D.all fun t=>match ops[t]? with
  |some o=>o.after.any fun e=>Region.binds md e&&((e.on==i) ||D.contains e.on)
  |none=>false
theorem qJ{i:Nat}{D:List Nat}(h:uN md ops i D=true):∀t∈D,∃o,ops[t]?=some o/\∃e∈o.after,Region.binds md e=true/\(e.on=i\/e.on∈D):=fun t ht=>by
 have h1:=List.all_eq_true.1 h t ht
 cases ho:ops[t]? with
 |none=>rw[ho]at h1;simp at h1
 |some o =>
  rw[ho]at h1;simp only[Array.any_eq_true']at h1;obtain⟨e,he,h2⟩:=h1;rw[Bool.and_eq_true]at h2;exact⟨o,rfl,e,he,h2.1,by simpa using h2.2⟩
theorem nT{i:Nat}{oi:Oper}{v:Value}(hi:ops[i]?=some oi)(hsel:∀(j:Nat) (o:Oper) cs b,ops[j]?=some o->o.op≠.select cs b)
  (hQ:∀c a w,Q (.panic c) (a.put oi.dst v) w->Q (.panic c) a w) {D:List Nat} (hwt:∀t∈D,∃o,ops[t]?=some o/\∃e∈o.after,Region.binds md e=true/\(e.on=i\/e.on∈D)) (hiD:i∉D) (hTD:∀t∈T,t∈D) :
  ∀(fuel:Nat) (listed:Array Bool) (a:Act) (w:World),
   (∀j oj,ops[j]?=some oj->j≠i->listed.getD j true=false->(∀e∈oj.after,Region.binds md e=true->e.on≠i)->oi.apart ops oj=true) ->
   i∈Region.ready md ops listed->YieldsIf P ops S oi v a->S w->nR D listed ->
   bV P md ops Q S T fuel (listed.setIfInBounds i true) (a.put oi.dst v) w->bV P md ops Q S T (fuel+1) listed a w:=by
 have f:∀ {listed:Array Bool} {j:Nat},nR D listed->j∉D->nR D (listed.setIfInBounds j true):=fun{listed j} s hj t ht=>by
  rw[getD_set_ne true (fun e=>hj (by subst e;exact ht))];exact s t ht
 intro fuel
 induction fuel with
 |zero =>
  intro listed a w _ r A x s H;refine⟨fun h=>(by rw[h]at r;cases r),fun j hj=>?_⟩
  by_cases hji:j=i
  ·subst hji;exact A.wpOp hi x ⟨fun _=>x,H⟩
  ·have:=ready_mono hj hji;rw[H.1]at this
   cases this
 |succ fuel ih =>
  intro listed a w g r A x s H;refine⟨fun h=>(by rw[h]at r;cases r),fun j hj=>?_⟩
  by_cases hji:j=i
  ·subst hji;exact A.wpOp hi x ⟨fun _=>x,H⟩
  ·have l:=H.2 j (ready_mono hj hji);obtain⟨p,oj,m,q⟩:=mem_ready.1 hj
   have n:∀e∈oj.after,Region.binds md e=true->e.on≠i:=fun e C E d=>by
    have l:=q e C E;have G:=(mem_ready.1 r).1;rw[d]at l
    rcases Nat.lt_or_ge i listed.size with h'|h'
    ·simp[h']at G l;rw[G]at l;cases l
    ·simp[Array.getElem?_eq_none h']at l
   have u:j∉D:=fun hm=>by
    obtain⟨o,B,e,C,E,d⟩:=hwt j hm;rw[m]at B;injection B with B;subst B
    rcases d with d|d
    ·exact n e C E d
    ·have l:=q e C E;have z:=s _ d
     rcases Nat.lt_or_ge e.on listed.size with h'|h'
     ·simp[h']at l z
      rw[z]at l
      cases l
     ·simp[Array.getElem?_eq_none h']at z
   have z:=wpOp_putIf m (g j oj m hji p n) (fun cs b=>hsel i oi cs b hi) (fun cs b=>hsel j oj cs b m) hQ A l
   have hfree':∀k ok,ops[k]?=some ok->k≠i->(listed.setIfInBounds j true).getD k true=false ->
     (∀e∈ok.after,Region.binds md e=true->e.on≠i)->oi.apart ops ok=true:=fun k ok hk hki hun hno=>by
    refine g k ok hk hki ?_ hno
    by_cases hjk:j=k
    ·subst hjk;exact p
    ·rw[getD_set_ne true hjk]at hun;exact hun
   have F:=f s u;have y:nR T ((listed.setIfInBounds i true).setIfInBounds j true):=fun t ht=>f (f s hiD) u t (hTD t ht);refine wpOp_mono (fun a' w' h3=>⟨fun _=>h3.2.1 y,ih (listed.setIfInBounds j true) a' w' hfree' (ready_mono r (Ne.symm hji)) h3.1 (h3.2.1 y) F ?_⟩) z;rw[Array.setIfInBounds_comm _ _ hji];exact h3.2.2
theorem takeT(D:List Nat){i:Nat}{d:Option Tmp}{op:Go.Op}{ty:TypeId}{pos:String}{after:Array Edge}{g:Option (Nat × Bool)}
  {v:Value} {fuel:Nat} {listed:Array Bool} {a:Act} {w:World} (hi:ops[i]?=some ⟨d,op,ty,pos,after,g⟩)
  (hs:Region.noSelect ops=true) (hf:Region.free md ops listed i=true) (hr:(Region.ready md ops listed).contains i=true) (hw:(uN md ops i D&&!D.contains i&&(D.all fun t=>!listed.getD t true)&&T.all D.contains)=true)
  (hQ:∀c a w,Q (.panic c) (a.put d v) w->Q (.panic c) a w) (hy:YieldsIf P ops S ⟨d,op,ty,pos,after,g⟩ v a) (hS:S w)
  (h:bV P md ops Q S T fuel (listed.setIfInBounds i true) (a.put d v) w):bV P md ops Q S T (fuel+1) listed a w:=by
 rw[Bool.and_eq_true,Bool.and_eq_true,Bool.and_eq_true]at hw;obtain⟨⟨⟨j,f⟩,e⟩,b⟩:=hw;exact nT hi (Region.noSelect_spec hs) hQ (qJ j) (by simpa using f) (fun t ht=>by simpa using List.all_eq_true.1 b t ht) fuel listed a w (Region.free_spec hi hf) (by simpa using hr) hy hS (fun t ht=>by simpa using List.all_eq_true.1 e t ht) h
def aI(P:Program)(md:Region.Mode)(ops:Array Oper)(Q:Exit->Act->World->Prop)(S:World->Prop)(T:List Nat)(fuel:Nat)(listed:Array Bool)(a:Act)(w:World)(rs:List Nat):Prop :=
 ∀i∈rs,wpOp P ops Q i (fun a' w'=>(nR T (listed.setIfInBounds i true)->S w')/\bV P md ops Q S T fuel (listed.setIfInBounds i true) a' w') a w
theorem aI.nil{fuel:Nat}{listed:Array Bool}{a:Act}{w:World}:aI P md ops Q S T fuel listed a w []:=fun _ h=>by cases h
theorem aI.cons{fuel:Nat}{listed:Array Bool}{a:Act}{w:World}{i:Nat}{o:Oper}{rs:List Nat}(ho:ops[i]?=some o)
  (h:∀K':Act->World->Prop,Shut (∀a w,S w->(S w->bV P md ops Q S T fuel (listed.setIfInBounds i true) a w)->K' a w)->if Region.wanted o (yielded ops a.tmps)=true then Oper.wp P o a w K' Q else K' (a.put o.dst undef) w)
  (hs:aI P md ops Q S T fuel listed a w rs):aI P md ops Q S T fuel listed a w (i::rs):=fun j hj=>by
 rcases List.mem_cons.1 hj with rfl|hj
 ·exact wpOp_step ho (fun K' hK=>h K' (fun a w hS hW=>hK a w ⟨fun _=>hS,hW hS⟩))
 ·exact hs j hj
theorem aI.last{fuel:Nat}{listed:Array Bool}{a:Act}{w:World}{i:Nat}{o:Oper}(ho:ops[i]?=some o)(hT:(T.any fun t=>(listed.setIfInBounds i true).getD t true)=true)
  (h:∀K':Act->World->Prop,Shut (∀a w,bV P md ops Q S T fuel (listed.setIfInBounds i true) a w->K' a w)->if Region.wanted o (yielded ops a.tmps)=true then Oper.wp P o a w K' Q else K' (a.put o.dst undef) w):aI P md ops Q S T fuel listed a w [i]:=fun j hj=>by
 rw[List.mem_singleton]at hj;subst hj;refine wpOp_step ho (fun K' hK=>h K' (fun a w hW=>hK a w ⟨fun hA=>?_,hW⟩));obtain⟨t,ht,h1⟩:=List.any_eq_true.1 hT;rw[hA t ht]at h1
 cases h1
theorem cN{rs:List Nat}{fuel:Nat}{listed:Array Bool}{a:Act}{w:World}(hr:Region.ready md ops listed=rs)(hne:rs≠[])
  (h:aI P md ops Q S T fuel listed a w rs):bV P md ops Q S T (fuel+1) listed a w := ⟨fun h0=>absurd (hr▸h0) hne,hr▸h⟩
theorem aD{listed:Array Bool}{a:Act}{w:World}(hr:Region.ready md ops listed=[])(h:Q .normal a w) :
  ∀fuel,bV P md ops Q S T fuel listed a w
 |0=>⟨hr,h⟩
 |_+1=>⟨fun _=>h,by rw[hr];simp⟩
theorem aJ{id:Nat}{a:Act}{w:World}(T:List Nat)(S:World->Prop)(hm:P.follows .mixedOrders=true)(hS:S w.drew)
  (h:S w.drew->bV P .any ops Q S T ops.size (Array.replicate ops.size false) a w.drew):(Code.region id ops true).wp P Q a w :=
 wp_region_any hm (kK _ _ _ _ (h hS))
end
section
variable {P:Program} {ops:Array Oper} {Q:Exit->Act->World->Prop} {md:Region.Mode} {S:World->Prop} {T:List Nat}
theorem tk(D:List Nat)(i:Nat){d:Option Tmp}{op:Go.Op}{ty:TypeId}{pos:String}{after:Array Edge}{g:Option (Nat × Bool)}
  {v:Value} {fuel:Nat} {listed:Array Bool} {a:Act} {w:World} (hi:ops[i]?=some ⟨d,op,ty,pos,after,g⟩) (hS:S w)
  (h:bV P md ops Q S T fuel (listed.setIfInBounds i true) (a.put d v) w)
  (hy:YieldsIf P ops S ⟨d,op,ty,pos,after,g⟩ v a:=by(refine Or.inl ⟨by rfl,?_⟩;intro w' b;(try dsimp only at b);go_simp;first|done|with_reducible rfl))
  (hs:Region.noSelect ops=true:=by kernel_rfl) (hf:Region.free md ops listed i=true:=by kernel_rfl) (hr:(Region.ready md ops listed).contains i=true:=by kernel_rfl) (hw:(uN md ops i D&&!D.contains i&&(D.all fun t=>!listed.getD t true)&&T.all D.contains)=true:=by kernel_rfl)
  (hQ:∀c a w,Q (.panic c) (a.put d v) w->Q (.panic c) a w:=by exact fun _ _ _ h=>h):bV P md ops Q S T (fuel+1) listed a w:=takeT D hi hs hf hr hw hQ hy hS h
theorem r1(i:Nat){fuel:Nat}{listed:Array Bool}{a:Act}{w:World}{o:Oper}(ho:ops[i]?=some o)
  (h:∀K':Act->World->Prop,Shut (∀a w,S w->(S w->bV P md ops Q S T fuel (listed.setIfInBounds i true) a w)->K' a w)->if Region.wanted o (yielded ops a.tmps)=true then Oper.wp P o a w K' Q else K' (a.put o.dst undef) w)
  (hr:Region.ready md ops listed=[i]:=by kernel_rfl):bV P md ops Q S T (fuel+1) listed a w:=cN hr (by simp) (aI.cons ho h aI.nil)
theorem r2(i:Nat){fuel:Nat}{listed:Array Bool}{a:Act}{w:World}{o:Oper}(ho:ops[i]?=some o)
  (h:∀K':Act->World->Prop,Shut (∀a w,bV P md ops Q S T fuel (listed.setIfInBounds i true) a w->K' a w)->if Region.wanted o (yielded ops a.tmps)=true then Oper.wp P o a w K' Q else K' (a.put o.dst undef) w)
  (hr:Region.ready md ops listed=[i]:=by kernel_rfl) (hT:(T.any fun t=>(listed.setIfInBounds i true).getD t true)=true:=by kernel_rfl):bV P md ops Q S T (fuel+1) listed a w:=cN hr (by simp) (aI.last ho hT h)
end
abbrev sA:=@List.setIfInBounds_toArray
abbrev s0_:=@List.set_cons_zero
abbrev s1_:=@List.set_cons_succ
open Tape
def aQ:Array Value:=#[(),(),(),(),(),(),(),(),()]
structure De (w wr:World) (b g po:Nat) (X:List Nat) (Fin:World->Prop) (cs:Array Value) (r:Tp):Prop where
 tp:TpAt 174 wr b g r
 bp:Blk wr po 135 cs
 fin:ae X Fin wr
 bX:b∈X
 pX:po∈X
 qX:w.heap.size∈X
 hX:∀z∈X,z < wr.heap.size
 gl:g < wr.heap.size
 bp_:b≠po
 gp:g≠po
 wb:w.heap.size < b
 wp:w.heap.size < po
 bq:Blk wr w.heap.size 135 aQ
 k0:Kept [] w wr
section
variable {w wr w2:World} {b g po:Nat} {X X' S:List Nat} {Fin:World->Prop} {cs:Array Value} {r r':Tp}
theorem De.bl(h:De w wr b g po X Fin cs r):b < wr.heap.size:=h.hX b h.bX
theorem De.pl(h:De w wr b g po X Fin cs r):po < wr.heap.size:=h.hX po h.pX
theorem De.step(h:De w wr b g po X Fin cs r)(k:Kept S wr w2)(hb:b∉S)(hp:po∉S)(hg:g∉S)(hq:w.heap.size∉S)(h0:∀z∈S,w.heap.size<=z)(hS:∀z∈S,z < wr.heap.size->z∈X)(hX':∀z∈X',z∈X\/wr.heap.size<=z)(hlt:∀z∈X',z < w2.heap.size)(hXX:∀z∈X,z∈X') :
  De w w2 b g po X' Fin cs r := ⟨h.tp.keep k hb hg,h.bp.kept k hp,h.fin.step k hS hX',hXX _ h.bX,hXX _ h.pX,hXX _ h.qX,hlt,Nat.lt_of_lt_of_le h.gl k.size,h.bp_,h.gp,h.wb,h.wp,h.bq.kept k hq,h.k0.fresh k h0⟩
theorem De.read(h:De w wr b g po X Fin cs r)(k:Kept [b] wr w2)(tp:TpAt 174 w2 b g r'):De w w2 b g po X Fin cs r':=by
 have h1:=h.bp_;have h2:=h.wb
 exact⟨tp,h.bp.kept k (by simp;omega),h.fin.step k (fun z hz _=>by obtain rfl:=ms hz;exact h.bX) (fun z hz=>Or.inl hz),h.bX,h.pX,h.qX,fun z hz=>Nat.lt_of_lt_of_le (h.hX z hz) k.size,Nat.lt_of_lt_of_le h.gl k.size,
  h.bp_,h.gp,h.wb,h.wp,h.bq.kept k (by simp;omega),h.k0.fresh k (by simp;omega)⟩
theorem De.store(h:De w wr b g po X Fin cs r)(f:Nat)(v:Value):De w (wr.setCell ⟨po,f,none⟩ v) b g po X Fin (cs.setIfInBounds f v) r:=by
 have h1:=h.bp_;have h2:=h.gp;have h3:=h.wp;have k:Kept [po] wr (wr.setCell ⟨po,f,none⟩ v):=kr.setCell (by simp) _
 exact⟨h.tp.keep k (by simp;omega) (by simp;omega),h.bp.set_ f v,h.fin.step k (fun z hz _=>by obtain rfl:=ms hz;exact h.pX) (fun z hz=>Or.inl hz),h.bX,h.pX,h.qX,
  fun z hz=>by have:=h.hX z hz;simpa [World.setCell]using this,by have:=h.gl;simpa [World.setCell]using this,h.bp_,h.gp,h.wb,h.wp,h.bq.kept k (by simp;omega),h.k0.setCell (Or.inr (Nat.le_of_lt h3)) _⟩
theorem De.more(h:De w wr b g po X Fin cs r){Q:World->Prop}(hQ:ae X Q wr):De w wr b g po X (fun w=>Fin w/\Q w) cs r := ⟨h.tp,h.bp,h.fin.and hQ,h.bX,h.pX,h.qX,h.hX,h.gl,h.bp_,h.gp,h.wb,h.wp,h.bq,h.k0⟩
end
structure Dg {α:Type} (R:World->List Value->α->Prop) (m:Nat) (e:TypeId) (f:Nat) (w wr:World) (b g po B:Nat) (X:List Nat) (Fin:World->Prop) (cs:Array Value) (a:Option Addr) (n c:Nat) (l:List α) (r:Tp):Prop where
 de:De w wr b g po X Fin (cs.setIfInBounds f (.slice a n c)) r
 gr:Grow R m e B X wr (.slice a n c) l
 nl:n=l.length
 vX:∀z∈obl (.slice a n c),z∈X
 lb:b < B
 lp:po < B
 lg:g < B
 lq:w.heap.size < B
 lB:B<=wr.heap.size
section
variable {α:Type} {R:World->List Value->α->Prop} {m:Nat} {e:TypeId} {f:Nat} {w wr w1 u:World} {b g po B:Nat} {X:List Nat} {Fin:World->Prop} {cs:Array Value} {a:Option Addr} {n c:Nat} {l:List α} {r r':Tp}
theorem Dg.ge(h:Dg R m e f w wr b g po B X Fin cs a n c l r):∀z∈obl (.slice a n c),B<=z/\z < wr.heap.size:=h.gr.ge
theorem Dg.read(h:Dg R m e f w wr b g po B X Fin cs a n c l r)(k:Kept [b] wr w1)(tp:TpAt 174 w1 b g r'):Dg R m e f w w1 b g po B X Fin cs a n c l r' := ⟨h.de.read k tp,h.gr.step k (fun z hz hm=>by have:=h.ge z hz;have:=h.lb;rw[List.mem_singleton]at hm;omega) (fun z hz _=>by obtain rfl:=ms hz;exact h.de.bX) (fun z hz=>Or.inl hz),h.nl,h.vX,h.lb,h.lp,h.lg,h.lq,Nat.le_trans h.lB k.size⟩
theorem Dg.cell(h:Dg R m e f w wr b g po B X Fin cs a n c l r)(hf:f < cs.size):∀w',Kept (b::obl (.slice a n c)) wr w'->w'.cell? ⟨po,f,none⟩=some (.slice a n c):=fun w' k=>by
 have h1:=h.de.bp_;have h2:=h.lp
 rw[(h.de.bp.kept k (fun hm=>by
  rcases List.mem_cons.1 hm with e|e
  ·omega
  ·have:=h.ge _ e;omega)).cell f]
 simp[hf]
theorem Dg.frozen(h:Dg R m e f w wr b g po B X Fin cs a n c l r):∀w',Kept (b::obl (.slice a n c)) wr w'->w'.frozen? ⟨po,f,none⟩=false:=fun w' k=>by
 have h1:=h.de.bp_;have h2:=h.lp
 exact(h.de.bp.kept k (fun hm=>by
  rcases List.mem_cons.1 hm with e|e
  ·omega
  ·have:=h.ge _ e;omega)).frozen f
theorem rowS{Y:World}{k:Nat}(hk:Y.heap.size=k)(T:TypeId)(cs:List Value)(m:Nat)(hm:cs.length=m):Row (Y.alloc (.cells cs.toArray T)) m (.slice (some ⟨k,0,none⟩) 1 1) 1 cs :=
 hk▸aH (Blk.new Y T cs.toArray) (by omega) (by omega)
theorem Dg.pushed{y:World}{p:Option Addr}{q:Nat}{d:α}(D:Dg R m e f w w1 b g po B X Fin cs a n c l r')(ku:Kept [] w1 u)(G:Grow R m e B (X++obl (.slice p (l.length+1) q)) y (.slice p (l.length+1) q) (l++[d]))(k:Kept (obl (.slice a n c)) u y)
  (t:∀z∈obl (.slice p (l.length+1) q),z∈obl (.slice a n c)\/z=u.heap.size) :
  Kept (obl (.slice a n c)) w1 y/\∃X',Dg R m e f w (y.setCell ⟨po,f,none⟩ (.slice p (l.length+1) q)) b g po B X' Fin cs p (l.length+1) q (l++[d]) r'/\∀z∈X',z∈X\/w1.heap.size<=z:=by
 have L:=D.lB;have J:=ku.size;have x:=D.lb;have s:=D.lp;have v:=D.lg;have r:=D.lq;have h:=D.ge;have C:Kept (obl (.slice a n c)) w1 y:=(ku.mono (by simp)).trans k;have I:=k.size
 have i:∀z∈X++obl (.slice p (l.length+1) q),z∈X\/w1.heap.size<=z:=fun z hz=>by
  rcases List.mem_append.1 hz with e|e
  ·exact Or.inl e
  ·rcases t z e with e|e
   ·exact Or.inl (D.vX z e)
   ·exact Or.inr (by omega)
 refine⟨C,X++obl (.slice p (l.length+1) q),?_,i⟩
 have o:∀z∈X++obl (.slice p (l.length+1) q),z < y.heap.size:=fun z hz=>by
  rcases List.mem_append.1 hz with e|e
  ·have:=D.de.hX z e;omega
  ·exact(G.ge z e).2
 have M:De w y b g po (X++obl (.slice p (l.length+1) q)) Fin (cs.setIfInBounds f (.slice a n c)) r' :=
  D.de.step C (fun hm=>by have:=h _ hm;omega) (fun hm=>by have:=h _ hm;omega) (fun hm=>by have:=h _ hm;omega) (fun hm=>by have:=h _ hm;omega) (fun z hz=>by have:=h z hz;omega) (fun z hz _=>D.vX z hz)
   i o (fun z hz=>List.mem_append_left _ hz)
 have E:=M.store f (.slice p (l.length+1) q)
 have A:(cs.setIfInBounds f (.slice a n c)).setIfInBounds f (.slice p (l.length+1) q)=cs.setIfInBounds f (.slice p (l.length+1) q):=by
  apply Array.ext_getElem?
  intro j;simp only[Array.getElem?_setIfInBounds,Array.size_setIfInBounds]
  split <;> rfl
 rw[A]at E;have F:Kept [po] y (y.setCell ⟨po,f,none⟩ (.slice p (l.length+1) q)):=kr.setCell (by simp) _;refine⟨E,G.step F (fun z hz hm=>by have:=G.ge z hz;rw[List.mem_singleton]at hm;omega) (fun z hz _=>by obtain rfl:=ms hz;exact List.mem_append_left _ D.de.pX) (fun z hz=>Or.inl hz),by simp,fun z hz=>List.mem_append_right _ hz,x,s,v,r,?_⟩
 have:(y.setCell ⟨po,f,none⟩ (.slice p (l.length+1) q)).heap.size=y.heap.size:=by simp[World.setCell]
 omega
theorem jg{ops:Array Oper}{o:Oper}{ac:Act}{K:Act->World->Prop}{Q:Exit->Act->World->Prop}{E:Prop}(D:Dg R m e f w w1 b g po B X Fin cs a n c l r')(hgd:o.guard=none)(s x:Operand)(T:TypeId)
  (ho:o.op=.call { callee:=.builtin .append,args:=#[s,x],argTypes:=#[T,T] }) (i:TypeInfo) (z:Value) (bytes:Nat) (ht:Tryz.prog.underlying T=some (.slice e)) (hi:Tryz.prog.info? e=some i) (hz:i.zero=some z)
  (hsize:i.size=m) (hby:i.bytes=bytes) (hzs:z.cells.size=m) (hsz:0 < m) (hbs:bytes<=128)
  (hs:ac.eval s=.slice a n c) (v:Value) (hx:ac.eval x=v) (el:List Value) (d:α) (hrow:Row u m v 1 el) (ku:Kept [] w1 u) (hR:ae X (fun w=>R w el d) w1) (h1:∀u∈el,u.oneCell'=true) (hn:l.length<=1000000000)
  (h:∀p q y,Kept (obl (.slice a n c)) w1 y->(∃X',Dg R m e f w (y.setCell ⟨po,f,none⟩ (.slice p (l.length+1) q)) b g po B X' Fin cs p (l.length+1) q (l++[d]) r')->K (ac.put o.dst (.slice p (l.length+1) q)) y) :
  if Region.wanted o (yielded ops ac.tmps)=true then Oper.wp Tryz.prog o ac u K Q else E:=by
 have A:=D.lB;have r:=ku.size;refine aO hgd s x T ho i z bytes ht hi hz hsize hby hzs hsz hbs hs (D.gr.step (X':=X) ku (by simp) (by simp) (fun z hz=>Or.inl hz)) v el d hx hrow (hR.step ku (by simp) (fun z hz=>Or.inl hz)) h1 hn (by omega) D.vX ?_;intro p q y G k t;obtain⟨j,X',C,_⟩:=D.pushed ku G k t;exact h p q y j ⟨X',C⟩
theorem Dg.done(h:Dg R m e f w wr b g po B X Fin cs a n c l r)(hl:l.length<=9223372036854775807) :
  ∃X',De w wr b g po X' (fun w=>Fin w/\ag R m w (.slice a n c) l) (cs.setIfInBounds f (.slice a n c)) r/\(∀z∈X',z∈X)/\∀z∈obl (.slice a n c),z∉X':=by
 have t:=h.lb;have s:=h.lp;have q:=h.lq;have i:=h.ge
 let X':=X.filter fun z=>!(obl (.slice a n c)).contains z
 have k:=fun z (hz:z∈X')=>(List.mem_filter.1 hz).1;have o:∀z,z∈X->z∉obl (.slice a n c)->z∈X':=fun z hz hn=>List.mem_filter.2 ⟨hz,by simpa using hn⟩
 have p:∀z∈obl (.slice a n c),z∉X':=fun z hz hm=>by have:=(List.mem_filter.1 hm).2;simp at this;exact this hz
 refine⟨X',?_,k,p⟩;have d:=h.de;have j:ae X' (fun w=>Fin w/\ag R m w (.slice a n c) l) wr:=(d.fin.less (fun z hz=>Or.inl (k z hz))).and (h.gr.done (fun z hz=>Or.inl (k z hz)) p hl);exact⟨d.tp,d.bp,j,o _ d.bX (fun hm=>by have:=i _ hm;omega),o _ d.pX (fun hm=>by have:=i _ hm;omega),o _ d.qX (fun hm=>by have:=i _ hm;omega),fun z hz=>d.hX z (k z hz),d.gl,d.bp_,d.gp,d.wb,d.wp,d.bq,d.k0⟩
def GRel(R:World->List Value->α->Prop)(m:Nat)(e:TypeId)(f:Nat)(one:Tp->α × Tp)(w:World)(b g po B:Nat)(Fin:World->Prop)(cs:Array Value)(fin:List α × Tp)(N:Nat)(vi:Value)(wr:World):Prop :=
 ∃(k:Nat) (r:Tp) (acc:List α) (X:List Nat) (a:Option Addr) (n c:Nat),vi=acc.length/\acc.length+k=N/\aC one k r acc=fin/\r.left.length<=100000001/\Dg R m e f w wr b g po B X Fin cs a n c acc r
theorem GRel.next{one:Tp->α × Tp}{fin:List α × Tp}{N k:Nat}{acc:List α}{d:α}{p:Option Addr}{q:Nat}{wf:World}
  (h:∃X',Dg R m e f w wf b g po B X' Fin cs p (acc.length+1) q (acc++[d]) r) (hN:acc.length+(k+1)=N) (hf:aC one k r (acc++[d])=fin) (hr:r.left.length<=100000001) :
  GRel R m e f one w b g po B Fin cs fin N (.int .i64 ((acc.length:Int)+1)) wf:=by
 obtain⟨X',D⟩:=h;exact⟨k,r,acc++[d],X',p,acc.length+1,q,by simp,by simp;omega,hf,hr,D⟩
theorem Dg.start(D:De w wr b g po X Fin cs r)(hcs:cs.setIfInBounds f ()=cs):Dg R m e f w wr b g po wr.heap.size X Fin cs none 0 0 [] r := ⟨by rw[hcs];exact D,Grow.nil_ _ _ _ _ _ _,rfl,by simp[obl,Value.ownBlock],D.bl,D.pl,D.gl,D.hX _ D.qX,Nat.le_refl _⟩
end
end Go.Proofs.YtcidfldeiklcjaaGreatDoor
