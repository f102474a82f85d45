import Derived.Test.YtpcmamoomaddoaaGreatDoorMtp
set_option maxRecDepth 100000
set_option maxHeartbeats 32000000
namespace Go.Proofs.YtpcmamoomaddoaaGreatDoor
open Go.RowKit Go.Maps
def nats(l:List Nat):List Int:=l.map fun n:Nat=>(n:Int)
theorem bJ(l:List Nat):(nats l).length=l.length:=by simp[nats]
theorem lM(l:List Nat)(x:Nat):nats (l++[x])=nats l++[(x:Int)]:=by simp[nats]
theorem uN(l:List Nat)(j x:Nat):nats (l.set j x)=(nats l).set j (x:Int):=by simp[nats,List.map_set]
theorem uO{l:List Nat}{j:Nat}(h:j < l.length):(nats l)[j]'(by rw[bJ];exact h)=(l[j]:Int):=by simp[nats]
/-- the blocks of its variables -/
structure PC where
 pb:Nat
 rk:Nat
 kb:Nat
 rb:Nat
 tb:Nat
 trb:Nat
 gvb:Nat
 gb:Nat
 ab:Nat
 mp:Nat->Nat
def PC.ptr(b:Nat):Value:=.pointer (some ⟨b,0,none⟩)
def PC.caps(C:PC):Array Value:=#[PC.ptr C.rb,PC.ptr C.rk,PC.ptr C.tb,PC.ptr C.gvb,PC.ptr C.ab,PC.ptr C.pb]
def aB(T:List Bool):List Value:=T.map Value.bool
structure Pcl (W0 w:World) (C:PC) (N:Nat) (T:List Bool) (vr va:Value) (gf:Nat->Int->Option Value):Prop where
 k0:Kept [] W0 w
 hp:Blk w C.pb 155 #[.func (.func 225) #[] C.caps]
 hk:Blk w C.rk 159 #[.pointer (some ⟨C.kb,0,none⟩)]
 hr:Blk w C.rb 23 #[vr]
 ht:Blk w C.tb 200 #[.slice (some ⟨C.trb,0,none⟩) T.length T.length]
 htr:Blk w C.trb 4 (aB T).toArray
 hg:Blk w C.gvb 272 #[.slice (some ⟨C.gb,0,none⟩) 16 16]
 hgb:Blk w C.gb 95 ((List.range 16).map fun i=>Value.map (some (C.mp i))).toArray
 ha:Blk w C.ab 23 #[va]
 maps:∀i,i < 16->am aM w (C.mp i) N (gf i)
 low:W0.heap.size<=C.rb/\W0.heap.size<=C.trb/\∀i,i < 16->W0.heap.size<=C.mp i
 ne:C.rb≠C.ab
 mpi:∀i j,i < 16->j < 16->C.mp i=C.mp j->i=j
section
variable {W0 w w':World} {C:PC} {N:Nat} {T:List Bool} {vr va:Value} {gf:Nat->Int->Option Value} {S:List Nat}
theorem Blk.ne_type{b b':Nat}{t t':TypeId}{cs cs':Array Value}(h:Blk w b t cs)(k:Blk w b' t' cs')(hne:t≠t'):b≠b':=by
 rintro rfl
 unfold Blk at h k
 rw[h]at k;injection k with k;injection k with _ k;exact hne k
/-- blocks of ints turned, and others that are new -/
theorem Pcl.ints(h:Pcl W0 w C N T vr va gf)(k:Kept S w w')(hS:∀z∈S,z < w.heap.size->W0.heap.size<=z/\∃cur,Blk w z 3 cur):Pcl W0 w' C N T vr va gf:=by
 have a:∀ {b t cs},Blk w b t cs->t≠3->b∉S:=fun{b t cs} hb ht hm=>by
  obtain⟨_,cur,c⟩:=hS b hm hb.lt;exact(hb.ne_type c ht) rfl
 refine⟨h.k0.then_ k fun z c hm=>absurd (hS z hm (Nat.lt_of_lt_of_le c h.k0.size)).1 (by omega),h.hp.kept k (a h.hp (by decide)),h.hk.kept k (a h.hk (by decide)),h.hr.kept k (a h.hr (by decide)),h.ht.kept k (a h.ht (by decide)),h.htr.kept k (a h.htr (by decide)),h.hg.kept k (a h.hg (by decide)),h.hgb.kept k (a h.hgb (by decide)),h.ha.kept k (a h.ha (by decide)),fun i hi=>(h.maps i hi).kept k fun hm=>?_,h.low,h.ne,h.mpi⟩;obtain⟨_,cur,c⟩:=hS _ hm (h.maps i hi).lt;exact(h.maps i hi).ne_blk c rfl
theorem Pcl.kept0(h:Pcl W0 w C N T vr va gf)(k:Kept [] w w'):Pcl W0 w' C N T vr va gf:=h.ints k fun _ hz=>by cases hz
/-- the variable reached -/
theorem Pcl.setr(h:Pcl W0 w C N T vr va gf)(v:Value):Pcl W0 (w.setCell ⟨C.rb,0,none⟩ v) C N T v va gf:=by
 have k:Kept [C.rb] w (w.setCell ⟨C.rb,0,none⟩ v):=(Kept.refl _ _).setCell (Or.inl (by simp)) _
 have c:∀ {b t cs},Blk w b t cs->t≠23->b∉[C.rb]:=fun{b t cs} hb ht=>by simpa using hb.ne_type h.hr ht
 refine⟨h.k0.then_ k fun z hz hm=>by rw[List.mem_singleton]at hm;have:=h.low.1;omega,h.hp.kept k (c h.hp (by decide)),h.hk.kept k (c h.hk (by decide)),h.hr.set_ 0 v,h.ht.kept k (c h.ht (by decide)),h.htr.kept k (c h.htr (by decide)),h.hg.kept k (c h.hg (by decide)),h.hgb.kept k (c h.hgb (by decide)),h.ha.kept k (by simpa using Ne.symm h.ne),fun i hi=>(h.maps i hi).kept k (by simpa using(h.maps i hi).ne_blk h.hr),h.low,h.ne,h.mpi⟩
/-- a member has been tried -/
theorem Pcl.tried(h:Pcl W0 w C N T vr va gf)(m:Nat):Pcl W0 (w.setCell ⟨C.trb,m,none⟩ (.bool true)) C N (T.set m true) vr va gf:=by
 have k:Kept [C.trb] w (w.setCell ⟨C.trb,m,none⟩ (.bool true)):=(Kept.refl _ _).setCell (Or.inl (by simp)) _
 have c:∀ {b t cs},Blk w b t cs->t≠4->b∉[C.trb]:=fun{b t cs} hb ht=>by simpa using hb.ne_type h.htr ht
 refine⟨h.k0.then_ k fun z hz hm=>by rw[List.mem_singleton]at hm;have:=h.low.2.1;omega,h.hp.kept k (c h.hp (by decide)),h.hk.kept k (c h.hk (by decide)),h.hr.kept k (c h.hr (by decide)),?_,?_,h.hg.kept k (c h.hg (by decide)),h.hgb.kept k (c h.hgb (by decide)),h.ha.kept k (c h.ha (by decide)),fun i hi=>(h.maps i hi).kept k (by simpa using(h.maps i hi).ne_blk h.htr),h.low,h.ne,h.mpi⟩
 ·rw[List.length_set];exact h.ht.kept k (c h.ht (by decide))
 ·have:=h.htr.set_ m (.bool true)
  rwa [show(aB T).toArray.setIfInBounds m (.bool true)=(aB (T.set m true)).toArray by simp[aB,List.map_set]]at this
/-- a map of members has a new entry -/
theorem Pcl.put(h:Pcl W0 w C N T vr va gf){i:Nat}(hi:i < 16){g:Int->Option Value}(hm:am aM w' (C.mp i) (N+1) g)(hg:w.grownBy w' (some (C.mp i))) :
  Pcl W0 w' C (N+1) T vr va fun j=>if j=i then g else gf j:=by
 have k:Kept [C.mp i] w w':=Kept.of_turned hg (by simp)
 have a:∀ {b t cs},Blk w b t cs->b∉[C.mp i]:=fun{b t cs} hb=>by simpa using Ne.symm ((h.maps i hi).ne_blk hb)
 refine⟨h.k0.then_ k fun z hz hm=>by rw[List.mem_singleton]at hm;have:=h.low.2.2 i hi;omega,h.hp.kept k (a h.hp),h.hk.kept k (a h.hk),h.hr.kept k (a h.hr),h.ht.kept k (a h.ht),h.htr.kept k (a h.htr),h.hg.kept k (a h.hg),h.hgb.kept k (a h.hgb),h.ha.kept k (a h.ha),fun j hj=>?_,h.low,h.ne,h.mpi⟩
 by_cases e:j=i
 ·subst e;rw[if_pos rfl];exact hm
 ·rw[if_neg e];exact((h.maps j hj).kept k (by simpa using fun e2=>e (h.mpi j i hj hi e2))).mono (by omega)
end
/-- the lists: of each member for each window, the uses reached, what has been assigned -/
def rlOf(R:List Nat)(A:List Int)(G:Gv):Nat->Nat->List Int:=fun i m=>if i < 16 then nats (G i m)else if i=16/\m=0 then nats R else if i=17/\m=0 then A else[]
def gfOf(rv:Nat->Nat->Value)(G:Gv)(i:Nat):Int->Option Value:=fun z=>if 0<=z/\G i z.toNat≠[]then some (rv i z.toNat)else none
structure Pst (W0 w:World) (C:PC) (N:Nat) (rv:Nat->Nat->Value) (R:List Nat) (A:List Int) (T:List Bool) (G:Gv):Prop where
 cl:Pcl W0 w C N T (rv 16 0) (rv 17 0) (gfOf rv G)
 rws:Rws W0.heap.size w rv (rlOf R A G)
section
variable {W0 w w':World} {C:PC} {N:Nat} {rv:Nat->Nat->Value} {R:List Nat} {A:List Int} {T:List Bool} {G:Gv} {S:List Nat} {i m x:Nat}
theorem uv(hi:i < 16):rlOf R A G i m=nats (G i m):=if_pos hi
theorem gY:rlOf R A G 16 0=nats R:=by simp[rlOf]
theorem pO:rlOf R A G 17 0=A:=by simp[rlOf]
theorem lF{R':List Nat}:upd2 (rlOf R A G) 16 0 (nats R')=rlOf R' A G:=by
 funext i m
 unfold upd2 rlOf
 by_cases e:i=16/\m=0
 ·simp[e]
 ·rw[if_neg e,if_neg e,if_neg e]
theorem wd{A':List Int}:upd2 (rlOf R A G) 17 0 A'=rlOf R A' G:=by
 funext i m
 unfold upd2 rlOf
 by_cases e:i=17/\m=0
 ·simp[e]
 ·rw[if_neg e,if_neg e,if_neg e]
theorem qY(hi:i < 16){l:List Nat}:upd2 (rlOf R A G) i m (nats l)=rlOf R A (updG G i m l):=by
 funext i' m'
 unfold upd2 rlOf updG
 by_cases e:i'=i/\m'=m
 ·obtain⟨rfl,rfl⟩:=e
  simp[hi]
 ·rw[if_neg e,if_neg e]
theorem Pst.obl_int(h:Pst W0 w C N rv R A T G){z:Nat}(hz:z∈obl (rv i m)):W0.heap.size<=z/\∃cur,Blk w z 3 cur:=by
 rcases(h.rws.own i m).2 with⟨h1,_⟩|⟨g,cap,cur,h1,h2,h3,_⟩
 ·rw[h1]at hz;simp[obl,Value.ownBlock]at hz
 ·rw[h1]at hz;have:=dr hz;injection this with this;subst this;exact⟨h2,cur,h3⟩
theorem Pst.kept0(h:Pst W0 w C N rv R A T G)(k:Kept [] w w'):Pst W0 w' C N rv R A T G:=⟨h.cl.kept0 k,h.rws.kept0 k⟩
/-- one row of ints turned or moved -/
theorem Pst.turn(h:Pst W0 w C N rv R A T G)(k:Kept (obl (rv i m)) w w'){v:Value}{l:List Int}(hv:w'.ownsRow W0.heap.size 3 1 v l.length (ints l))(hz:∀z∈obl v,z∈obl (rv i m)\/w.heap.size<=z) :
  Pcl W0 w' C N T (rv 16 0) (rv 17 0) (gfOf rv G)/\Rws W0.heap.size w' (upd2 rv i m v) (upd2 (rlOf R A G) i m l) := ⟨h.cl.ints k fun _ hz _=>h.obl_int hz,h.rws.turn k (fun i' m' hne z h1 h2=>h.rws.apart i' m' i m (fun e=>hne ⟨e.1.symm,e.2.symm⟩) z h1 h2) hv hz⟩
/-- a use has been reached -/
theorem Pst.reach(h:Pst W0 w C N rv R A T G)(k:Kept (obl (rv 16 0)) w w'){v:Value}(hv:w'.ownsRow W0.heap.size 3 1 v (nats (R++[x])).length (ints (nats (R++[x]))))(hz:∀z∈obl v,z∈obl (rv 16 0)\/w.heap.size<=z) :
  Pst W0 (w'.setCell ⟨C.rb,0,none⟩ v) C N (upd2 rv 16 0 v) (R++[x]) A T G:=by
 obtain⟨d,b⟩:=h.turn k hv hz;rw[lF]at b;have a:=d.setr v;refine⟨?_,b.kept (S:=[C.rb]) ((Kept.refl _ _).setCell (Or.inl (by simp)) _) fun i m z hz hm=>?_⟩
 ·rw[dd,bF (by decide)];rw[show gfOf (upd2 rv 16 0 v) G=gfOf (upd2 rv 16 0 v) G from rfl];refine⟨a.k0,a.hp,a.hk,a.hr,a.ht,a.htr,a.hg,a.hgb,a.ha,fun i hi=>(a.maps i hi).congr fun y _=>?_,a.low,a.ne,a.mpi⟩
  unfold gfOf
  rw[bF (by omega)]
 ·rw[List.mem_singleton]at hm;subst hm
  rcases(b.own i m).2 with⟨c,_⟩|⟨g,j,f,c,_,e,_⟩
  ·rw[c]at hz;simp[obl,Value.ownBlock]at hz
  ·rw[c]at hz;have:=dr hz;injection this with this;exact Blk.ne_type (w:=w') e d.hr (by decide) this
theorem Pst.tried(h:Pst W0 w C N rv R A T G)(m:Nat):Pst W0 (w.setCell ⟨C.trb,m,none⟩ (.bool true)) C N rv R A (T.set m true) G := ⟨h.cl.tried m,h.rws.kept (S:=[C.trb]) ((Kept.refl _ _).setCell (Or.inl (by simp)) _) fun i m z hz hm=>by
  rw[List.mem_singleton]at hm;obtain⟨_,cur,hb⟩:=h.obl_int hz
  exact hb.ne_type h.cl.htr (by decide) hm⟩
theorem yx{v:Value}{l:List Nat}(hl:l≠[])(j:Nat)(y:Int):(if j=i then(fun y:Int=>if y=(m:Int)then some v else gfOf rv G i y)else gfOf rv G j) y=gfOf (upd2 rv i m v) (updG G i m l) j y:=by
 unfold gfOf
 by_cases e:j=i
 ·subst e;rw[if_pos rfl]
  by_cases e2:y=(m:Int)
  ·subst e2;rw[if_pos rfl,Int.toNat_natCast,cQ,dd,if_pos ⟨by omega,hl⟩]
  ·rw[if_neg e2]
   by_cases e3:0<=y
   ·have e4:y.toNat≠m:=by omega
    rw[cG (fun h=>e4 h.2),bF (fun h=>e4 h.2)]
   ·rw[if_neg (fun h=>e3 h.1),if_neg (fun h=>e3 h.1)]
 ·rw[if_neg e,cG (fun h=>e h.1),bF (fun h=>e h.1)]
/-- a member has a further use: the row grown, then the entry of the map -/
theorem Pst.put{w2:World}(h:Pst W0 w C N rv R A T G)(hi:i < 16)(k:Kept (obl (rv i m)) w w2){v:Value}(hv:w2.ownsRow W0.heap.size 3 1 v (nats (G i m++[x])).length (ints (nats (G i m++[x]))))(hz:∀z∈obl v,z∈obl (rv i m)\/w.heap.size<=z)
  (hm:am aM w' (C.mp i) (N+1) fun y=>if y=(m:Int)then some v else gfOf rv G i y) (hg:w2.grownBy w' (some (C.mp i))):Pst W0 w' C (N+1) (upd2 rv i m v) R A T (updG G i m (G i m++[x])):=by
 obtain⟨f,c⟩:=h.turn k hv hz;rw[qY hi]at c;have b:=f.put hi hm hg;refine⟨?_,c.kept (S:=[C.mp i]) (Kept.of_turned hg (by simp)) fun i' m' z hz hm=>?_⟩
 ·rw[bF (by omega),bF (by omega)];exact⟨b.k0,b.hp,b.hk,b.hr,b.ht,b.htr,b.hg,b.hgb,b.ha,fun j hj=>(b.maps j hj).congr fun y _=>(yx (by simp) j y).symm,b.low,b.ne,b.mpi⟩
 ·rw[List.mem_singleton]at hm;subst hm
  rcases(c.own i' m').2 with⟨d,_⟩|⟨g,n,e,d,_,l,_⟩
  ·rw[d]at hz;simp[obl,Value.ownBlock]at hz
  ·rw[d]at hz;have:=dr hz;injection this with this;exact(f.maps i hi).ne_blk (show Blk w2 g 3 e from l) this.symm
/-- an entry of a member's list is another use now -/
theorem Pst.swap(h:Pst W0 w C N rv R A T G)(hi:i < 16){j:Nat}(hj:j < (G i m).length):∃g c,rv i m=.slice (some ⟨g,0,none⟩) (G i m).length c/\w.cell? ⟨g,j,none⟩=some (.int .i64 ((G i m)[j]:Int))/\w.frozen? ⟨g,j,none⟩=false /\
  ∀x:Nat,Pst W0 (w.setCell ⟨g,j,none⟩ (.int .i64 (x:Int))) C N rv R A T (updG G i m ((G i m).set j x)):=by
 have l:=h.rws.own i m;rw[uv hi]at l;obtain⟨g,c,q,t,p,s,r⟩:=qd l (j:=j) (by rw[bJ];exact hj);rw[uO hj]at p;rw[bJ]at q;refine⟨g,c,q,p,s,fun x=>?_⟩;have n:=r x;rw[<-uN]at n;have k:Kept (obl (rv i m)) w (w.setCell ⟨g,j,none⟩ (.int .i64 (x:Int))):=(Kept.refl _ _).setCell (Or.inl t) _;obtain⟨b,o⟩:=h.turn k n fun _ hz=>Or.inl hz;rw[qY hi,lx rfl]at o;refine⟨⟨b.k0,b.hp,b.hk,b.hr,b.ht,b.htr,b.hg,b.hgb,b.ha,fun i' hi'=>(b.maps i' hi').congr fun y _=>?_,b.low,b.ne,b.mpi⟩,o⟩
 unfold gfOf
 by_cases e:i'=i/\y.toNat=m
 ·obtain⟨rfl,e⟩:=e
  have f:G i' m≠[]:=fun h0=>by rw[h0]at hj;simp at hj
  have d:(G i' m).set j x≠[]:=fun h0=>f (by simpa using h0);rw[e,cQ]
  by_cases e0:0<=y
  ·rw[if_pos ⟨e0,d⟩,if_pos ⟨e0,f⟩]
  ·rw[if_neg (fun h=>e0 h.1),if_neg (fun h=>e0 h.1)]
 ·rw[cG e]
/-- the list of a member, as the map has it -/
theorem Pst.look(h:Pst W0 w C N rv R A T G)(hi:i < 16)(m:Nat):∃a c,(gfOf rv G i (m:Int)).getD (.slice none 0 0)=.slice a (G i m).length c/\w.ownsRow W0.heap.size 3 1 (.slice a (G i m).length c) (G i m).length (ints (nats (G i m))) /\
  (∀z∈obl (.slice a (G i m).length c),z∈obl (rv i m))/\(G i m≠[]->.slice a (G i m).length c=rv i m):=by
 have b:=h.rws.own i m;rw[uv hi]at b;obtain⟨a,c,e,_⟩:=cT b;rw[bJ]at e b
 unfold gfOf
 rw[Int.toNat_natCast]
 by_cases hne:G i m=[]
 ·rw[if_neg (fun h=>h.2 hne),hne];exact⟨none,0,rfl,⟨rfl,Or.inl ⟨rfl,rfl⟩⟩,fun z hz=>by simp[obl,Value.ownBlock]at hz,fun h=>absurd rfl h⟩
 ·rw[if_pos ⟨by omega,hne⟩];refine⟨a,c,e,?_,fun z hz=>by rw[e];exact hz,fun _=>e.symm⟩;rw[e]at b;exact b
/-- what a use is assigned to -/
theorem Pst.assign(h:Pst W0 w C N rv R A T G){j:Nat}(hj:j < A.length):∃g c,rv 17 0=.slice (some ⟨g,0,none⟩) A.length c/\(∃u,w.cell? ⟨g,j,none⟩=some (.int .i64 u))/\w.frozen? ⟨g,j,none⟩=false /\
  ∀x:Int,Pst W0 (w.setCell ⟨g,j,none⟩ (.int .i64 x)) C N rv R (A.set j x) T G:=by
 have ho:=h.rws.own 17 0;rw[pO]at ho;obtain⟨g,c,e1,e2,e3,e4,e5⟩:=qd ho hj;refine⟨g,c,e1,⟨_,e3⟩,e4,fun x=>?_⟩;have k:Kept (obl (rv 17 0)) w (w.setCell ⟨g,j,none⟩ (.int .i64 x)):=(Kept.refl _ _).setCell (Or.inl e2) _;obtain⟨h1,h2⟩:=h.turn k (e5 x) fun _ hz=>Or.inl hz;rw[wd,lx rfl]at h2;exact⟨h1,h2⟩
end
end Go.Proofs.YtpcmamoomaddoaaGreatDoor
namespace Go.Proofs.YtpcmamoomaddoaaGreatDoor
open Go.RowKit
open Go.Proofs.Tryz
def bI(m:Mb)(w:Nat):Int:=(m.tickets[w]?).getD 0
theorem nE{w:World}{cs:List Value}{m:Mb}(h:MbR w cs m)(k:Nat)(hk:k < 100)(hl:m.tickets.length<=1000) :
  Calls prog 226 #[.agg cs.toArray,.int .i64 (k:Int)] w fun e w'=>e=.returned (.int .i64 (bI m k))/\Kept [] w w':=by
 obtain⟨D,C,rfl,o,c⟩:=h;obtain⟨x,v,rfl,_,_⟩:=aj.form o;obtain⟨n,l⟩:∃n,m.tickets.length=n:=⟨_,rfl⟩;obtain⟨u,b⟩:∃n,m.binds.length=n:=⟨_,rfl⟩;obtain⟨R,f⟩:∃R,bI m k=R:=⟨_,rfl⟩;rw[l]at c hl;obtain⟨j,i,rfl,_,r⟩:=c.form;rw[b,f];obtain⟨W,d⟩:∃W,w.alloc (.cells #[.slice x u v,.slice j n i,.int .i64 m.rev] 74)=W:=⟨_,rfl⟩;have a:Kept [] w W:=d▸(Kept.refl _ _).alloc _;have q:Blk W w.heap.size 74 #[.slice x u v,.slice j n i,.int .i64 m.rev]:=d▸Blk.new _ _ _;have F:W.cell? ⟨w.heap.size,1,none⟩=some (.slice j n i):=q.cell 1;have y:=Lib.hid d;have z:=Lib.hid a
 by_cases hlt:k < n
 ·have hlt':(k:Int) < (n:Int):=by omega
  have E:(k:Int) < (9223372036854775808:Int):=by omega
  obtain⟨A,g,rfl,s⟩:=c.at_ (by omega)
  have B:W.cell? ⟨A,g+k,none⟩=some (.int .i64 R):=Kept.cellOf (by
   rw[<-f]
   unfold bI
   have t:k < m.tickets.length:=by omega
   rw[List.getElem?_eq_getElem t]
   exact s k _ (bu t)) _ a
  clear d a q o c s l f b
  go_enter func226,ntmps226
  go_upto_region 1 with(fail);have hW':=y.out;rw[hW'];clear hW';go_wp2_with fail;go_ret;exact⟨rfl,z.out⟩
 ·have p:R=0:=by
   rw[<-f]
   unfold bI
   rw[List.getElem?_eq_none (by omega)]
   rfl
  subst p
  have hlt':¬(k:Int) < (n:Int):=by omega
  clear d a q o c l f b
  go_enter func226,ntmps226
  go_upto_region 1 with(fail);have hW':=y.out;rw[hW'];clear hW';go_wp2_with fail;go_ret;exact⟨rfl,z.out⟩
end Go.Proofs.YtpcmamoomaddoaaGreatDoor
namespace Go.Proofs.YtpcmamoomaddoaaGreatDoor
def tf(T:List Bool)(m:Nat):Bool:=(T[m]?).getD false
theorem mG{T:List Bool}{m:Nat}(h:m < T.length)(k:Nat):tf (T.set m true) k=(decide (k=m) ||tf T k):=by
 unfold tf
 by_cases e:k=m
 ·subst e;simp[h]
 ·rw[List.getElem?_set_ne (Ne.symm e)];simp[e]
/-- how many have not been tried -/
def untr(T:List Bool):Nat:=T.count false
theorem tR{T:List Bool}{m:Nat}(h:m < T.length)(hm:tf T m=false):untr (T.set m true) < untr T:=by
 unfold untr
 have h1:T[m]=false:=by unfold tf at hm;simpa [h]using hm
 have h2:=List.count_set (l:=T) (i:=m) (a:=true) (b:=false) h;have h3:0 < T.count false:=List.count_pos_iff.2 (h1▸List.getElem_mem h);rw[h2,h1]
 simp
 omega
theorem vT{T T':List Bool}(hl:T'.length=T.length)(h:∀m,tf T m=true->tf T' m=true):untr T'<=untr T:=by
 unfold untr
 induction T generalizing T' with
 |nil=>obtain rfl:=List.eq_nil_of_length_eq_zero hl;exact Nat.le_refl _
 |cons a T ih =>
  match T',hl with
  |b::T',hl =>
   have h1:=ih (T':=T') (by simpa using hl) fun m hm=>by have:=h (m+1) (by simpa [tf]using hm);simpa [tf]using this
   have h2:=h 0;rw[List.count_cons,List.count_cons]
   cases a <;> cases b <;> simp[tf]at h2 ⊢ <;> omega
def wt(M:Mt)(G:Gv)(w:Nat)(T:Nat->Bool):Nat:=sumN (fun m=>if T m=true then 0 else(G w m).length) M.nm
section
variable {M:Mt} {G:Gv} {w x k i:Nat} {T Tc Td:Nat->Bool} {R Rc Rd:List Nat}
theorem vM(hk:k < M.nm)(h0:Tc k=false)(hd:∀m,Td m=(decide (m=k) ||Tc m)):wt M G w Td+(G w k).length=wt M G w Tc:=by
 unfold wt
 have h1:sumN (fun m=>if Tc m=true then 0 else(G w m).length) M.nm=sumN (fun m=>(if Td m=true then 0 else(G w m).length)+if m=k then(G w k).length else 0) M.nm:=dT fun m _=>by
  by_cases e:m=k
  ·subst e;rw[hd,if_pos rfl,h0]
   simp
  ·rw[hd,if_neg e]
   simp[e]
 rw[h1,eC,dS _ hk]
/-- the members before k have been looked at -/
structure Half (M:Mt) (G:Gv) (w x k:Nat) (T Tc:Nat->Bool) (R Rc:List Nat):Prop where
 tm:∀m,T m=true->Tc m=true
 rm:∀u∈R,u∈Rc
 me:x∈Rc
 some:∀u∈Rc,u∈R\/u=x\/∃m,u∈G w m
 shut:∀u∈Rc,u∈R\/u=x\/(M.win u=w/\∀m,M.can u m=true->Tc m=true)
 full:∀m,Tc m=true->T m=true\/(M.cap m w<=(G w m).length/\∀u∈G w m,u∈Rc)
 upto:∀m,m < k->M.can x m=true->Tc m=true
 room:Rc.length+wt M G w Tc<=R.length+1+wt M G w T
theorem Half.start:Half M G w x 0 T T R (R++[x]) := ⟨fun _ h=>h,fun u h=>List.mem_append_left _ h,by simp,fun u h=>by simpa [or_assoc]using(List.mem_append.1 h).imp id fun h=>Or.inl (List.mem_singleton.1 h),fun u h=>(List.mem_append.1 h).imp id fun h=>Or.inl (List.mem_singleton.1 h),
  fun _ h=>Or.inl h,fun m h=>absurd h (by omega),by simp⟩
theorem Half.skip(h:Half M G w x k T Tc R Rc)(hs:M.can x k=false\/Tc k=true):Half M G w x (k+1) T Tc R Rc := ⟨h.tm,h.rm,h.me,h.some,h.shut,h.full,fun m hm hc=>by
  by_cases e:m=k
  ·subst e
   rcases hs with hs|hs
   ·rw[hs]at hc;cases hc
   ·exact hs
  ·exact h.upto m (by omega) hc,h.room⟩
theorem Half.done(h:Half M G w x M.nm T Tc R Rc)(hw:M.win x=w):Stuck M G w x T Tc R Rc := ⟨h.tm,h.rm,h.me,h.some,fun u hu=>(h.shut u hu).imp id fun h1=>h1.elim (fun e=>by subst e;exact⟨hw,fun m hc=>h.upto m (M.low _ _ hc) hc⟩) id,h.full⟩
/-- of member k's uses, those before i have been looked at -/
structure Quar (M:Mt) (G:Gv) (w x k i:Nat) (T Tc:Nat->Bool) (R Rc:List Nat):Prop where
 tm:∀m,T m=true->Tc m=true
 tk:Tc k=true
 rm:∀u∈R,u∈Rc
 me:x∈Rc
 some:∀u∈Rc,u∈R\/u=x\/∃m,u∈G w m
 shut:∀u∈Rc,u∈R\/u=x\/(M.win u=w/\∀m,M.can u m=true->Tc m=true)
 full:∀m,Tc m=true->T m=true\/m=k\/(M.cap m w<=(G w m).length/\∀u∈G w m,u∈Rc)
 upto:∀m,m < k->M.can x m=true->Tc m=true
 vis:∀j u,j < i->(G w k)[j]?=.some u->u∈Rc
 room:Rc.length+wt M G w Tc+(G w k).length<=R.length+1+wt M G w T+i
theorem Half.mark(h:Half M G w x k T Tc R Rc)(hk:k < M.nm)(h0:Tc k=false)(hd:∀m,Td m=(decide (m=k) ||Tc m)):Quar M G w x k 0 T Td R Rc:=by
 have up:∀ {m},Tc m=true->Td m=true:=fun{m} hm=>by rw[hd,hm,Bool.or_true]
 refine⟨fun m hm=>up (h.tm m hm),by rw[hd];simp,h.rm,h.me,h.some,fun u hu=>(h.shut u hu).imp id fun h1=>h1.imp id fun h2=>⟨h2.1,fun m hm=>up (h2.2 m hm)⟩,fun m hm=>?_,fun m hm hc=>up (h.upto m hm hc),fun j u hj=>absurd hj (by omega),?_⟩
 ·rw[hd]at hm
  by_cases e:m=k
  ·exact Or.inr (Or.inl e)
  ·exact(h.full m (by simpa [e]using hm)).imp id Or.inr
 ·have h1:=vM (G:=G) (w:=w) hk h0 hd;have h2:=h.room;omega
theorem Quar.step{y:Nat}(h:Quar M G w x k i T Tc R Rc)(hy:(G w k)[i]?=.some y)(s:Stuck M G w y Tc Td Rc Rd)(hr:Rd.length+wt M G w Td<=Rc.length+1+wt M G w Tc):Quar M G w x k (i+1) T Td R Rd:=by
 refine⟨fun m hm=>s.tm m (h.tm m hm),s.tm k h.tk,fun u hu=>s.rm u (h.rm u hu),s.rm x h.me,fun u hu=>?_,fun u hu=>?_,fun m hm=>?_,fun m hm hc=>s.tm m (h.upto m hm hc),fun j u hj hu=>?_,?_⟩
 ·rcases s.some u hu with b|rfl|b
  ·exact h.some u b
  ·exact Or.inr (Or.inr ⟨k,List.mem_of_getElem? hy⟩)
  ·exact Or.inr (Or.inr b)
 ·rcases s.shut u hu with b|b
  ·rcases h.shut u b with a|a|a
   ·exact Or.inl a
   ·exact Or.inr (Or.inl a)
   ·exact Or.inr (Or.inr ⟨a.1,fun m hm=>s.tm m (a.2 m hm)⟩)
  ·exact Or.inr (Or.inr b)
 ·rcases s.full m hm with b|b
  ·rcases h.full m b with a|a|a
   ·exact Or.inl a
   ·exact Or.inr (Or.inl a)
   ·exact Or.inr (Or.inr ⟨a.1,fun u hu=>s.rm u (a.2 u hu)⟩)
  ·exact Or.inr (Or.inr b)
 ·by_cases e:j=i
  ·subst e;rw[hy]at hu;injection hu with hu;subst hu;exact s.me
  ·exact s.rm u (h.vis j u (by omega) hu)
 ·have b:=h.room;omega
theorem Quar.done(h:Quar M G w x k (G w k).length T Tc R Rc)(hf:M.cap k w<=(G w k).length):Half M G w x (k+1) T Tc R Rc:=by
 refine⟨h.tm,h.rm,h.me,h.some,h.shut,fun m hm=>?_,fun m hm hc=>?_,by have:=h.room;omega⟩
 ·rcases h.full m hm with h1|rfl|h1
  ·exact Or.inl h1
  ·refine Or.inr ⟨hf,fun u hu=>?_⟩;obtain⟨j,hj⟩:=List.getElem?_of_mem hu;exact h.vis j u (List.getElem?_eq_some_iff.1 hj).1 hj
  ·exact Or.inr h1
 ·by_cases e:m=k
  ·subst e;exact h.tk
  ·exact h.upto m (by omega) hc
end
open Go.Maps Go.RowKit
def SlV(v:Value):Prop:=∃a n c,v=.slice a n c
def fK(w:World)(c:List Value)(l:List Bool):Prop:=∃v,c=[v]/\Row w 1 v l.length (aB l)
structure Rck (W0:World) (kb:Nat) (c:Crw) (can:List (List Bool)):Prop where
 rows:∃vq vm vu vh vc,Blk W0 kb 199 #[vq,vm,vu,vh,vc]/\aj MbR 3 W0 vm c.ms/\aj SnR 4 W0 vu c.us/\aj fK 1 W0 vc can/\SlV vq/\SlV vh
 len:can.length=c.us.length
 lens:∀l∈can,l.length=c.ms.length
 us:c.us.length<=4096/\∀x∈c.us,0<=x.win/\x.win < 16
 ms:c.ms.length<=64/\∀m∈c.ms,m.tickets.length<=16/\∀t∈m.tickets,0<=t/\t<=4096
def winB(c:Crw)(u:Nat):Nat:=((c.us[u]?).map fun x=>x.win.toNat).getD 0
def capB(c:Crw)(m w:Nat):Nat:=((c.ms[m]?).map fun x=>(bI x w).toNat).getD 0
def canB(can:List (List Bool))(u m:Nat):Bool:=tf ((can[u]?).getD []) m
def mtOf(c:Crw)(can:List (List Bool))(h:∀l∈can,l.length=c.ms.length):Mt where
 nm:=c.ms.length
 win:=winB c
 can:=canB can
 cap:=capB c
 low u m hm:=by
  unfold canB tf at hm
  cases hu:can[u]? with
  |none=>rw[hu]at hm;simp at hm
  |some l =>
   rw[hu]at hm;have h1:=h l (List.mem_of_getElem? hu)
   rcases Nat.lt_or_ge m l.length with h2|h2
   ·omega
   ·rw[show((some l).getD []:List Bool)=l from rfl,List.getElem?_eq_none h2]at hm;cases hm
/-- what looking for a place leaves -/
def PlE(W0:World)(C:PC)(M:Mt)(x N:Nat)(rv:Nat->Nat->Value)(R:List Nat)(A:List Int)(T:List Bool)(G:Gv)(e:Ending)(w':World):Prop :=
 ∃rv' R' A' T' G' N' b,e=.returned (.bool b)/\Pst W0 w' C N' rv' R' A' T' G'/\N'<=N+1/\A'.length=A.length/\T'.length=T.length/\(∀m,tf T m=true->tf T' m=true)/\(∀i m,i < 16->tf T m=true->rv' i m=rv i m) /\
  (if b=true then Added M (tf T) x G G' else(G'=G/\N'=N/\Stuck M G (M.win x) x (tf T) (tf T') R R'/\R'.length+wt M G (M.win x) (tf T')<=R.length+1+wt M G (M.win x) (tf T)))
def mz(W0:World)(C:PC)(M:Mt)(nu:Nat)(d:Nat):Prop:=∀(w:World) (N:Nat) (rv:Nat->Nat->Value) (R:List Nat) (A:List Int) (T:List Bool) (G:Gv) (x:Nat),
 untr T < d->Pst W0 w C N rv R A T G->GoodG M G->x < nu->T.length=M.nm->A.length=nu->R.length+wt M G (M.win x) (tf T)<=500000000->N<=1000000 ->
 Calls Tryz.prog 225 #[.int .i64 (x:Int),.pointer (some ⟨C.rb,0,none⟩),.pointer (some ⟨C.rk,0,none⟩),.pointer (some ⟨C.tb,0,none⟩),.pointer (some ⟨C.gvb,0,none⟩),.pointer (some ⟨C.ab,0,none⟩),.pointer (some ⟨C.pb,0,none⟩)] w (PlE W0 C M x N rv R A T G)
section
variable {W0:World} {kb:Nat} {c:Crw} {can:List (List Bool)}
/-- a use: its window, and the row of who can have it -/
theorem Rck.use(h:Rck W0 kb c can){x:Nat}(hx:x < c.us.length):∃(s:Sn) (l:List Bool),c.us[x]?=some s/\can[x]?=some l/\l.length=c.ms.length/\s.win=(winB c x:Int)/\winB c x < 16/\∀m,canB can x m=tf l m:=by
 have hx2:x < can.length:=by rw[h.len];exact hx
 refine⟨c.us[x],can[x],List.getElem?_eq_getElem hx,List.getElem?_eq_getElem hx2,h.lens _ (List.getElem_mem hx2),?_,?_,fun m=>?_⟩
 ·have:=h.us.2 _ (List.getElem_mem hx)
  unfold winB
  rw[List.getElem?_eq_getElem hx]
  simp
  omega
 ·have:=h.us.2 _ (List.getElem_mem hx)
  unfold winB
  rw[List.getElem?_eq_getElem hx]
  simp
  omega
 ·unfold canB
  rw[List.getElem?_eq_getElem hx2]
  rfl
theorem Rck.mem(h:Rck W0 kb c can){m:Nat}(hm:m < c.ms.length)(w:Nat):∃x:Mb,c.ms[m]?=some x/\x.tickets.length<=16/\bI x w=(capB c m w:Int)/\capB c m w<=4096:=by
 have h1:=h.ms.2 _ (List.getElem_mem hm);refine⟨c.ms[m],List.getElem?_eq_getElem hm,h1.1,?_,?_⟩
 ·unfold capB
  rw[List.getElem?_eq_getElem hm]
  have h2:0<=bI c.ms[m] w:=by
   unfold bI
   cases ht:c.ms[m].tickets[w]? with
   |none=>simp
   |some t=>have:=h1.2 t (List.mem_of_getElem? ht);simp;omega
  simp
  omega
 ·unfold capB
  rw[List.getElem?_eq_getElem hm]
  have h2:bI c.ms[m] w<=4096:=by
   unfold bI
   cases ht:c.ms[m].tickets[w]? with
   |none=>simp
   |some t=>have:=h1.2 t (List.mem_of_getElem? ht);simp;omega
  simp
  omega
end
end Go.Proofs.YtpcmamoomaddoaaGreatDoor
