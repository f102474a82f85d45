import Derived.Test.YtcidfldeiklcjaaGreatDoorDeS
import Derived.Test.YtcidfldeiklcjaaGreatDoorRwq
set_option maxRecDepth 100000
set_option maxHeartbeats 32000000
namespace Go.Proofs.YtcidfldeiklcjaaGreatDoor
open Go.RowKit Tape
def TR{α:Type}(one:Tp->α × Tp)(k:Nat)(r:Tp)(acc:List α)(fin:List α × Tp):Prop:=(r.bad=false/\aC one k r acc=fin)\/(r=dT/\fin.2.bad=true)
theorem mJ{α:Type}{enc:α->List Int}{one:Tp->α × Tp}(c:Codec enc one){k:Nat}{r:Tp}{acc:List α}(h:r.bad=true):(aC one k r acc).2.bad=true:=by
 cases hb:(aC one k r acc).2.bad
 ·obtain⟨_,_,_,h3,_⟩:=je c k r acc hb
  rw[h]at h3;cases h3
 ·rfl
theorem TR.start{α:Type}{enc:α->List Int}{one:Tp->α × Tp}(c:Codec enc one){r q:Tp}{v:Nat}(h:Stg count r v q):TR one v q [] (many one r):=by
 rcases h with⟨h1,h2,h3⟩|⟨h1,h2⟩
 ·exact Or.inl ⟨h3▸h1,by rw[h2,h3];rfl⟩
 ·exact Or.inr ⟨h2,mJ c h1⟩
theorem TR.step{α:Type}{enc:α->List Int}{one:Tp->α × Tp}(c:Codec enc one){k:Nat}{r r':Tp}{acc:List α}{v:α}{fin:List α × Tp}(h:TR one (k+1) r acc fin)(hb:r.bad=false)(hs:Stg one r v r'):TR one k r' (acc++[v]) fin:=by
 rcases h with⟨_,h2⟩|⟨h1,_⟩
 ·rw[bO]at h2
  rcases hs with⟨x1,x2,x3⟩|⟨x1,x2⟩
  ·exact Or.inl ⟨x3▸x1,by rw[x2,x3];exact h2⟩
  ·exact Or.inr ⟨x2,by rw[<-h2];exact mJ c x1⟩
 ·rw[h1]at hb;cases hb
theorem TR.done{α:Type}{one:Tp->α × Tp}{k:Nat}{r r0:Tp}{acc:List α}(h:TR one k r acc (many one r0))(hk:k=0\/r.bad=true):Stg (many one) r0 acc r:=by
 rcases h with⟨h1,h2⟩|⟨h1,h2⟩
 ·rcases hk with rfl|hk
  ·have h3:many one r0=(acc,r):=h2.symm;exact Or.inl ⟨by rw[h3];exact h1,by rw[h3],by rw[h3]⟩
  ·rw[h1]at hk;cases hk
 ·exact Or.inr ⟨h2,h1⟩
structure Qe (w wr:World) (b g po:Nat) (X:List Nat) (Fin:World->Prop) (cs:Array Value) (r:Tp):Prop where
 tp:RwAt 233 wr b g r
 bp:Blk wr po 135 cs
 fin:ae X Fin wr
 bX:b∈X
 pX:po∈X
 qX:w.heap.size∈X
 hX:∀z∈X,z < wr.heap.size
 gl:g < wr.heap.size
 bp_:b≠po
 gp:g≠po
 wb:w.heap.size < b
 wp:w.heap.size < po
 bq:Blk wr w.heap.size 135 aQ
 k0:Kept [] w wr
section
variable {w wr w2:World} {b g po:Nat} {X X' S:List Nat} {Fin:World->Prop} {cs:Array Value} {r r':Tp}
theorem Qe.bl(h:Qe w wr b g po X Fin cs r):b < wr.heap.size:=h.hX b h.bX
theorem Qe.pl(h:Qe w wr b g po X Fin cs r):po < wr.heap.size:=h.hX po h.pX
theorem Qe.step(h:Qe w wr b g po X Fin cs r)(k:Kept S wr w2)(hb:b∉S)(hp:po∉S)(hg:g∉S)(hq:w.heap.size∉S)(h0:∀z∈S,w.heap.size<=z)(hS:∀z∈S,z < wr.heap.size->z∈X)(hX':∀z∈X',z∈X\/wr.heap.size<=z)(hlt:∀z∈X',z < w2.heap.size)(hXX:∀z∈X,z∈X') :
  Qe w w2 b g po X' Fin cs r := ⟨h.tp.keep k hb hg,h.bp.kept k hp,h.fin.step k hS hX',hXX _ h.bX,hXX _ h.pX,hXX _ h.qX,hlt,Nat.lt_of_lt_of_le h.gl k.size,h.bp_,h.gp,h.wb,h.wp,h.bq.kept k hq,h.k0.fresh k h0⟩
theorem Qe.read(h:Qe w wr b g po X Fin cs r)(k:Kept [b] wr w2)(tp:RwAt 233 w2 b g r'):Qe w w2 b g po X Fin cs r':=by
 have h1:=h.bp_;have h2:=h.wb
 exact⟨tp,h.bp.kept k (by simp;omega),h.fin.step k (fun z hz _=>by obtain rfl:=ms hz;exact h.bX) (fun z hz=>Or.inl hz),h.bX,h.pX,h.qX,fun z hz=>Nat.lt_of_lt_of_le (h.hX z hz) k.size,Nat.lt_of_lt_of_le h.gl k.size,
  h.bp_,h.gp,h.wb,h.wp,h.bq.kept k (by simp;omega),h.k0.fresh k (by simp;omega)⟩
theorem Qe.store(h:Qe w wr b g po X Fin cs r)(f:Nat)(v:Value):Qe w (wr.setCell ⟨po,f,none⟩ v) b g po X Fin (cs.setIfInBounds f v) r:=by
 have h1:=h.bp_;have h2:=h.gp;have h3:=h.wp;have k:Kept [po] wr (wr.setCell ⟨po,f,none⟩ v):=kr.setCell (by simp) _
 exact⟨h.tp.keep k (by simp;omega) (by simp;omega),h.bp.set_ f v,h.fin.step k (fun z hz _=>by obtain rfl:=ms hz;exact h.pX) (fun z hz=>Or.inl hz),h.bX,h.pX,h.qX,
  fun z hz=>by have:=h.hX z hz;simpa [World.setCell]using this,by have:=h.gl;simpa [World.setCell]using this,h.bp_,h.gp,h.wb,h.wp,h.bq.kept k (by simp;omega),h.k0.setCell (Or.inr (Nat.le_of_lt h3)) _⟩
theorem Qe.more(h:Qe w wr b g po X Fin cs r){Q:World->Prop}(hQ:ae X Q wr):Qe w wr b g po X (fun w=>Fin w/\Q w) cs r := ⟨h.tp,h.bp,h.fin.and hQ,h.bX,h.pX,h.qX,h.hX,h.gl,h.bp_,h.gp,h.wb,h.wp,h.bq,h.k0⟩
end
structure Qg {α:Type} (R:World->List Value->α->Prop) (m:Nat) (e:TypeId) (f:Nat) (w wr:World) (b g po B:Nat) (X:List Nat) (Fin:World->Prop) (cs:Array Value) (a:Option Addr) (n c:Nat) (l:List α) (r:Tp):Prop where
 de:Qe w wr b g po X Fin (cs.setIfInBounds f (.slice a n c)) r
 gr:Grow R m e B X wr (.slice a n c) l
 nl:n=l.length
 vX:∀z∈obl (.slice a n c),z∈X
 lb:b < B
 lp:po < B
 lg:g < B
 lq:w.heap.size < B
 lB:B<=wr.heap.size
section
variable {α:Type} {R:World->List Value->α->Prop} {m:Nat} {e:TypeId} {f:Nat} {w wr w1 u:World} {b g po B:Nat} {X:List Nat} {Fin:World->Prop} {cs:Array Value} {a:Option Addr} {n c:Nat} {l:List α} {r r':Tp}
theorem Qg.ge(h:Qg R m e f w wr b g po B X Fin cs a n c l r):∀z∈obl (.slice a n c),B<=z/\z < wr.heap.size:=h.gr.ge
theorem Qg.read(h:Qg R m e f w wr b g po B X Fin cs a n c l r)(k:Kept [b] wr w1)(tp:RwAt 233 w1 b g r'):Qg R m e f w w1 b g po B X Fin cs a n c l r' := ⟨h.de.read k tp,h.gr.step k (fun z hz hm=>by have:=h.ge z hz;have:=h.lb;rw[List.mem_singleton]at hm;omega) (fun z hz _=>by obtain rfl:=ms hz;exact h.de.bX) (fun z hz=>Or.inl hz),h.nl,h.vX,h.lb,h.lp,h.lg,h.lq,Nat.le_trans h.lB k.size⟩
theorem Qg.cell(h:Qg R m e f w wr b g po B X Fin cs a n c l r)(hf:f < cs.size):∀w',Kept (b::obl (.slice a n c)) wr w'->w'.cell? ⟨po,f,none⟩=some (.slice a n c):=fun w' k=>by
 have h1:=h.de.bp_;have h2:=h.lp
 rw[(h.de.bp.kept k (fun hm=>by
  rcases List.mem_cons.1 hm with e|e
  ·omega
  ·have:=h.ge _ e;omega)).cell f]
 simp[hf]
theorem Qg.frozen(h:Qg R m e f w wr b g po B X Fin cs a n c l r):∀w',Kept (b::obl (.slice a n c)) wr w'->w'.frozen? ⟨po,f,none⟩=false:=fun w' k=>by
 have h1:=h.de.bp_;have h2:=h.lp
 exact(h.de.bp.kept k (fun hm=>by
  rcases List.mem_cons.1 hm with e|e
  ·omega
  ·have:=h.ge _ e;omega)).frozen f
theorem Qg.pushed{y:World}{p:Option Addr}{q:Nat}{d:α}(D:Qg R m e f w w1 b g po B X Fin cs a n c l r')(ku:Kept [] w1 u)(G:Grow R m e B (X++obl (.slice p (l.length+1) q)) y (.slice p (l.length+1) q) (l++[d]))(k:Kept (obl (.slice a n c)) u y)
  (t:∀z∈obl (.slice p (l.length+1) q),z∈obl (.slice a n c)\/z=u.heap.size) :
  Kept (obl (.slice a n c)) w1 y/\∃X',Qg R m e f w (y.setCell ⟨po,f,none⟩ (.slice p (l.length+1) q)) b g po B X' Fin cs p (l.length+1) q (l++[d]) r'/\∀z∈X',z∈X\/w1.heap.size<=z:=by
 have L:=D.lB;have J:=ku.size;have x:=D.lb;have s:=D.lp;have v:=D.lg;have r:=D.lq;have h:=D.ge;have C:Kept (obl (.slice a n c)) w1 y:=(ku.mono (by simp)).trans k;have I:=k.size
 have i:∀z∈X++obl (.slice p (l.length+1) q),z∈X\/w1.heap.size<=z:=fun z hz=>by
  rcases List.mem_append.1 hz with e|e
  ·exact Or.inl e
  ·rcases t z e with e|e
   ·exact Or.inl (D.vX z e)
   ·exact Or.inr (by omega)
 refine⟨C,X++obl (.slice p (l.length+1) q),?_,i⟩
 have o:∀z∈X++obl (.slice p (l.length+1) q),z < y.heap.size:=fun z hz=>by
  rcases List.mem_append.1 hz with e|e
  ·have:=D.de.hX z e;omega
  ·exact(G.ge z e).2
 have M:Qe w y b g po (X++obl (.slice p (l.length+1) q)) Fin (cs.setIfInBounds f (.slice a n c)) r' :=
  D.de.step C (fun hm=>by have:=h _ hm;omega) (fun hm=>by have:=h _ hm;omega) (fun hm=>by have:=h _ hm;omega) (fun hm=>by have:=h _ hm;omega) (fun z hz=>by have:=h z hz;omega) (fun z hz _=>D.vX z hz)
   i o (fun z hz=>List.mem_append_left _ hz)
 have E:=M.store f (.slice p (l.length+1) q)
 have A:(cs.setIfInBounds f (.slice a n c)).setIfInBounds f (.slice p (l.length+1) q)=cs.setIfInBounds f (.slice p (l.length+1) q):=by
  apply Array.ext_getElem?
  intro j;simp only[Array.getElem?_setIfInBounds,Array.size_setIfInBounds]
  split <;> rfl
 rw[A]at E;have F:Kept [po] y (y.setCell ⟨po,f,none⟩ (.slice p (l.length+1) q)):=kr.setCell (by simp) _;refine⟨E,G.step F (fun z hz hm=>by have:=G.ge z hz;rw[List.mem_singleton]at hm;omega) (fun z hz _=>by obtain rfl:=ms hz;exact List.mem_append_left _ D.de.pX) (fun z hz=>Or.inl hz),by simp,fun z hz=>List.mem_append_right _ hz,x,s,v,r,?_⟩
 have:(y.setCell ⟨po,f,none⟩ (.slice p (l.length+1) q)).heap.size=y.heap.size:=by simp[World.setCell]
 omega
theorem gB{ops:Array Oper}{o:Oper}{ac:Act}{K:Act->World->Prop}{Q:Exit->Act->World->Prop}{E:Prop}(D:Qg R m e f w w1 b g po B X Fin cs a n c l r')(hgd:o.guard=none)(s x:Operand)(T:TypeId)
  (ho:o.op=.call { callee:=.builtin .append,args:=#[s,x],argTypes:=#[T,T] }) (i:TypeInfo) (z:Value) (bytes:Nat) (ht:Tryz.prog.underlying T=some (.slice e)) (hi:Tryz.prog.info? e=some i) (hz:i.zero=some z)
  (hsize:i.size=m) (hby:i.bytes=bytes) (hzs:z.cells.size=m) (hsz:0 < m) (hbs:bytes<=128)
  (hs:ac.eval s=.slice a n c) (v:Value) (hx:ac.eval x=v) (el:List Value) (d:α) (hrow:Row u m v 1 el) (ku:Kept [] w1 u) (hR:ae X (fun w=>R w el d) w1) (h1:∀u∈el,u.oneCell'=true) (hn:l.length<=1000000000)
  (h:∀p q y,Kept (obl (.slice a n c)) w1 y->(∃X',Qg R m e f w (y.setCell ⟨po,f,none⟩ (.slice p (l.length+1) q)) b g po B X' Fin cs p (l.length+1) q (l++[d]) r')->K (ac.put o.dst (.slice p (l.length+1) q)) y) :
  if Region.wanted o (yielded ops ac.tmps)=true then Oper.wp Tryz.prog o ac u K Q else E:=by
 have A:=D.lB;have r:=ku.size;refine aO hgd s x T ho i z bytes ht hi hz hsize hby hzs hsz hbs hs (D.gr.step (X':=X) ku (by simp) (by simp) (fun z hz=>Or.inl hz)) v el d hx hrow (hR.step ku (by simp) (fun z hz=>Or.inl hz)) h1 hn (by omega) D.vX ?_;intro p q y G k t;obtain⟨j,X',C,_⟩:=D.pushed ku G k t;exact h p q y j ⟨X',C⟩
theorem Qg.done(h:Qg R m e f w wr b g po B X Fin cs a n c l r)(hl:l.length<=9223372036854775807) :
  ∃X',Qe w wr b g po X' (fun w=>Fin w/\ag R m w (.slice a n c) l) (cs.setIfInBounds f (.slice a n c)) r/\(∀z∈X',z∈X)/\∀z∈obl (.slice a n c),z∉X':=by
 have t:=h.lb;have s:=h.lp;have q:=h.lq;have i:=h.ge
 let X':=X.filter fun z=>!(obl (.slice a n c)).contains z
 have k:=fun z (hz:z∈X')=>(List.mem_filter.1 hz).1;have o:∀z,z∈X->z∉obl (.slice a n c)->z∈X':=fun z hz hn=>List.mem_filter.2 ⟨hz,by simpa using hn⟩
 have p:∀z∈obl (.slice a n c),z∉X':=fun z hz hm=>by have:=(List.mem_filter.1 hm).2;simp at this;exact this hz
 refine⟨X',?_,k,p⟩;have d:=h.de;have j:ae X' (fun w=>Fin w/\ag R m w (.slice a n c) l) wr:=(d.fin.less (fun z hz=>Or.inl (k z hz))).and (h.gr.done (fun z hz=>Or.inl (k z hz)) p hl);exact⟨d.tp,d.bp,j,o _ d.bX (fun hm=>by have:=i _ hm;omega),o _ d.pX (fun hm=>by have:=i _ hm;omega),o _ d.qX (fun hm=>by have:=i _ hm;omega),fun z hz=>d.hX z (k z hz),d.gl,d.bp_,d.gp,d.wb,d.wp,d.bq,d.k0⟩
def QRel(R:World->List Value->α->Prop)(m:Nat)(e:TypeId)(f:Nat)(one:Tp->α × Tp)(w:World)(b g po B:Nat)(Fin:World->Prop)(cs:Array Value)(fin:List α × Tp)(N:Nat)(vi:Value)(wr:World):Prop :=
 ∃(k:Nat) (r:Tp) (acc:List α) (X:List Nat) (a:Option Addr) (n c:Nat),vi=.int .i64 (k:Int)/\acc.length+k=N/\TR one k r acc fin/\Qg R m e f w wr b g po B X Fin cs a n c acc r
theorem QRel.next{one:Tp->α × Tp}{fin:List α × Tp}{N k:Nat}{acc:List α}{d:α}{p:Option Addr}{q:Nat}{wf:World}
  (h:∃X',Qg R m e f w wf b g po B X' Fin cs p (acc.length+1) q (acc++[d]) r) (hN:acc.length+(k+1)=N) (hf:TR one k r (acc++[d]) fin) :
  QRel R m e f one w b g po B Fin cs fin N (.int .i64 (k:Int)) wf:=by
 obtain⟨X',D⟩:=h;exact⟨k,r,acc++[d],X',p,acc.length+1,q,rfl,by simp;omega,hf,D⟩
theorem Qg.start(D:Qe w wr b g po X Fin cs r)(hcs:cs.setIfInBounds f ()=cs):Qg R m e f w wr b g po wr.heap.size X Fin cs none 0 0 [] r := ⟨by rw[hcs];exact D,Grow.nil_ _ _ _ _ _ _,rfl,by simp[obl,Value.ownBlock],D.bl,D.pl,D.gl,D.hX _ D.qX,Nat.le_refl _⟩
end
structure QfI (wr w2:World) (b g:Nat) (X:List Nat) (ad:Option Addr) (n cd:Nat) (aa:Option Addr) (m ca:Nat) (ds:List Int) (as_:List (List Int)) (r:Tp):Prop where
 tp:RwAt 247 w2 b g r
 kb:Kept [b] wr w2
 nd:n=ds.length
 na:m=as_.length
 od:w2.ownsRow wr.heap.size 3 1 (.slice ad n cd) n (ints ds)
 ga:∃X2,(∀z∈X,z∈X2)/\(∀z∈X2,z < w2.heap.size)/\(∀z∈obl (.slice ad n cd),z∈X2)/\(∀z∈obl (.slice aa m ca),z∈X2)/\Grow aM 1 24 wr.heap.size X2 w2 (.slice aa m ca) as_
 dis:∀z∈obl (.slice ad n cd),z∉obl (.slice aa m ca)
 bX:b∈X
 bl:b < wr.heap.size
 gl:g < wr.heap.size
section
variable {wr w2 w3:World} {b g:Nat} {X:List Nat} {ad aa ad' aa':Option Addr} {n n' m m' cd cd' ca ca':Nat} {ds:List Int} {as_:List (List Int)} {r r':Tp}
theorem QfI.le(h:QfI wr w2 b g X ad n cd aa m ca ds as_ r):wr.heap.size<=w2.heap.size:=h.kb.size
theorem QfI.ged(h:QfI wr w2 b g X ad n cd aa m ca ds as_ r):∀z∈obl (.slice ad n cd),wr.heap.size<=z/\z < w2.heap.size:=ak h.od
theorem QfI.gea(h:QfI wr w2 b g X ad n cd aa m ca ds as_ r):∀z∈obl (.slice aa m ca),wr.heap.size<=z/\z < w2.heap.size:=by
 obtain⟨X2,_,_,_,_,G⟩:=h.ga;exact G.ge
theorem QfI.keep(h:QfI wr w2 b g X ad n cd aa m ca ds as_ r)(k:Kept [] w2 w3):QfI wr w3 b g X ad n cd aa m ca ds as_ r:=by
 obtain⟨X2,x1,x2,x3,x4,G⟩:=h.ga
 exact⟨h.tp.keep k (by simp) (by simp),h.kb.trans (k.mono (by simp)),h.nd,h.na,af h.od k (by simp), ⟨X2,x1,fun z hz=>Nat.lt_of_lt_of_le (x2 z hz) k.size,x3,x4,G.step k (by simp) (by simp) (fun z hz=>Or.inl hz)⟩,h.dis,h.bX,h.bl,h.gl⟩
theorem QfI.alloc(h:QfI wr w2 b g X ad n cd aa m ca ds as_ r)(x:Obj):QfI wr (w2.alloc x) b g X ad n cd aa m ca ds as_ r:=h.keep (kr.alloc _)
theorem QfI.read(h:QfI wr w2 b g X ad n cd aa m ca ds as_ r)(k:Kept [b] w2 w3)(tp:RwAt 247 w3 b g r'):QfI wr w3 b g X ad n cd aa m ca ds as_ r':=by
 obtain⟨X2,x1,x2,x3,x4,G⟩:=h.ga;have hb:=h.bl;have h1:=h.ged;have h2:=h.gea
 have e1:∀z∈obl (.slice ad n cd),z∉[b]:=fun z hz hm=>by have:=h1 z hz;rw[List.mem_singleton]at hm;omega
 have e2:∀z∈obl (.slice aa m ca),z∉[b]:=fun z hz hm=>by have:=h2 z hz;rw[List.mem_singleton]at hm;omega
 exact⟨tp,h.kb.trans k,h.nd,h.na,af h.od k e1, ⟨X2,x1,fun z hz=>Nat.lt_of_lt_of_le (x2 z hz) k.size,x3,x4,G.step k e2 (fun z hz _=>by obtain rfl:=ms hz;exact x1 _ h.bX) (fun z hz=>Or.inl hz)⟩,h.dis,h.bX,h.bl,h.gl⟩
theorem QfI.pushd(h:QfI wr w2 b g X ad n cd aa m ca ds as_ r){x:Int}(k:Kept (obl (.slice ad n cd)) w2 w3)(hn:n'=n+1)(own1:w3.ownsRow wr.heap.size 3 1 (.slice ad' n' cd') n' (ints (ds++[x])))
  (hat:∀z∈obl (.slice ad' n' cd'),z∈obl (.slice ad n cd)\/z=w2.heap.size):QfI wr w3 b g X ad' n' cd' aa m ca (ds++[x]) as_ r:=by
 obtain⟨q,o,l,i,j,G⟩:=h.ga;have u:=h.bl;have t:=h.gl;have f:=h.ged;have p:=h.gea;have s:=k.size;have d:=ak own1
 refine⟨h.tp.keep k (fun c=>by have:=f _ c;omega) (fun c=>by have:=f _ c;omega),h.kb.then_ k (fun z a c=>by have:=f z c;omega),by rw[hn,h.nd];simp,h.na,own1, ⟨q++obl (.slice ad' n' cd'),fun z a=>List.mem_append_left _ (o z a),fun z a=>?_,fun z a=>List.mem_append_right _ a,fun z a=>List.mem_append_left _ (j z a),G.step k (fun z a c=>h.dis z c a) (fun z a _=>i z a) (fun z a=>?_)⟩,?_,h.bX,h.bl,h.gl⟩
 ·rcases List.mem_append.1 a with h|h
  ·have:=l z h;omega
  ·exact(d z h).2
 ·rcases List.mem_append.1 a with h|h
  ·exact Or.inl h
  ·rcases hat z h with e|e
   ·exact Or.inl (i z e)
   ·exact Or.inr (by omega)
 ·intro z a c
  rcases hat z a with e|e
  ·exact h.dis z e c
  ·have:=p z c;omega
theorem QfI.pusha(h:QfI wr w2 b g X ad n cd aa m ca ds as_ r){x:List Int}{X2:List Nat}(x1:∀z∈X,z∈X2)(x2:∀z∈X2,z < w2.heap.size)(x3:∀z∈obl (.slice ad n cd),z∈X2)
  (k:Kept (obl (.slice aa m ca)) w2 w3) (hm:m'=m+1) (G:Grow aM 1 24 wr.heap.size (X2++obl (.slice aa' m' ca')) w3 (.slice aa' m' ca') (as_++[x]))
  (hat:∀z∈obl (.slice aa' m' ca'),z∈obl (.slice aa m ca)\/z=w2.heap.size):QfI wr w3 b g X ad n cd aa' m' ca' ds (as_++[x]) r:=by
 have j:=h.bl;have i:=h.gl;have d:=h.ged;have c:=h.gea;have f:=k.size
 refine⟨h.tp.keep k (fun hm=>by have:=c _ hm;omega) (fun hm=>by have:=c _ hm;omega),h.kb.then_ k (fun z a hm=>by have:=c z hm;omega),h.nd,by rw[hm,h.na];simp,af h.od k (fun z a hm=>h.dis z a hm), ⟨X2++obl (.slice aa' m' ca'),fun z a=>List.mem_append_left _ (x1 z a),fun z a=>?_,fun z a=>List.mem_append_left _ (x3 z a),fun z a=>List.mem_append_right _ a,G⟩,?_,h.bX,h.bl,h.gl⟩
 ·rcases List.mem_append.1 a with h|h
  ·have:=x2 z h;omega
  ·exact(G.ge z h).2
 ·intro z a hm
  rcases hat z hm with e|e
  ·exact h.dis z a e
  ·have:=d z a;omega
end
structure QfO (w wr:World) (b g po B:Nat) (X:List Nat) (a1:Option Addr) (n1 c1:Nat) (a2:Option Addr) (n2 c2:Nat) (A:List (List Int)) (C:List (List (List Int))) (r:Tp):Prop where
 tp:RwAt 247 wr b g r
 bp:Blk wr po 133 #[.slice a1 n1 c1,.slice a2 n2 c2]
 e1:n1=A.length
 e2:n2=C.length
 g1:Grow aM 1 24 B X wr (.slice a1 n1 c1) A
 g2:Grow bJ 1 55 B X wr (.slice a2 n2 c2) C
 dis:∀z∈obl (.slice a1 n1 c1),z∉obl (.slice a2 n2 c2)
 bX:b∈X
 pX:po∈X
 hX:∀z∈X,z < wr.heap.size
 x1:∀z∈obl (.slice a1 n1 c1),z∈X
 x2:∀z∈obl (.slice a2 n2 c2),z∈X
 lb:b < B
 lp:po < B
 lg:g < B
 le:B<=wr.heap.size
 bp_:b≠po
 gp:g≠po
 k0:Kept [] w wr
 wb:w.heap.size < b
 wp:w.heap.size < po
 qX:w.heap.size∈X
 bq:Blk wr w.heap.size 133 #[(),()]
 rX:∀z,z < w.heap.size->z∈X
section
variable {w wr w2 w3:World} {b g po B:Nat} {X:List Nat} {a1 a2 a1' a2':Option Addr} {n1 n1' c1 c1' n2 n2' c2 c2':Nat} {A:List (List Int)} {C:List (List (List Int))} {r r':Tp}
theorem QfO.ge1(h:QfO w wr b g po B X a1 n1 c1 a2 n2 c2 A C r):∀z∈obl (.slice a1 n1 c1),B<=z/\z < wr.heap.size:=h.g1.ge
theorem QfO.ge2(h:QfO w wr b g po B X a1 n1 c1 a2 n2 c2 A C r):∀z∈obl (.slice a2 n2 c2),B<=z/\z < wr.heap.size:=h.g2.ge
theorem QfO.read(h:QfO w wr b g po B X a1 n1 c1 a2 n2 c2 A C r)(k:Kept [b] wr w2)(tp:RwAt 247 w2 b g r'):QfO w w2 b g po B X a1 n1 c1 a2 n2 c2 A C r':=by
 have f:=h.lb;have e:=h.ge1;have d:=h.ge2;have c:=h.bp_;have a:=h.wb
 refine⟨tp,h.bp.kept k (by simp;omega),h.e1,h.e2,h.g1.step k (fun z hz hm=>?_) (fun z hz _=>?_) (fun z hz=>Or.inl hz),h.g2.step k (fun z hz hm=>?_) (fun z hz _=>?_) (fun z hz=>Or.inl hz),h.dis,h.bX,h.pX,fun z hz=>Nat.lt_of_lt_of_le (h.hX z hz) k.size,h.x1,h.x2,h.lb,h.lp,h.lg,Nat.le_trans h.le k.size,h.bp_,h.gp,
  h.k0.fresh k (fun z hz=>by rw[List.mem_singleton]at hz;omega),h.wb,h.wp,h.qX,h.bq.kept k (by simp;omega),h.rX⟩
 ·have:=e z hz;rw[List.mem_singleton]at hm;omega
 ·obtain rfl:=ms hz;exact h.bX
 ·have:=d z hz;rw[List.mem_singleton]at hm;omega
 ·obtain rfl:=ms hz;exact h.bX
theorem QfO.push1(h:QfO w wr b g po B X a1 n1 c1 a2 n2 c2 A C r){u:World}{d:List Int}(ku:Kept [] wr u)(k:Kept (obl (.slice a1 n1 c1)) u w2)
  (G1:Grow aM 1 24 B (X++obl (.slice a1' n1' c1')) w2 (.slice a1' n1' c1') (A++[d])) (m1:n1'=A.length+1) (t:∀z∈obl (.slice a1' n1' c1'),z∈obl (.slice a1 n1 c1)\/z=u.heap.size) :
  ∃X',QfO w (w2.setCell ⟨po,0,none⟩ (.slice a1' n1' c1')) b g po B X' a1' n1' c1' a2 n2 c2 (A++[d]) C r/\(∀P:World->Prop,ae X P wr->ae X' P (w2.setCell ⟨po,0,none⟩ (.slice a1' n1' c1'))):=by
 have o:=h.ge1;have s:=h.ge2;have I:=h.lb;have F:=h.lp;have G:=h.lg;have y:=h.bp_;have x:=h.gp;have p:=h.wp;have v:=h.wb;have E:=ku.size;have D:=k.size;have q:=G1.ge;have i:Kept (obl (.slice a1 n1 c1)) wr w2:=(ku.mono (by simp)).trans k;have j:Kept [po] w2 (w2.setCell ⟨po,0,none⟩ (.slice a1' n1' c1')):=kr.setCell (by simp) _
 have l:(w2.setCell ⟨po,0,none⟩ (.slice a1' n1' c1')).heap.size=w2.heap.size:=by simp[World.setCell]
 have f:∀z∈[po],z < w2.heap.size->z∈X++obl (.slice a1' n1' c1'):=fun z a _=>by obtain rfl:=ms a;exact List.mem_append_left _ h.pX
 have n:∀z∈X++obl (.slice a1' n1' c1'),z∈X\/wr.heap.size<=z:=fun z a=>by
  rcases List.mem_append.1 a with e|e
  ·exact Or.inl e
  ·rcases t z e with e|e
   ·exact Or.inl (h.x1 z e)
   ·exact Or.inr (by omega)
 have m:∀z∈obl (.slice a1 n1 c1),z < wr.heap.size->z∈X:=fun z a _=>h.x1 z a;refine⟨X++obl (.slice a1' n1' c1'),{ tp:=?tp,bp:=?bp,e1:=by rw[m1];simp,e2:=h.e2,g1:=?g1,g2:=?g2,dis:=?dis,bX:=List.mem_append_left _ h.bX,pX:=List.mem_append_left _ h.pX,hX:=?hX,x1:=fun z a=>List.mem_append_right _ a,x2:=fun z a=>List.mem_append_left _ (h.x2 z a),lb:=h.lb,lp:=h.lp,lg:=h.lg,le:=by rw[l];have:=h.le;omega,bp_:=h.bp_,gp:=h.gp,k0:=?k0,wb:=h.wb,wp:=h.wp,qX:=List.mem_append_left _ h.qX,bq:=?bq,rX:=fun z a=>List.mem_append_left _ (h.rX z a) },?st⟩
 case tp=>exact(h.tp.keep i (fun c=>by have:=o _ c;omega) (fun c=>by have:=o _ c;omega)).keep j (by simp;omega) (by simp;omega)
 case bp=>simpa using(h.bp.kept i (fun c=>by have:=o _ c;omega)).set_ 0 (.slice a1' n1' c1')
 case g1=>exact G1.step j (fun z a c=>by have:=q z a;rw[List.mem_singleton]at c;omega) f (fun z a=>Or.inl a)
 case g2 =>
  have g:=h.g2.step i (fun z a c=>h.dis z c a) m n;exact g.step j (fun z a c=>by have:=s z a;rw[List.mem_singleton]at c;omega) f (fun z a=>Or.inl a)
 case dis =>
  intro z a c
  rcases t z a with e|e
  ·exact h.dis z e c
  ·have:=s z c;omega
 case hX =>
  intro z a;rw[l]
  rcases List.mem_append.1 a with e|e
  ·have:=h.hX z e;omega
  ·exact(q z e).2
 case k0=>exact(h.k0.fresh i (fun z a=>by have:=o z a;omega)).setCell (Or.inr (Nat.le_of_lt p)) _
 case bq=>exact(h.bq.kept i (fun c=>by have:=o _ c;omega)).kept j (by simp;omega)
 case st=>exact fun P hP=>(hP.step i m n).step j f (fun z a=>Or.inl a)
theorem QfO.push2(h:QfO w wr b g po B X a1 n1 c1 a2 n2 c2 A C r){u:World}{d:List (List Int)}(ku:Kept [] wr u)(k:Kept (obl (.slice a2 n2 c2)) u w2)
  (G1:Grow bJ 1 55 B (X++obl (.slice a1' n1' c1')) w2 (.slice a1' n1' c1') (C++[d])) (m1:n1'=C.length+1) (t:∀z∈obl (.slice a1' n1' c1'),z∈obl (.slice a2 n2 c2)\/z=u.heap.size) :
  ∃X',QfO w (w2.setCell ⟨po,1,none⟩ (.slice a1' n1' c1')) b g po B X' a1 n1 c1 a1' n1' c1' A (C++[d]) r/\(∀P:World->Prop,ae X P wr->ae X' P (w2.setCell ⟨po,1,none⟩ (.slice a1' n1' c1'))):=by
 have s:=h.ge1;have o:=h.ge2;have I:=h.lb;have F:=h.lp;have G:=h.lg;have y:=h.bp_;have x:=h.gp;have p:=h.wp;have v:=h.wb;have E:=ku.size;have D:=k.size;have q:=G1.ge;have i:Kept (obl (.slice a2 n2 c2)) wr w2:=(ku.mono (by simp)).trans k;have j:Kept [po] w2 (w2.setCell ⟨po,1,none⟩ (.slice a1' n1' c1')):=kr.setCell (by simp) _
 have l:(w2.setCell ⟨po,1,none⟩ (.slice a1' n1' c1')).heap.size=w2.heap.size:=by simp[World.setCell]
 have f:∀z∈[po],z < w2.heap.size->z∈X++obl (.slice a1' n1' c1'):=fun z a _=>by obtain rfl:=ms a;exact List.mem_append_left _ h.pX
 have n:∀z∈X++obl (.slice a1' n1' c1'),z∈X\/wr.heap.size<=z:=fun z a=>by
  rcases List.mem_append.1 a with e|e
  ·exact Or.inl e
  ·rcases t z e with e|e
   ·exact Or.inl (h.x2 z e)
   ·exact Or.inr (by omega)
 have m:∀z∈obl (.slice a2 n2 c2),z < wr.heap.size->z∈X:=fun z a _=>h.x2 z a;refine⟨X++obl (.slice a1' n1' c1'),{ tp:=?tp,bp:=?bp,e1:=h.e1,e2:=by rw[m1];simp,g1:=?g1,g2:=?g2,dis:=?dis,bX:=List.mem_append_left _ h.bX,pX:=List.mem_append_left _ h.pX,hX:=?hX,x1:=fun z a=>List.mem_append_left _ (h.x1 z a),x2:=fun z a=>List.mem_append_right _ a,lb:=h.lb,lp:=h.lp,lg:=h.lg,le:=by rw[l];have:=h.le;omega,bp_:=h.bp_,gp:=h.gp,k0:=?k0,wb:=h.wb,wp:=h.wp,qX:=List.mem_append_left _ h.qX,bq:=?bq,rX:=fun z a=>List.mem_append_left _ (h.rX z a) },?st⟩
 case tp=>exact(h.tp.keep i (fun c=>by have:=o _ c;omega) (fun c=>by have:=o _ c;omega)).keep j (by simp;omega) (by simp;omega)
 case bp=>simpa using(h.bp.kept i (fun c=>by have:=o _ c;omega)).set_ 1 (.slice a1' n1' c1')
 case g2=>exact G1.step j (fun z a c=>by have:=q z a;rw[List.mem_singleton]at c;omega) f (fun z a=>Or.inl a)
 case g1 =>
  have g:=h.g1.step i (fun z a c=>h.dis z a c) m n;exact g.step j (fun z a c=>by have:=s z a;rw[List.mem_singleton]at c;omega) f (fun z a=>Or.inl a)
 case dis =>
  intro z a c
  rcases t z c with e|e
  ·exact h.dis z a e
  ·have:=s z a;omega
 case hX =>
  intro z a;rw[l]
  rcases List.mem_append.1 a with e|e
  ·have:=h.hX z e;omega
  ·exact(q z e).2
 case k0=>exact(h.k0.fresh i (fun z a=>by have:=o z a;omega)).setCell (Or.inr (Nat.le_of_lt p)) _
 case bq=>exact(h.bq.kept i (fun c=>by have:=o _ c;omega)).kept j (by simp;omega)
 case st=>exact fun P hP=>(hP.step i m n).step j f (fun z a=>Or.inl a)
end
end Go.Proofs.YtcidfldeiklcjaaGreatDoor
