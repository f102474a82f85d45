/- The reference's reader: fail, close. -/
import Derived.Test.YtpcdfepndmconaaGreatDoorDeL
import Derived.Test.YtpcdfepndmconaaGreatDoorRwq
import Derived.Test.YtpcdfepndmconaaGreatDoorRc3
import Derived.Test.YtpcdfepndmconaaGreatDoorSg1
import Derived.Test.YtpcdfepndmconaaGreatDoorRd4
/- JOINED: QeS QfS Rr1 -/
/- What the walk of the reference's Decode keeps; the append to a field as a law. -/
namespace Go.Proofs.YtpcdfepndmconaaGreatDoor
open Go.RowKit Tape
/-- rounds that stop at a fault, said of rounds that go on -/
def TR {α:Type} (one:Tp→α × Tp) (k:Nat) (r:Tp) (acc:List α) (fin:List α × Tp):Prop:=(r.bad=false∧times one k r acc=fin)∨(r=failT∧fin.2.bad=true)
theorem times_bad {α:Type} {enc:α→List Int} {one:Tp→α × Tp} (c:Codec enc one) {k:Nat} {r:Tp} {acc:List α} (h:r.bad=true):(times one k r acc).2.bad=true:=by
 cases hb:(times one k r acc).2.bad
 ·obtain ⟨_,_,_,h3,_⟩:=times_inv c k r acc hb
  rw [h] at h3;cases h3
 ·rfl
theorem TR.start {α:Type} {enc:α→List Int} {one:Tp→α × Tp} (c:Codec enc one) {r q:Tp} {v:Nat} (h:Stg count r v q):TR one v q [] (many one r):=by
 rcases h with ⟨h1,h2,h3⟩|⟨h1,h2⟩
 ·exact Or.inl ⟨h3▸h1,by rw [h2,h3];rfl⟩
 ·exact Or.inr ⟨h2,times_bad c h1⟩
theorem TR.step {α:Type} {enc:α→List Int} {one:Tp→α × Tp} (c:Codec enc one) {k:Nat} {r r':Tp} {acc:List α} {v:α} {fin:List α × Tp} (h:TR one (k+1) r acc fin) (hb:r.bad=false) (hs:Stg one r v r'):TR one k r' (acc++[v]) fin:=by
 rcases h with ⟨_,h2⟩|⟨h1,_⟩
 ·rw [times_succ] at h2
  rcases hs with ⟨x1,x2,x3⟩|⟨x1,x2⟩
  ·exact Or.inl ⟨x3▸x1,by rw [x2,x3];exact h2⟩
  ·exact Or.inr ⟨x2,by rw [←h2];exact times_bad c x1⟩
 ·rw [h1] at hb;cases hb
theorem TR.done {α:Type} {one:Tp→α × Tp} {k:Nat} {r r0:Tp} {acc:List α} (h:TR one k r acc (many one r0)) (hk:k=0∨r.bad=true):Stg (many one) r0 acc r:=by
 rcases h with ⟨h1,h2⟩|⟨h1,h2⟩
 ·rcases hk with rfl|hk
  ·have h3:many one r0=(acc,r):=h2.symm;exact Or.inl ⟨by rw [h3];exact h1,by rw [h3],by rw [h3]⟩
  ·rw [h1] at hk;cases hk
 ·exact Or.inr ⟨h2,h1⟩
/-- the record under way in block po, its reader's state in block b; what is finished -/
structure Qe (w wr:World) (b g po:Nat) (X:List Nat) (Fin:World→Prop) (cs:Array Value) (r:Tp):Prop where
 tp:RwAt 152 wr b g r
 bp:Blk wr po 67 cs
 fin:Stable X Fin wr
 bX:b∈X
 pX:po∈X
 qX:w.heap.size∈X
 hX:∀ z∈X,z < wr.heap.size
 gl:g < wr.heap.size
 bp_:b≠po
 gp:g≠po
 wb:w.heap.size < b
 wp:w.heap.size < po
 bq:Blk wr w.heap.size 67 zeros9
 k0:Kept [] w wr
section
variable {w wr w2:World} {b g po:Nat} {X X' S:List Nat} {Fin:World→Prop} {cs:Array Value} {r r':Tp}
theorem Qe.bl (h:Qe w wr b g po X Fin cs r):b < wr.heap.size:=h.hX b h.bX
theorem Qe.pl (h:Qe w wr b g po X Fin cs r):po < wr.heap.size:=h.hX po h.pX
/-- a step that leaves the three blocks alone -/
theorem Qe.step (h:Qe w wr b g po X Fin cs r) (k:Kept S wr w2) (hb:b∉S) (hp:po∉S) (hg:g∉S) (hq:w.heap.size∉S) (h0:∀ z∈S,w.heap.size≤z) (hS:∀ z∈S,z < wr.heap.size→z∈X) (hX':∀ z∈X',z∈X∨wr.heap.size≤z) (hlt:∀ z∈X',z < w2.heap.size) (hXX:∀ z∈X,z∈X') :
  Qe w w2 b g po X' Fin cs r :=
 ⟨h.tp.keep k hb hg,h.bp.kept k hp,h.fin.step k hS hX',hXX _ h.bX,hXX _ h.pX,hXX _ h.qX,hlt,Nat.lt_of_lt_of_le h.gl k.size,h.bp_,h.gp,h.wb,h.wp,h.bq.kept k hq,h.k0.fresh k h0⟩
/-- numbers are read -/
theorem Qe.read (h:Qe w wr b g po X Fin cs r) (k:Kept [b] wr w2) (tp:RwAt 152 w2 b g r'):Qe w w2 b g po X Fin cs r':=by
 have h1:=h.bp_;have h2:=h.wb
 exact ⟨tp,h.bp.kept k (by simp;omega),h.fin.step k (fun z hz _=>by rw [List.mem_singleton] at hz;subst hz;exact h.bX) (fun z hz=>Or.inl hz),h.bX,h.pX,h.qX,fun z hz=>Nat.lt_of_lt_of_le (h.hX z hz) k.size,Nat.lt_of_lt_of_le h.gl k.size,
  h.bp_,h.gp,h.wb,h.wp,h.bq.kept k (by simp;omega),h.k0.fresh k (by simp;omega)⟩
/-- a field is stored -/
theorem Qe.store (h:Qe w wr b g po X Fin cs r) (f:Nat) (v:Value):Qe w (wr.setCell ⟨po,f,none⟩ v) b g po X Fin (cs.setIfInBounds f v) r:=by
 have h1:=h.bp_;have h2:=h.gp;have h3:=h.wp;have k:Kept [po] wr (wr.setCell ⟨po,f,none⟩ v):=(Kept.refl _ _).setCell (by simp) _
 exact ⟨h.tp.keep k (by simp;omega) (by simp;omega),h.bp.set_ f v,h.fin.step k (fun z hz _=>by rw [List.mem_singleton] at hz;subst hz;exact h.pX) (fun z hz=>Or.inl hz),h.bX,h.pX,h.qX,
  fun z hz=>by have:=h.hX z hz;simpa [World.setCell] using this,by have:=h.gl;simpa [World.setCell] using this,h.bp_,h.gp,h.wb,h.wp,h.bq.kept k (by simp;omega),h.k0.setCell (Or.inr (Nat.le_of_lt h3)) _⟩
/-- more is finished -/
theorem Qe.more (h:Qe w wr b g po X Fin cs r) {Q:World→Prop} (hQ:Stable X Q wr):Qe w wr b g po X (fun w=>Fin w∧Q w) cs r :=
 ⟨h.tp,h.bp,h.fin.and hQ,h.bX,h.pX,h.qX,h.hX,h.gl,h.bp_,h.gp,h.wb,h.wp,h.bq,h.k0⟩
end
/-- a field grows -/
structure Qg {α:Type} (R:World→List Value→α→Prop) (m:Nat) (e:TypeId) (f:Nat) (w wr:World) (b g po B:Nat) (X:List Nat) (Fin:World→Prop) (cs:Array Value) (a:Option Addr) (n c:Nat) (l:List α) (r:Tp):Prop where
 de:Qe w wr b g po X Fin (cs.setIfInBounds f (.slice a n c)) r
 gr:Grow R m e B X wr (.slice a n c) l
 nl:n=l.length
 vX:∀ z∈obl (.slice a n c),z∈X
 lb:b < B
 lp:po < B
 lg:g < B
 lq:w.heap.size < B
 lB:B≤wr.heap.size
section
variable {α:Type} {R:World→List Value→α→Prop} {m:Nat} {e:TypeId} {f:Nat} {w wr w1 u:World} {b g po B:Nat} {X:List Nat} {Fin:World→Prop} {cs:Array Value} {a:Option Addr} {n c:Nat} {l:List α} {r r':Tp}
theorem Qg.ge (h:Qg R m e f w wr b g po B X Fin cs a n c l r):∀ z∈obl (.slice a n c),B≤z∧z < wr.heap.size:=h.gr.ge
theorem Qg.read (h:Qg R m e f w wr b g po B X Fin cs a n c l r) (k:Kept [b] wr w1) (tp:RwAt 152 w1 b g r'):Qg R m e f w w1 b g po B X Fin cs a n c l r' :=
 ⟨h.de.read k tp,h.gr.step k (fun z hz hm=>by have:=h.ge z hz;have:=h.lb;rw [List.mem_singleton] at hm;omega) (fun z hz _=>by rw [List.mem_singleton] at hz;subst hz;exact h.de.bX) (fun z hz=>Or.inl hz),h.nl,h.vX,h.lb,h.lp,h.lg,h.lq,Nat.le_trans h.lB k.size⟩
theorem Qg.cell (h:Qg R m e f w wr b g po B X Fin cs a n c l r) (hf:f < cs.size):∀ w',Kept (b::obl (.slice a n c)) wr w'→w'.cell? ⟨po,f,none⟩=some (.slice a n c):=fun w' k=>by
 have h1:=h.de.bp_;have h2:=h.lp
 rw [(h.de.bp.kept k (fun hm=>by
  rcases List.mem_cons.1 hm with e|e
  ·omega
  ·have:=h.ge _ e;omega)).cell f]
 simp [hf]
theorem Qg.frozen (h:Qg R m e f w wr b g po B X Fin cs a n c l r):∀ w',Kept (b::obl (.slice a n c)) wr w'→w'.frozen? ⟨po,f,none⟩=false:=fun w' k=>by
 have h1:=h.de.bp_;have h2:=h.lp
 exact (h.de.bp.kept k (fun hm=>by
  rcases List.mem_cons.1 hm with e|e
  ·omega
  ·have:=h.ge _ e;omega)).frozen f
/-- one more behind the field: u is the world of the append, w1 that behind the call -/
theorem Qg.pushed {y:World} {p:Option Addr} {q:Nat} {d:α} (D:Qg R m e f w w1 b g po B X Fin cs a n c l r') (ku:Kept [] w1 u) (G:Grow R m e B (X++obl (.slice p (l.length+1) q)) y (.slice p (l.length+1) q) (l++[d])) (k:Kept (obl (.slice a n c)) u y)
  (t:∀ z∈obl (.slice p (l.length+1) q),z∈obl (.slice a n c)∨z=u.heap.size) :
  Kept (obl (.slice a n c)) w1 y∧∃ X',Qg R m e f w (y.setCell ⟨po,f,none⟩ (.slice p (l.length+1) q)) b g po B X' Fin cs p (l.length+1) q (l++[d]) r'∧∀ z∈X',z∈X∨w1.heap.size≤z:=by
 have hle:=D.lB;have hsu:=ku.size;have hlb:=D.lb;have hlp:=D.lp;have hlg:=D.lg;have hlq:=D.lq;have hge:=D.ge;have kk:Kept (obl (.slice a n c)) w1 y:=(ku.mono (by simp)).trans k;have hsy:=k.size
 have hXX:∀ z∈X++obl (.slice p (l.length+1) q),z∈X∨w1.heap.size≤z:=fun z hz=>by
  rcases List.mem_append.1 hz with e|e
  ·exact Or.inl e
  ·rcases t z e with e|e
   ·exact Or.inl (D.vX z e)
   ·exact Or.inr (by omega)
 refine ⟨kk,X++obl (.slice p (l.length+1) q),?_,hXX⟩
 have hlt:∀ z∈X++obl (.slice p (l.length+1) q),z < y.heap.size:=fun z hz=>by
  rcases List.mem_append.1 hz with e|e
  ·have:=D.de.hX z e;omega
  ·exact (G.ge z e).2
 have D1:Qe w y b g po (X++obl (.slice p (l.length+1) q)) Fin (cs.setIfInBounds f (.slice a n c)) r' :=
  D.de.step kk (fun hm=>by have:=hge _ hm;omega) (fun hm=>by have:=hge _ hm;omega) (fun hm=>by have:=hge _ hm;omega) (fun hm=>by have:=hge _ hm;omega) (fun z hz=>by have:=hge z hz;omega) (fun z hz _=>D.vX z hz)
   hXX hlt (fun z hz=>List.mem_append_left _ hz)
 have D2:=D1.store f (.slice p (l.length+1) q)
 have hcs:(cs.setIfInBounds f (.slice a n c)).setIfInBounds f (.slice p (l.length+1) q)=cs.setIfInBounds f (.slice p (l.length+1) q):=by
  apply Array.ext_getElem?
  intro j;simp only [Array.getElem?_setIfInBounds,Array.size_setIfInBounds]
  split <;> rfl
 rw [hcs] at D2;have kp:Kept [po] y (y.setCell ⟨po,f,none⟩ (.slice p (l.length+1) q)):=(Kept.refl _ _).setCell (by simp) _;refine ⟨D2,G.step kp (fun z hz hm=>by have:=G.ge z hz;rw [List.mem_singleton] at hm;omega) (fun z hz _=>by rw [List.mem_singleton] at hz;subst hz;exact List.mem_append_left _ D.de.pX) (fun z hz=>Or.inl hz),by simp,fun z hz=>List.mem_append_right _ hz,hlb,hlp,hlg,hlq,?_⟩
 have:(y.setCell ⟨po,f,none⟩ (.slice p (l.length+1) q)).heap.size=y.heap.size:=by simp [World.setCell]
 omega
theorem qstep_push {ops:Array Oper} {o:Oper} {ac:Act} {K:Act→World→Prop} {Q:Exit→Act→World→Prop} {E:Prop} (D:Qg R m e f w w1 b g po B X Fin cs a n c l r') (hgd:o.guard=none) (s x:Operand) (T:TypeId)
  (ho:o.op=.call { callee:=.builtin .append,args:=#[s,x],argTypes:=#[T,T] }) (i:TypeInfo) (z:Value) (bytes:Nat) (ht:Tryz.prog.underlying T=some (.slice e)) (hi:Tryz.prog.info? e=some i) (hz:i.zero=some z)
  (hsize:i.size=m) (hby:i.bytes=bytes) (hzs:z.cells.size=m) (hsz:0 < m) (hbs:bytes≤128)
  (hs:ac.eval s=.slice a n c) (v:Value) (hx:ac.eval x=v) (el:List Value) (d:α) (hrow:Row u m v 1 el) (ku:Kept [] w1 u) (hR:Stable X (fun w=>R w el d) w1) (h1:∀ u∈el,u.oneCell'=true) (hn:l.length≤1000000000)
  (h:∀ p q y,Kept (obl (.slice a n c)) w1 y→(∃ X',Qg R m e f w (y.setCell ⟨po,f,none⟩ (.slice p (l.length+1) q)) b g po B X' Fin cs p (l.length+1) q (l++[d]) r')→K (ac.put o.dst (.slice p (l.length+1) q)) y) :
  if Region.wanted o (yielded ops ac.tmps)=true then Oper.wp Tryz.prog o ac u K Q else E:=by
 have hle:=D.lB;have hsu:=ku.size;refine step_append_grow hgd s x T ho i z bytes ht hi hz hsize hby hzs hsz hbs hs (D.gr.step (X':=X) ku (by simp) (by simp) (fun z hz=>Or.inl hz)) v el d hx hrow (hR.step ku (by simp) (fun z hz=>Or.inl hz)) h1 hn (by omega) D.vX ?_;intro p q y G k t;obtain ⟨kk,X',hD,_⟩:=D.pushed ku G k t;exact h p q y kk ⟨X',hD⟩
/-- the field is finished -/
theorem Qg.done (h:Qg R m e f w wr b g po B X Fin cs a n c l r) (hl:l.length≤9223372036854775807) :
  ∃ X',Qe w wr b g po X' (fun w=>Fin w∧RowOf R m w (.slice a n c) l) (cs.setIfInBounds f (.slice a n c)) r∧(∀ z∈X',z∈X)∧∀ z∈obl (.slice a n c),z∉X':=by
 have hlb:=h.lb;have hlp:=h.lp;have hlq:=h.lq;have hge:=h.ge
 let X':=X.filter fun z=>!(obl (.slice a n c)).contains z
 have m1:∀ z,z∈X'→z∈X:=fun z hz=>(List.mem_filter.1 hz).1;have m2:∀ z,z∈X→z∉obl (.slice a n c)→z∈X':=fun z hz hn=>List.mem_filter.2 ⟨hz,by simpa using hn⟩
 have m3:∀ z∈obl (.slice a n c),z∉X':=fun z hz hm=>by have:=(List.mem_filter.1 hm).2;simp at this;exact this hz
 refine ⟨X',?_,m1,m3⟩;have d:=h.de;have fin2:Stable X' (fun w=>Fin w∧RowOf R m w (.slice a n c) l) wr:=(d.fin.less (fun z hz=>Or.inl (m1 z hz))).and (h.gr.done (fun z hz=>Or.inl (m1 z hz)) m3 hl);exact ⟨d.tp,d.bp,fin2,m2 _ d.bX (fun hm=>by have:=hge _ hm;omega),m2 _ d.pX (fun hm=>by have:=hge _ hm;omega),m2 _ d.qX (fun hm=>by have:=hge _ hm;omega),fun z hz=>d.hX z (m1 z hz),d.gl,d.bp_,d.gp,d.wb,d.wp,d.bq,d.k0⟩
/-- the rounds of a loop that fills a field, and stops at a fault -/
def QRel (R:World→List Value→α→Prop) (m:Nat) (e:TypeId) (f:Nat) (one:Tp→α × Tp) (w:World) (b g po B:Nat) (Fin:World→Prop) (cs:Array Value) (fin:List α × Tp) (N:Nat) (vi:Value) (wr:World):Prop :=
 ∃ (k:Nat) (r:Tp) (acc:List α) (X:List Nat) (a:Option Addr) (n c:Nat),vi=.int .i64 (k:Int)∧acc.length+k=N∧TR one k r acc fin∧Qg R m e f w wr b g po B X Fin cs a n c acc r
theorem QRel.next {one:Tp→α × Tp} {fin:List α × Tp} {N k:Nat} {acc:List α} {d:α} {p:Option Addr} {q:Nat} {wf:World}
  (h:∃ X',Qg R m e f w wf b g po B X' Fin cs p (acc.length+1) q (acc++[d]) r) (hN:acc.length+(k+1)=N) (hf:TR one k r (acc++[d]) fin) :
  QRel R m e f one w b g po B Fin cs fin N (.int .i64 (k:Int)) wf:=by
 obtain ⟨X',D⟩:=h;exact ⟨k,r,acc++[d],X',p,acc.length+1,q,rfl,by simp;omega,hf,D⟩
theorem Qg.start (D:Qe w wr b g po X Fin cs r) (hcs:cs.setIfInBounds f (.slice none 0 0)=cs):Qg R m e f w wr b g po wr.heap.size X Fin cs none 0 0 [] r :=
 ⟨by rw [hcs];exact D,Grow.nil_ _ _ _ _ _ _,rfl,by simp [obl,Value.ownBlock],D.bl,D.pl,D.gl,D.hX _ D.qX,Nat.le_refl _⟩
end
end Go.Proofs.YtpcdfepndmconaaGreatDoor
/- What the rounds of the reference's proof decoder keep. -/
namespace Go.Proofs.YtpcdfepndmconaaGreatDoor
open Go.RowKit Tape
/-- what the rounds of a clause keep -/
structure QfI (wr w2:World) (b g:Nat) (X:List Nat) (ad:Option Addr) (n cd:Nat) (aa:Option Addr) (m ca:Nat) (ds:List Int) (as_:List (List Int)) (r:Tp):Prop where
 tp:RwAt 190 w2 b g r
 kb:Kept [b] wr w2
 nd:n=ds.length
 na:m=as_.length
 od:w2.ownsRow wr.heap.size 3 1 (.slice ad n cd) n (ints ds)
 ga:∃ X2,(∀ z∈X,z∈X2)∧(∀ z∈X2,z < w2.heap.size)∧(∀ z∈obl (.slice ad n cd),z∈X2)∧(∀ z∈obl (.slice aa m ca),z∈X2)∧Grow ListR 1 24 wr.heap.size X2 w2 (.slice aa m ca) as_
 dis:∀ z∈obl (.slice ad n cd),z∉obl (.slice aa m ca)
 bX:b∈X
 bl:b < wr.heap.size
 gl:g < wr.heap.size
section
variable {wr w2 w3:World} {b g:Nat} {X:List Nat} {ad aa ad' aa':Option Addr} {n n' m m' cd cd' ca ca':Nat} {ds:List Int} {as_:List (List Int)} {r r':Tp}
theorem QfI.le (h:QfI wr w2 b g X ad n cd aa m ca ds as_ r):wr.heap.size≤w2.heap.size:=h.kb.size
theorem QfI.ged (h:QfI wr w2 b g X ad n cd aa m ca ds as_ r):∀ z∈obl (.slice ad n cd),wr.heap.size≤z∧z < w2.heap.size:=own_ge h.od
theorem QfI.gea (h:QfI wr w2 b g X ad n cd aa m ca ds as_ r):∀ z∈obl (.slice aa m ca),wr.heap.size≤z∧z < w2.heap.size:=by
 obtain ⟨X2,_,_,_,_,G⟩:=h.ga;exact G.ge
theorem QfI.keep (h:QfI wr w2 b g X ad n cd aa m ca ds as_ r) (k:Kept [] w2 w3):QfI wr w3 b g X ad n cd aa m ca ds as_ r:=by
 obtain ⟨X2,x1,x2,x3,x4,G⟩:=h.ga
 exact ⟨h.tp.keep k (by simp) (by simp),h.kb.trans (k.mono (by simp)),h.nd,h.na,own_keep h.od k (by simp),
  ⟨X2,x1,fun z hz=>Nat.lt_of_lt_of_le (x2 z hz) k.size,x3,x4,G.step k (by simp) (by simp) (fun z hz=>Or.inl hz)⟩,h.dis,h.bX,h.bl,h.gl⟩
theorem QfI.alloc (h:QfI wr w2 b g X ad n cd aa m ca ds as_ r) (x:Obj):QfI wr (w2.alloc x) b g X ad n cd aa m ca ds as_ r:=h.keep ((Kept.refl _ _).alloc _)
theorem QfI.read (h:QfI wr w2 b g X ad n cd aa m ca ds as_ r) (k:Kept [b] w2 w3) (tp:RwAt 190 w3 b g r'):QfI wr w3 b g X ad n cd aa m ca ds as_ r':=by
 obtain ⟨X2,x1,x2,x3,x4,G⟩:=h.ga;have hb:=h.bl;have h1:=h.ged;have h2:=h.gea
 have e1:∀ z∈obl (.slice ad n cd),z∉[b]:=fun z hz hm=>by have:=h1 z hz;rw [List.mem_singleton] at hm;omega
 have e2:∀ z∈obl (.slice aa m ca),z∉[b]:=fun z hz hm=>by have:=h2 z hz;rw [List.mem_singleton] at hm;omega
 exact ⟨tp,h.kb.trans k,h.nd,h.na,own_keep h.od k e1,
  ⟨X2,x1,fun z hz=>Nat.lt_of_lt_of_le (x2 z hz) k.size,x3,x4,G.step k e2 (fun z hz _=>by rw [List.mem_singleton] at hz;subst hz;exact x1 _ h.bX) (fun z hz=>Or.inl hz)⟩,h.dis,h.bX,h.bl,h.gl⟩
theorem QfI.pushd (h:QfI wr w2 b g X ad n cd aa m ca ds as_ r) {x:Int} (k:Kept (obl (.slice ad n cd)) w2 w3) (hn:n'=n+1) (own1:w3.ownsRow wr.heap.size 3 1 (.slice ad' n' cd') n' (ints (ds++[x])))
  (hat:∀ z∈obl (.slice ad' n' cd'),z∈obl (.slice ad n cd)∨z=w2.heap.size):QfI wr w3 b g X ad' n' cd' aa m ca (ds++[x]) as_ r:=by
 obtain ⟨X2,x1,x2,x3,x4,G⟩:=h.ga;have hb:=h.bl;have hg:=h.gl;have h1:=h.ged;have h2:=h.gea;have hs:=k.size;have own2:=own_ge own1
 refine ⟨h.tp.keep k (fun hm=>by have:=h1 _ hm;omega) (fun hm=>by have:=h1 _ hm;omega),h.kb.then_ k (fun z hz hm=>by have:=h1 z hm;omega),by rw [hn,h.nd];simp,h.na,own1,
  ⟨X2++obl (.slice ad' n' cd'),fun z hz=>List.mem_append_left _ (x1 z hz),fun z hz=>?_,fun z hz=>List.mem_append_right _ hz,fun z hz=>List.mem_append_left _ (x4 z hz),G.step k (fun z hz hm=>h.dis z hm hz) (fun z hz _=>x3 z hz) (fun z hz=>?_)⟩,?_,h.bX,h.bl,h.gl⟩
 ·rcases List.mem_append.1 hz with h|h
  ·have:=x2 z h;omega
  ·exact (own2 z h).2
 ·rcases List.mem_append.1 hz with h|h
  ·exact Or.inl h
  ·rcases hat z h with e|e
   ·exact Or.inl (x3 z e)
   ·exact Or.inr (by omega)
 ·intro z hz hm
  rcases hat z hz with e|e
  ·exact h.dis z e hm
  ·have:=h2 z hm;omega
theorem QfI.pusha (h:QfI wr w2 b g X ad n cd aa m ca ds as_ r) {x:List Int} {X2:List Nat} (x1:∀ z∈X,z∈X2) (x2:∀ z∈X2,z < w2.heap.size) (x3:∀ z∈obl (.slice ad n cd),z∈X2)
  (k:Kept (obl (.slice aa m ca)) w2 w3) (hm:m'=m+1) (G:Grow ListR 1 24 wr.heap.size (X2++obl (.slice aa' m' ca')) w3 (.slice aa' m' ca') (as_++[x]))
  (hat:∀ z∈obl (.slice aa' m' ca'),z∈obl (.slice aa m ca)∨z=w2.heap.size):QfI wr w3 b g X ad n cd aa' m' ca' ds (as_++[x]) r:=by
 have hb:=h.bl;have hg:=h.gl;have h1:=h.ged;have h2:=h.gea;have hs:=k.size
 refine ⟨h.tp.keep k (fun hm=>by have:=h2 _ hm;omega) (fun hm=>by have:=h2 _ hm;omega),h.kb.then_ k (fun z hz hm=>by have:=h2 z hm;omega),h.nd,by rw [hm,h.na];simp,own_keep h.od k (fun z hz hm=>h.dis z hz hm),
  ⟨X2++obl (.slice aa' m' ca'),fun z hz=>List.mem_append_left _ (x1 z hz),fun z hz=>?_,fun z hz=>List.mem_append_left _ (x3 z hz),fun z hz=>List.mem_append_right _ hz,G⟩,?_,h.bX,h.bl,h.gl⟩
 ·rcases List.mem_append.1 hz with h|h
  ·have:=x2 z h;omega
  ·exact (G.ge z h).2
 ·intro z hz hm
  rcases hat z hm with e|e
  ·exact h.dis z hz e
  ·have:=h1 z hz;omega
end
/-- what the rounds of a proof keep -/
structure QfO (w wr:World) (b g po B:Nat) (X:List Nat) (a1:Option Addr) (n1 c1:Nat) (a2:Option Addr) (n2 c2:Nat) (A:List (List Int)) (C:List (List (List Int))) (r:Tp):Prop where
 tp:RwAt 190 wr b g r
 bp:Blk wr po 65 #[.slice a1 n1 c1,.slice a2 n2 c2]
 e1:n1=A.length
 e2:n2=C.length
 g1:Grow ListR 1 24 B X wr (.slice a1 n1 c1) A
 g2:Grow ListsR 1 62 B X wr (.slice a2 n2 c2) C
 dis:∀ z∈obl (.slice a1 n1 c1),z∉obl (.slice a2 n2 c2)
 bX:b∈X
 pX:po∈X
 hX:∀ z∈X,z < wr.heap.size
 x1:∀ z∈obl (.slice a1 n1 c1),z∈X
 x2:∀ z∈obl (.slice a2 n2 c2),z∈X
 lb:b < B
 lp:po < B
 lg:g < B
 le:B≤wr.heap.size
 bp_:b≠po
 gp:g≠po
 k0:Kept [] w wr
 wb:w.heap.size < b
 wp:w.heap.size < po
 qX:w.heap.size∈X
 bq:Blk wr w.heap.size 65 #[.slice none 0 0,.slice none 0 0]
 rX:∀ z,z < w.heap.size→z∈X
section
variable {w wr w2 w3:World} {b g po B:Nat} {X:List Nat} {a1 a2 a1' a2':Option Addr} {n1 n1' c1 c1' n2 n2' c2 c2':Nat} {A:List (List Int)} {C:List (List (List Int))} {r r':Tp}
theorem QfO.ge1 (h:QfO w wr b g po B X a1 n1 c1 a2 n2 c2 A C r):∀ z∈obl (.slice a1 n1 c1),B≤z∧z < wr.heap.size:=h.g1.ge
theorem QfO.ge2 (h:QfO w wr b g po B X a1 n1 c1 a2 n2 c2 A C r):∀ z∈obl (.slice a2 n2 c2),B≤z∧z < wr.heap.size:=h.g2.ge
theorem QfO.read (h:QfO w wr b g po B X a1 n1 c1 a2 n2 c2 A C r) (k:Kept [b] wr w2) (tp:RwAt 190 w2 b g r'):QfO w w2 b g po B X a1 n1 c1 a2 n2 c2 A C r':=by
 have hb:=h.lb;have h1:=h.ge1;have h2:=h.ge2;have hbp:=h.bp_;have hwb:=h.wb
 refine ⟨tp,h.bp.kept k (by simp;omega),h.e1,h.e2,h.g1.step k (fun z hz hm=>?_) (fun z hz _=>?_) (fun z hz=>Or.inl hz),h.g2.step k (fun z hz hm=>?_) (fun z hz _=>?_) (fun z hz=>Or.inl hz),h.dis,h.bX,h.pX,fun z hz=>Nat.lt_of_lt_of_le (h.hX z hz) k.size,h.x1,h.x2,h.lb,h.lp,h.lg,Nat.le_trans h.le k.size,h.bp_,h.gp,
  h.k0.fresh k (fun z hz=>by rw [List.mem_singleton] at hz;omega),h.wb,h.wp,h.qX,h.bq.kept k (by simp;omega),h.rX⟩
 ·have:=h1 z hz;rw [List.mem_singleton] at hm;omega
 ·rw [List.mem_singleton] at hz;subst hz;exact h.bX
 ·have:=h2 z hz;rw [List.mem_singleton] at hm;omega
 ·rw [List.mem_singleton] at hz;subst hz;exact h.bX
/-- the first list has grown, and is stored -/
theorem QfO.push1 (h:QfO w wr b g po B X a1 n1 c1 a2 n2 c2 A C r) {u:World} {d:List Int} (ku:Kept [] wr u) (k:Kept (obl (.slice a1 n1 c1)) u w2)
  (G1:Grow ListR 1 24 B (X++obl (.slice a1' n1' c1')) w2 (.slice a1' n1' c1') (A++[d])) (m1:n1'=A.length+1) (t:∀ z∈obl (.slice a1' n1' c1'),z∈obl (.slice a1 n1 c1)∨z=u.heap.size) :
  ∃ X',QfO w (w2.setCell ⟨po,0,none⟩ (.slice a1' n1' c1')) b g po B X' a1' n1' c1' a2 n2 c2 (A++[d]) C r∧(∀ P:World→Prop,Stable X P wr→Stable X' P (w2.setCell ⟨po,0,none⟩ (.slice a1' n1' c1'))):=by
 have h1:=h.ge1;have h2:=h.ge2;have hb:=h.lb;have hp:=h.lp;have hg:=h.lg;have hbp:=h.bp_;have hgp:=h.gp;have hwp:=h.wp;have hwb:=h.wb;have s1:=ku.size;have s2:=k.size;have q1:=G1.ge;have kk:Kept (obl (.slice a1 n1 c1)) wr w2:=(ku.mono (by simp)).trans k;have kp:Kept [po] w2 (w2.setCell ⟨po,0,none⟩ (.slice a1' n1' c1')):=(Kept.refl _ _).setCell (by simp) _
 have hsz:(w2.setCell ⟨po,0,none⟩ (.slice a1' n1' c1')).heap.size=w2.heap.size:=by simp [World.setCell]
 have hpX:∀ z∈[po],z < w2.heap.size→z∈X++obl (.slice a1' n1' c1'):=fun z hz _=>by rw [List.mem_singleton] at hz;subst hz;exact List.mem_append_left _ h.pX
 have hXX:∀ z∈X++obl (.slice a1' n1' c1'),z∈X∨wr.heap.size≤z:=fun z hz=>by
  rcases List.mem_append.1 hz with e|e
  ·exact Or.inl e
  ·rcases t z e with e|e
   ·exact Or.inl (h.x1 z e)
   ·exact Or.inr (by omega)
 have hsS:∀ z∈obl (.slice a1 n1 c1),z < wr.heap.size→z∈X:=fun z hz _=>h.x1 z hz;refine ⟨X++obl (.slice a1' n1' c1'),{ tp:=?tp,bp:=?bp,e1:=by rw [m1];simp,e2:=h.e2,g1:=?g1,g2:=?g2,dis:=?dis,bX:=List.mem_append_left _ h.bX,pX:=List.mem_append_left _ h.pX,hX:=?hX,x1:=fun z hz=>List.mem_append_right _ hz,x2:=fun z hz=>List.mem_append_left _ (h.x2 z hz),lb:=h.lb,lp:=h.lp,lg:=h.lg,le:=by rw [hsz];have:=h.le;omega,bp_:=h.bp_,gp:=h.gp,k0:=?k0,wb:=h.wb,wp:=h.wp,qX:=List.mem_append_left _ h.qX,bq:=?bq,rX:=fun z hz=>List.mem_append_left _ (h.rX z hz) },?st⟩
 case tp=>exact (h.tp.keep kk (fun hm=>by have:=h1 _ hm;omega) (fun hm=>by have:=h1 _ hm;omega)).keep kp (by simp;omega) (by simp;omega)
 case bp=>simpa using (h.bp.kept kk (fun hm=>by have:=h1 _ hm;omega)).set_ 0 (.slice a1' n1' c1')
 case g1=>exact G1.step kp (fun z hz hm=>by have:=q1 z hz;rw [List.mem_singleton] at hm;omega) hpX (fun z hz=>Or.inl hz)
 case g2 =>
  have g:=h.g2.step kk (fun z hz hm=>h.dis z hm hz) hsS hXX;exact g.step kp (fun z hz hm=>by have:=h2 z hz;rw [List.mem_singleton] at hm;omega) hpX (fun z hz=>Or.inl hz)
 case dis =>
  intro z hz hm
  rcases t z hz with e|e
  ·exact h.dis z e hm
  ·have:=h2 z hm;omega
 case hX =>
  intro z hz;rw [hsz]
  rcases List.mem_append.1 hz with e|e
  ·have:=h.hX z e;omega
  ·exact (q1 z e).2
 case k0=>exact (h.k0.fresh kk (fun z hz=>by have:=h1 z hz;omega)).setCell (Or.inr (Nat.le_of_lt hwp)) _
 case bq=>exact (h.bq.kept kk (fun hm=>by have:=h1 _ hm;omega)).kept kp (by simp;omega)
 case st=>exact fun P hP=>(hP.step kk hsS hXX).step kp hpX (fun z hz=>Or.inl hz)
/-- the second list has grown, and is stored -/
theorem QfO.push2 (h:QfO w wr b g po B X a1 n1 c1 a2 n2 c2 A C r) {u:World} {d:List (List Int)} (ku:Kept [] wr u) (k:Kept (obl (.slice a2 n2 c2)) u w2)
  (G1:Grow ListsR 1 62 B (X++obl (.slice a1' n1' c1')) w2 (.slice a1' n1' c1') (C++[d])) (m1:n1'=C.length+1) (t:∀ z∈obl (.slice a1' n1' c1'),z∈obl (.slice a2 n2 c2)∨z=u.heap.size) :
  ∃ X',QfO w (w2.setCell ⟨po,1,none⟩ (.slice a1' n1' c1')) b g po B X' a1 n1 c1 a1' n1' c1' A (C++[d]) r∧(∀ P:World→Prop,Stable X P wr→Stable X' P (w2.setCell ⟨po,1,none⟩ (.slice a1' n1' c1'))):=by
 have h1:=h.ge1;have h2:=h.ge2;have hb:=h.lb;have hp:=h.lp;have hg:=h.lg;have hbp:=h.bp_;have hgp:=h.gp;have hwp:=h.wp;have hwb:=h.wb;have s1:=ku.size;have s2:=k.size;have q1:=G1.ge;have kk:Kept (obl (.slice a2 n2 c2)) wr w2:=(ku.mono (by simp)).trans k;have kp:Kept [po] w2 (w2.setCell ⟨po,1,none⟩ (.slice a1' n1' c1')):=(Kept.refl _ _).setCell (by simp) _
 have hsz:(w2.setCell ⟨po,1,none⟩ (.slice a1' n1' c1')).heap.size=w2.heap.size:=by simp [World.setCell]
 have hpX:∀ z∈[po],z < w2.heap.size→z∈X++obl (.slice a1' n1' c1'):=fun z hz _=>by rw [List.mem_singleton] at hz;subst hz;exact List.mem_append_left _ h.pX
 have hXX:∀ z∈X++obl (.slice a1' n1' c1'),z∈X∨wr.heap.size≤z:=fun z hz=>by
  rcases List.mem_append.1 hz with e|e
  ·exact Or.inl e
  ·rcases t z e with e|e
   ·exact Or.inl (h.x2 z e)
   ·exact Or.inr (by omega)
 have hsS:∀ z∈obl (.slice a2 n2 c2),z < wr.heap.size→z∈X:=fun z hz _=>h.x2 z hz;refine ⟨X++obl (.slice a1' n1' c1'),{ tp:=?tp,bp:=?bp,e1:=h.e1,e2:=by rw [m1];simp,g1:=?g1,g2:=?g2,dis:=?dis,bX:=List.mem_append_left _ h.bX,pX:=List.mem_append_left _ h.pX,hX:=?hX,x1:=fun z hz=>List.mem_append_left _ (h.x1 z hz),x2:=fun z hz=>List.mem_append_right _ hz,lb:=h.lb,lp:=h.lp,lg:=h.lg,le:=by rw [hsz];have:=h.le;omega,bp_:=h.bp_,gp:=h.gp,k0:=?k0,wb:=h.wb,wp:=h.wp,qX:=List.mem_append_left _ h.qX,bq:=?bq,rX:=fun z hz=>List.mem_append_left _ (h.rX z hz) },?st⟩
 case tp=>exact (h.tp.keep kk (fun hm=>by have:=h2 _ hm;omega) (fun hm=>by have:=h2 _ hm;omega)).keep kp (by simp;omega) (by simp;omega)
 case bp=>simpa using (h.bp.kept kk (fun hm=>by have:=h2 _ hm;omega)).set_ 1 (.slice a1' n1' c1')
 case g2=>exact G1.step kp (fun z hz hm=>by have:=q1 z hz;rw [List.mem_singleton] at hm;omega) hpX (fun z hz=>Or.inl hz)
 case g1 =>
  have g:=h.g1.step kk (fun z hz hm=>h.dis z hz hm) hsS hXX;exact g.step kp (fun z hz hm=>by have:=h1 z hz;rw [List.mem_singleton] at hm;omega) hpX (fun z hz=>Or.inl hz)
 case dis =>
  intro z hz hm
  rcases t z hm with e|e
  ·exact h.dis z hz e
  ·have:=h1 z hz;omega
 case hX =>
  intro z hz;rw [hsz]
  rcases List.mem_append.1 hz with e|e
  ·have:=h.hX z e;omega
  ·exact (q1 z e).2
 case k0=>exact (h.k0.fresh kk (fun z hz=>by have:=h2 z hz;omega)).setCell (Or.inr (Nat.le_of_lt hwp)) _
 case bq=>exact (h.bq.kept kk (fun hm=>by have:=h2 _ hm;omega)).kept kp (by simp;omega)
 case st=>exact fun P hP=>(hP.step kk hsS hXX).step kp hpX (fun z hz=>Or.inl hz)
end
end Go.Proofs.YtpcdfepndmconaaGreatDoor
namespace Go.Proofs.YtpcdfepndmconaaGreatDoor
open Go.RowKit
/-- the reference's reader at a block, said of the plain reader -/
def RrAt (w:World) (b:Nat) (r:Wire.Rd):Prop:=NG≤b∧Blk w b 165 #[.string ⟨r.rest.toArray⟩,.bool r.bad]
theorem RrAt.set2 {w:World} {b:Nat} {r:Wire.Rd} (h:RrAt w b r) (s:List UInt8) (bd:Bool) :
  RrAt ((w.setCell ⟨b,0,none⟩ (.string ⟨s.toArray⟩)).setCell ⟨b,1,none⟩ (.bool bd)) b ⟨s,bd⟩ :=
 ⟨h.1,by simpa using (h.2.set_ 0 (.string ⟨s.toArray⟩)).set_ 1 (.bool bd)⟩
theorem RrAt.set1 {w:World} {b:Nat} {r:Wire.Rd} (h:RrAt w b r) (s:List UInt8) :
  RrAt (w.setCell ⟨b,0,none⟩ (.string ⟨s.toArray⟩)) b ⟨s,r.bad⟩ :=
 ⟨h.1,by simpa using h.2.set_ 0 (.string ⟨s.toArray⟩)⟩
theorem RrAt.c0 {w:World} {b:Nat} {r:Wire.Rd} (h:RrAt w b r):w.cell? ⟨b,0,none⟩=some (.string ⟨r.rest.toArray⟩):=by simpa using h.2.cell 0
theorem RrAt.c1 {w:World} {b:Nat} {r:Wire.Rd} (h:RrAt w b r):w.cell? ⟨b,1,none⟩=some (.bool r.bad):=by simpa using h.2.cell 1
set_option maxHeartbeats 400000 in
theorem rr_fail (b:Nat) (r:Wire.Rd) (w:World) (h:RrAt w b r) :
  Calls Tryz.prog 147 #[.pointer (some ⟨b,0,none⟩)] w fun e w'=>e=.returned (.int .i64 0)∧RrAt w' b Wire.failed∧Kept [b] w w':=by
 have c0:=h.c0;have c1:=h.c1;have f0:=h.2.frozen 0;have f1:=h.2.frozen 1
 go_enter Tryz.func147,Tryz.ntmps147
 go_wp2;go_ret;exact ⟨rfl,h.set2 [] true,(((Kept.refl _ _).setCell (by simp) _).setCell (by simp) _)⟩
end Go.Proofs.YtpcdfepndmconaaGreatDoor
