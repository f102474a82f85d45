/- The links of a record that is read: what the rounds keep. -/
import Derived.Test.YtpcdfepndmconaaGreatDoorOrd
import Derived.Test.YtpcdfepndmconaaGreatDoorPfD
import Derived.Test.YtpcdfepndmconaaGreatDoorRdS
import Derived.Outline
/- JOINED: DeS DecT DeL -/
/- What the walk of show.Decode keeps; the append to a field as a law. -/
namespace Go.Proofs.YtpcdfepndmconaaGreatDoor
open Go.RowKit Tape
def zeros9:Array Value:=#[.slice none 0 0,.slice none 0 0,.slice none 0 0,.slice none 0 0,.slice none 0 0,.slice none 0 0,.slice none 0 0,.slice none 0 0,.slice none 0 0]
/-- the record under way in block po, its reader's state in block b; what is finished -/
structure De (w wr:World) (b g po:Nat) (X:List Nat) (Fin:World→Prop) (cs:Array Value) (r:Tp):Prop where
 tp:TpAt 145 wr b g r
 bp:Blk wr po 67 cs
 fin:Stable X Fin wr
 bX:b∈X
 pX:po∈X
 qX:w.heap.size∈X
 hX:∀ z∈X,z < wr.heap.size
 gl:g < wr.heap.size
 bp_:b≠po
 gp:g≠po
 wb:w.heap.size < b
 wp:w.heap.size < po
 bq:Blk wr w.heap.size 67 zeros9
 k0:Kept [] w wr
section
variable {w wr w2:World} {b g po:Nat} {X X' S:List Nat} {Fin:World→Prop} {cs:Array Value} {r r':Tp}
theorem De.bl (h:De w wr b g po X Fin cs r):b < wr.heap.size:=h.hX b h.bX
theorem De.pl (h:De w wr b g po X Fin cs r):po < wr.heap.size:=h.hX po h.pX
/-- a step that leaves the three blocks alone -/
theorem De.step (h:De w wr b g po X Fin cs r) (k:Kept S wr w2) (hb:b∉S) (hp:po∉S) (hg:g∉S) (hq:w.heap.size∉S) (h0:∀ z∈S,w.heap.size≤z) (hS:∀ z∈S,z < wr.heap.size→z∈X) (hX':∀ z∈X',z∈X∨wr.heap.size≤z) (hlt:∀ z∈X',z < w2.heap.size) (hXX:∀ z∈X,z∈X') :
  De w w2 b g po X' Fin cs r :=
 ⟨h.tp.keep k hb hg,h.bp.kept k hp,h.fin.step k hS hX',hXX _ h.bX,hXX _ h.pX,hXX _ h.qX,hlt,Nat.lt_of_lt_of_le h.gl k.size,h.bp_,h.gp,h.wb,h.wp,h.bq.kept k hq,h.k0.fresh k h0⟩
/-- numbers are read -/
theorem De.read (h:De w wr b g po X Fin cs r) (k:Kept [b] wr w2) (tp:TpAt 145 w2 b g r'):De w w2 b g po X Fin cs r':=by
 have h1:=h.bp_;have h2:=h.wb
 exact ⟨tp,h.bp.kept k (by simp;omega),h.fin.step k (fun z hz _=>by rw [List.mem_singleton] at hz;subst hz;exact h.bX) (fun z hz=>Or.inl hz),h.bX,h.pX,h.qX,fun z hz=>Nat.lt_of_lt_of_le (h.hX z hz) k.size,Nat.lt_of_lt_of_le h.gl k.size,
  h.bp_,h.gp,h.wb,h.wp,h.bq.kept k (by simp;omega),h.k0.fresh k (by simp;omega)⟩
/-- a field is stored -/
theorem De.store (h:De w wr b g po X Fin cs r) (f:Nat) (v:Value):De w (wr.setCell ⟨po,f,none⟩ v) b g po X Fin (cs.setIfInBounds f v) r:=by
 have h1:=h.bp_;have h2:=h.gp;have h3:=h.wp;have k:Kept [po] wr (wr.setCell ⟨po,f,none⟩ v):=(Kept.refl _ _).setCell (by simp) _
 exact ⟨h.tp.keep k (by simp;omega) (by simp;omega),h.bp.set_ f v,h.fin.step k (fun z hz _=>by rw [List.mem_singleton] at hz;subst hz;exact h.pX) (fun z hz=>Or.inl hz),h.bX,h.pX,h.qX,
  fun z hz=>by have:=h.hX z hz;simpa [World.setCell] using this,by have:=h.gl;simpa [World.setCell] using this,h.bp_,h.gp,h.wb,h.wp,h.bq.kept k (by simp;omega),h.k0.setCell (Or.inr (Nat.le_of_lt h3)) _⟩
/-- more is finished -/
theorem De.more (h:De w wr b g po X Fin cs r) {Q:World→Prop} (hQ:Stable X Q wr):De w wr b g po X (fun w=>Fin w∧Q w) cs r :=
 ⟨h.tp,h.bp,h.fin.and hQ,h.bX,h.pX,h.qX,h.hX,h.gl,h.bp_,h.gp,h.wb,h.wp,h.bq,h.k0⟩
end
/-- a field grows -/
structure Dg {α:Type} (R:World→List Value→α→Prop) (m:Nat) (e:TypeId) (f:Nat) (w wr:World) (b g po B:Nat) (X:List Nat) (Fin:World→Prop) (cs:Array Value) (a:Option Addr) (n c:Nat) (l:List α) (r:Tp):Prop where
 de:De w wr b g po X Fin (cs.setIfInBounds f (.slice a n c)) r
 gr:Grow R m e B X wr (.slice a n c) l
 nl:n=l.length
 vX:∀ z∈obl (.slice a n c),z∈X
 lb:b < B
 lp:po < B
 lg:g < B
 lq:w.heap.size < B
 lB:B≤wr.heap.size
section
variable {α:Type} {R:World→List Value→α→Prop} {m:Nat} {e:TypeId} {f:Nat} {w wr w1 u:World} {b g po B:Nat} {X:List Nat} {Fin:World→Prop} {cs:Array Value} {a:Option Addr} {n c:Nat} {l:List α} {r r':Tp}
theorem Dg.ge (h:Dg R m e f w wr b g po B X Fin cs a n c l r):∀ z∈obl (.slice a n c),B≤z∧z < wr.heap.size:=h.gr.ge
theorem Dg.read (h:Dg R m e f w wr b g po B X Fin cs a n c l r) (k:Kept [b] wr w1) (tp:TpAt 145 w1 b g r'):Dg R m e f w w1 b g po B X Fin cs a n c l r' :=
 ⟨h.de.read k tp,h.gr.step k (fun z hz hm=>by have:=h.ge z hz;have:=h.lb;rw [List.mem_singleton] at hm;omega) (fun z hz _=>by rw [List.mem_singleton] at hz;subst hz;exact h.de.bX) (fun z hz=>Or.inl hz),h.nl,h.vX,h.lb,h.lp,h.lg,h.lq,Nat.le_trans h.lB k.size⟩
theorem Dg.cell (h:Dg R m e f w wr b g po B X Fin cs a n c l r) (hf:f < cs.size):∀ w',Kept (b::obl (.slice a n c)) wr w'→w'.cell? ⟨po,f,none⟩=some (.slice a n c):=fun w' k=>by
 have h1:=h.de.bp_;have h2:=h.lp
 rw [(h.de.bp.kept k (fun hm=>by
  rcases List.mem_cons.1 hm with e|e
  ·omega
  ·have:=h.ge _ e;omega)).cell f]
 simp [hf]
theorem Dg.frozen (h:Dg R m e f w wr b g po B X Fin cs a n c l r):∀ w',Kept (b::obl (.slice a n c)) wr w'→w'.frozen? ⟨po,f,none⟩=false:=fun w' k=>by
 have h1:=h.de.bp_;have h2:=h.lp
 exact (h.de.bp.kept k (fun hm=>by
  rcases List.mem_cons.1 hm with e|e
  ·omega
  ·have:=h.ge _ e;omega)).frozen f
/-- the row of a struct, laid by a slice literal of one element -/
theorem rowS {Y:World} {k:Nat} (hk:Y.heap.size=k) (T:TypeId) (cs:List Value) (m:Nat) (hm:cs.length=m):Row (Y.alloc (.cells cs.toArray T)) m (.slice (some ⟨k,0,none⟩) 1 1) 1 cs :=
 hk▸row_of_blk (Blk.new Y T cs.toArray) (by omega) (by omega)
/-- one more behind the field: u is the world of the append, w1 that behind the call -/
theorem Dg.pushed {y:World} {p:Option Addr} {q:Nat} {d:α} (D:Dg R m e f w w1 b g po B X Fin cs a n c l r') (ku:Kept [] w1 u) (G:Grow R m e B (X++obl (.slice p (l.length+1) q)) y (.slice p (l.length+1) q) (l++[d])) (k:Kept (obl (.slice a n c)) u y)
  (t:∀ z∈obl (.slice p (l.length+1) q),z∈obl (.slice a n c)∨z=u.heap.size) :
  Kept (obl (.slice a n c)) w1 y∧∃ X',Dg R m e f w (y.setCell ⟨po,f,none⟩ (.slice p (l.length+1) q)) b g po B X' Fin cs p (l.length+1) q (l++[d]) r'∧∀ z∈X',z∈X∨w1.heap.size≤z:=by
 have hle:=D.lB;have hsu:=ku.size;have hlb:=D.lb;have hlp:=D.lp;have hlg:=D.lg;have hlq:=D.lq;have hge:=D.ge;have kk:Kept (obl (.slice a n c)) w1 y:=(ku.mono (by simp)).trans k;have hsy:=k.size
 have hXX:∀ z∈X++obl (.slice p (l.length+1) q),z∈X∨w1.heap.size≤z:=fun z hz=>by
  rcases List.mem_append.1 hz with e|e
  ·exact Or.inl e
  ·rcases t z e with e|e
   ·exact Or.inl (D.vX z e)
   ·exact Or.inr (by omega)
 refine ⟨kk,X++obl (.slice p (l.length+1) q),?_,hXX⟩
 have hlt:∀ z∈X++obl (.slice p (l.length+1) q),z < y.heap.size:=fun z hz=>by
  rcases List.mem_append.1 hz with e|e
  ·have:=D.de.hX z e;omega
  ·exact (G.ge z e).2
 have D1:De w y b g po (X++obl (.slice p (l.length+1) q)) Fin (cs.setIfInBounds f (.slice a n c)) r' :=
  D.de.step kk (fun hm=>by have:=hge _ hm;omega) (fun hm=>by have:=hge _ hm;omega) (fun hm=>by have:=hge _ hm;omega) (fun hm=>by have:=hge _ hm;omega) (fun z hz=>by have:=hge z hz;omega) (fun z hz _=>D.vX z hz)
   hXX hlt (fun z hz=>List.mem_append_left _ hz)
 have D2:=D1.store f (.slice p (l.length+1) q)
 have hcs:(cs.setIfInBounds f (.slice a n c)).setIfInBounds f (.slice p (l.length+1) q)=cs.setIfInBounds f (.slice p (l.length+1) q):=by
  apply Array.ext_getElem?
  intro j;simp only [Array.getElem?_setIfInBounds,Array.size_setIfInBounds]
  split <;> rfl
 rw [hcs] at D2;have kp:Kept [po] y (y.setCell ⟨po,f,none⟩ (.slice p (l.length+1) q)):=(Kept.refl _ _).setCell (by simp) _;refine ⟨D2,G.step kp (fun z hz hm=>by have:=G.ge z hz;rw [List.mem_singleton] at hm;omega) (fun z hz _=>by rw [List.mem_singleton] at hz;subst hz;exact List.mem_append_left _ D.de.pX) (fun z hz=>Or.inl hz),by simp,fun z hz=>List.mem_append_right _ hz,hlb,hlp,hlg,hlq,?_⟩
 have:(y.setCell ⟨po,f,none⟩ (.slice p (l.length+1) q)).heap.size=y.heap.size:=by simp [World.setCell]
 omega
theorem step_push {ops:Array Oper} {o:Oper} {ac:Act} {K:Act→World→Prop} {Q:Exit→Act→World→Prop} {E:Prop} (D:Dg R m e f w w1 b g po B X Fin cs a n c l r') (hgd:o.guard=none) (s x:Operand) (T:TypeId)
  (ho:o.op=.call { callee:=.builtin .append,args:=#[s,x],argTypes:=#[T,T] }) (i:TypeInfo) (z:Value) (bytes:Nat) (ht:Tryz.prog.underlying T=some (.slice e)) (hi:Tryz.prog.info? e=some i) (hz:i.zero=some z)
  (hsize:i.size=m) (hby:i.bytes=bytes) (hzs:z.cells.size=m) (hsz:0 < m) (hbs:bytes≤128)
  (hs:ac.eval s=.slice a n c) (v:Value) (hx:ac.eval x=v) (el:List Value) (d:α) (hrow:Row u m v 1 el) (ku:Kept [] w1 u) (hR:Stable X (fun w=>R w el d) w1) (h1:∀ u∈el,u.oneCell'=true) (hn:l.length≤1000000000)
  (h:∀ p q y,Kept (obl (.slice a n c)) w1 y→(∃ X',Dg R m e f w (y.setCell ⟨po,f,none⟩ (.slice p (l.length+1) q)) b g po B X' Fin cs p (l.length+1) q (l++[d]) r')→K (ac.put o.dst (.slice p (l.length+1) q)) y) :
  if Region.wanted o (yielded ops ac.tmps)=true then Oper.wp Tryz.prog o ac u K Q else E:=by
 have hle:=D.lB;have hsu:=ku.size;refine step_append_grow hgd s x T ho i z bytes ht hi hz hsize hby hzs hsz hbs hs (D.gr.step (X':=X) ku (by simp) (by simp) (fun z hz=>Or.inl hz)) v el d hx hrow (hR.step ku (by simp) (fun z hz=>Or.inl hz)) h1 hn (by omega) D.vX ?_;intro p q y G k t;obtain ⟨kk,X',hD,_⟩:=D.pushed ku G k t;exact h p q y kk ⟨X',hD⟩
/-- the field is finished -/
theorem Dg.done (h:Dg R m e f w wr b g po B X Fin cs a n c l r) (hl:l.length≤9223372036854775807) :
  ∃ X',De w wr b g po X' (fun w=>Fin w∧RowOf R m w (.slice a n c) l) (cs.setIfInBounds f (.slice a n c)) r∧(∀ z∈X',z∈X)∧∀ z∈obl (.slice a n c),z∉X':=by
 have hlb:=h.lb;have hlp:=h.lp;have hlq:=h.lq;have hge:=h.ge
 let X':=X.filter fun z=>!(obl (.slice a n c)).contains z
 have m1:∀ z,z∈X'→z∈X:=fun z hz=>(List.mem_filter.1 hz).1;have m2:∀ z,z∈X→z∉obl (.slice a n c)→z∈X':=fun z hz hn=>List.mem_filter.2 ⟨hz,by simpa using hn⟩
 have m3:∀ z∈obl (.slice a n c),z∉X':=fun z hz hm=>by have:=(List.mem_filter.1 hm).2;simp at this;exact this hz
 refine ⟨X',?_,m1,m3⟩;have d:=h.de;have fin2:Stable X' (fun w=>Fin w∧RowOf R m w (.slice a n c) l) wr:=(d.fin.less (fun z hz=>Or.inl (m1 z hz))).and (h.gr.done (fun z hz=>Or.inl (m1 z hz)) m3 hl);exact ⟨d.tp,d.bp,fin2,m2 _ d.bX (fun hm=>by have:=hge _ hm;omega),m2 _ d.pX (fun hm=>by have:=hge _ hm;omega),m2 _ d.qX (fun hm=>by have:=hge _ hm;omega),fun z hz=>d.hX z (m1 z hz),d.gl,d.bp_,d.gp,d.wb,d.wp,d.bq,d.k0⟩
/-- the rounds of a loop that fills a field -/
def GRel (R:World→List Value→α→Prop) (m:Nat) (e:TypeId) (f:Nat) (one:Tp→α × Tp) (w:World) (b g po B:Nat) (Fin:World→Prop) (cs:Array Value) (fin:List α × Tp) (N:Nat) (vi:Value) (wr:World):Prop :=
 ∃ (k:Nat) (r:Tp) (acc:List α) (X:List Nat) (a:Option Addr) (n c:Nat),vi=.int .i64 acc.length∧acc.length+k=N∧times one k r acc=fin∧r.left.length≤100000001∧Dg R m e f w wr b g po B X Fin cs a n c acc r
theorem GRel.next {one:Tp→α × Tp} {fin:List α × Tp} {N k:Nat} {acc:List α} {d:α} {p:Option Addr} {q:Nat} {wf:World}
  (h:∃ X',Dg R m e f w wf b g po B X' Fin cs p (acc.length+1) q (acc++[d]) r) (hN:acc.length+(k+1)=N) (hf:times one k r (acc++[d])=fin) (hr:r.left.length≤100000001) :
  GRel R m e f one w b g po B Fin cs fin N (.int .i64 ((acc.length:Int)+1)) wf:=by
 obtain ⟨X',D⟩:=h;exact ⟨k,r,acc++[d],X',p,acc.length+1,q,by simp,by simp;omega,hf,hr,D⟩
theorem Dg.start (D:De w wr b g po X Fin cs r) (hcs:cs.setIfInBounds f (.slice none 0 0)=cs):Dg R m e f w wr b g po wr.heap.size X Fin cs none 0 0 [] r :=
 ⟨by rw [hcs];exact D,Grow.nil_ _ _ _ _ _ _,rfl,by simp [obl,Value.ownBlock],D.bl,D.pl,D.gl,D.hX _ D.qX,Nat.le_refl _⟩
end
end Go.Proofs.YtpcdfepndmconaaGreatDoor
/- A record is read: show.Decode. -/
namespace Go.Proofs.YtpcdfepndmconaaGreatDoor
open Go.RowKit Tape
theorem infoTk:(Tryz.prog.info? 134).map (fun i=>(i.zero,i.size,i.bytes))=some (some (.agg #[.int .i64 0,.int .i64 0,.int .i64 0,.int .i64 0,.int .i64 0,.int .i64 0]),6,48):=by kernel_rfl
theorem infoSp:(Tryz.prog.info? 110).map (fun i=>(i.zero,i.size,i.bytes))=some (some (.agg #[.int .i64 0,.slice none 0 0]),2,32):=by kernel_rfl
theorem infoLk:(Tryz.prog.info? 138).map (fun i=>(i.zero,i.size,i.bytes))=some (some (.agg #[.int .i64 0,.int .i64 0,.int .i64 0,.int .i64 0,.int .i64 0,.int .i64 0,.int .i64 0,.slice none 0 0,.string ⟨#[]⟩]),9,96):=by kernel_rfl
theorem infoLks:(Tryz.prog.info? 112).map (fun i=>(i.zero,i.size,i.bytes))=some (some (.slice none 0 0),1,24):=by kernel_rfl
theorem RowOf_none (w:World):Row w 1 (.slice none 0 0) ([]:List Int).length (ints []):=⟨rfl,by simp,none,0,rfl,by simp,fun h=>absurd h (by simp)⟩
/-- what show.Decode gives -/
def DecRet (q:Rec × Bool) (w:World) (e:Ending) (w':World):Prop:=∃ v,e=.returned (.tuple #[v,.bool q.2])∧RecV w' v q.1∧Kept [] w w'
/-- what the reader's Texts gives -/
def TextsP (b:Nat) (l:List (List UInt8)) (rd:Wire.Rd) (w:World) (e:Ending) (w':World):Prop:=∃ a c,e=.returned (.slice a l.length c)∧w'.ownsRow w.heap.size 9 1 (.slice a l.length c) l.length (strs l)∧RdAt w' b rd∧Kept [b] w w'
theorem rd_textsP {l:List (List UInt8)} {r':Wire.Rd} (b:Nat) (r:Wire.Rd) (hq:Wire.texts r=(l,r')) (w:World) (h:RdAt w b r) (hE:Env w) (hs:Fits r) :
  Calls Tryz.prog 115 #[.pointer (some ⟨b,0,none⟩)] w (TextsP b l r' w) :=
 (rd_texts' b r hq w h hE hs).mono fun e w' ⟨v,h1,h2,h3,h4⟩=>by
  obtain ⟨a,c,rfl⟩:=own_len h2 (by decide);exact ⟨a,c,h1,h2,h3,h4⟩
def TextP (b:Nat) (l:List UInt8) (rd:Wire.Rd) (w:World) (e:Ending) (w':World):Prop:=e=.returned (.string ⟨l.toArray⟩)∧RdAt w' b rd∧Kept [b] w w'
def BoolP (x:Bool) (w:World) (e:Ending) (w':World):Prop:=e=.returned (.bool x)∧Kept [] w w'
def TickP6 (b g:Nat) (t1 t2 t3 t4 t5 t6:Int) (r:Tp) (w:World) (e:Ending) (w':World):Prop:=e=.returned (.agg #[.int .i64 t1,.int .i64 t2,.int .i64 t3,.int .i64 t4,.int .i64 t5,.int .i64 t6])∧TpAt 145 w' b g r∧Kept [b] w w'
theorem own_max {w:World} {B:Nat} {e:TypeId} {size n:Nat} {v:Value} {xs:List Value} (h:w.ownsRow B e size v n xs) (hs:0 < size):n≤9223372036854775807:=by
 rcases h.2 with ⟨_,h4⟩|⟨g,cap,cur,_,_,_,h1,h2,_⟩
 ·have h5:=h.1;rw [h4] at h5
  rcases Nat.eq_zero_or_pos n with h|h
  ·omega
  ·have:=Nat.mul_pos h hs;simp at h5;omega
 ·unfold maxLen at h2
  omega
theorem recV_zero (w:World):RecV w (.agg zeros9) zeroR :=
 ⟨_,_,_,_,_,_,_,_,_,rfl,RowOf.nil_ _ _ _,RowOf.nil_ _ _ _,RowOf.nil_ _ _ _,RowOf_none w,RowOf_none w,RowOf.nil_ _ _ _,RowOf_none w,RowOf.nil_ _ _ _,RowOf.nil_ _ _ _⟩
theorem readR_eq {s tx:List UInt8} {ts:List (List UInt8)} {ns:List Int} {rd1 rd2 rd3:Wire.Rd} {p:Pf} {ok:Bool} (h1:Wire.texts ⟨s,false⟩=(ts,rd1)) (h2:Wire.nums rd1=(ns,rd2)) (h3:Wire.text rd2=(tx,rd3)) (h4:readPf tx=(p,ok)) :
  readR s=joinR ts ns rd3 (p,ok):=by
 unfold readR
 rw [h1]
 simp only
 rw [h2]
 simp only
 rw [h3]
 simp only
 rw [h4]
theorem nums7_eq {r r1 r2 r3 r4 r5 r6 r7:Tp} {tk:List Tick} {sp:List Spnd} {lk:List (List Lnk)} {cm ch es:List Int} {bt:List (List Int)} (h1:many tick r=(tk,r1)) (h2:many spnd r1=(sp,r2)) (h3:many (many lnk) r2=(lk,r3)) (h4:list r3=(cm,r4)) (h5:list r4=(ch,r5)) (h6:many list r5=(bt,r6)) (h7:list r6=(es,r7)) :
  nums7 r=((tk,sp,lk,cm,ch,bt,es),r7):=by
 simp only [nums7,both,h1,h2,h3,h4,h5,h6,h7]
end Go.Proofs.YtpcdfepndmconaaGreatDoor
namespace Go.Proofs.YtpcdfepndmconaaGreatDoor
open Go.RowKit Tape
/-- the row behind the first string -/
theorem Row.tail {w:World} {a:Option Addr} {n c:Nat} {t:List UInt8} {tl:List (List UInt8)} (h:Row w 1 (.slice a n c) (t::tl).length (strs (t::tl))) {b off:Nat} (ha:a=some ⟨b,off,none⟩):Row w 1 (.slice (some ⟨b,off+1,none⟩) tl.length (c - 1)) tl.length (strs tl):=by
 obtain ⟨h1,h2,a',c',hv,hcc,hc⟩:=h;injection hv with e1 e2 e3;subst e1 e3 ha;simp only [List.length_cons] at h2 hcc hc;refine ⟨by simp [strs],by omega,_,_,rfl,by omega,fun hp=>?_⟩;obtain ⟨b1,o1,hb,hcell⟩:=hc (by omega);injection hb with hb;injection hb with hb ho;subst hb ho;refine ⟨b,off+1,rfl,fun k u hu=>?_⟩;rw [show off+1+k=off+(k+1) from by omega];exact hcell (k+1) u (by simpa [strs] using hu)
theorem Row.none1 (w:World) (a:Option Addr):Row w 1 (.slice a 0 0) ([]:List (List UInt8)).length (strs []):=⟨rfl,by simp,a,0,rfl,by simp,fun h=>absurd h (by simp)⟩
structure Li (w wo wr:World) (b g po B:Nat) (X:List Nat) (Fin:World→Prop) (cs:Array Value) (a:Option Addr) (n c:Nat) (accL:List (List (Lnk × List UInt8))) (ro r:Tp) (a10:Option Addr) (n10 c10:Nat) (acc2:List (Lnk × List UInt8)) (ta:Option Addr) (nt tc:Nat) (tsl:List (List UInt8)):Prop where
 do_:Dg LnksR 1 112 2 w wo b g po B X Fin cs a n c accL ro
 kb:Kept [b] wo wr
 tp:TpAt 145 wr b g r
 e10:n10=acc2.length
 et:nt=tsl.length
 gr:∃ X2,(∀ z∈X,z∈X2)∧(∀ z∈X2,z < wr.heap.size)∧(∀ z∈obl (.slice a10 n10 c10),z∈X2)∧Grow LnkR 9 138 wo.heap.size X2 wr (.slice a10 n10 c10) acc2∧Stable X2 (fun w=>Row w 1 (.slice ta nt tc) tsl.length (strs tsl)) wr
section
variable {w wo wr w1 u y:World} {b g po B:Nat} {X X2:List Nat} {Fin:World→Prop} {cs:Array Value} {a a10 p ta ta':Option Addr} {n c n10 c10 nt tc nt' tc' q:Nat} {accL:List (List (Lnk × List UInt8))} {ro r r':Tp} {acc2:List (Lnk × List UInt8)} {tsl tsl':List (List UInt8)} {d:Lnk × List UInt8}
theorem Li.dg (h:Li w wo wr b g po B X Fin cs a n c accL ro r a10 n10 c10 acc2 ta nt tc tsl):Dg LnksR 1 112 2 w wr b g po B X Fin cs a n c accL r:=h.do_.read h.kb h.tp
theorem Li.ge (h:Li w wo wr b g po B X Fin cs a n c accL ro r a10 n10 c10 acc2 ta nt tc tsl):∀ z∈obl (.slice a10 n10 c10),wo.heap.size≤z∧z < wr.heap.size:=by
 obtain ⟨X2,_,_,_,G,_⟩:=h.gr;exact G.ge
theorem Li.read (h:Li w wo wr b g po B X Fin cs a n c accL ro r a10 n10 c10 acc2 ta nt tc tsl) (k:Kept [b] wr w1) (tp:TpAt 145 w1 b g r'):Li w wo w1 b g po B X Fin cs a n c accL ro r' a10 n10 c10 acc2 ta nt tc tsl:=by
 obtain ⟨X2,x1,x2,x3,G,T⟩:=h.gr;have hb:=h.do_.de.bl;have hge:=h.ge
 have hS:∀ z∈[b],z < wr.heap.size→z∈X2:=fun z hz _=>by rw [List.mem_singleton] at hz;subst hz;exact x1 _ h.do_.de.bX
 exact ⟨h.do_,h.kb.trans k,tp,h.e10,h.et,⟨X2,x1,fun z hz=>Nat.lt_of_lt_of_le (x2 z hz) k.size,x3,G.step k (fun z hz hm=>by have:=hge z hz;rw [List.mem_singleton] at hm;omega) hS (fun z hz=>Or.inl hz),T.step k hS (fun z hz=>Or.inl hz)⟩⟩
theorem Li.keep (h:Li w wo wr b g po B X Fin cs a n c accL ro r a10 n10 c10 acc2 ta nt tc tsl) (k:Kept [] wr w1):Li w wo w1 b g po B X Fin cs a n c accL ro r a10 n10 c10 acc2 ta nt tc tsl:=by
 obtain ⟨X2,x1,x2,x3,G,T⟩:=h.gr;exact ⟨h.do_,h.kb.trans (k.mono (by simp)),h.tp.keep k (by simp) (by simp),h.e10,h.et,⟨X2,x1,fun z hz=>Nat.lt_of_lt_of_le (x2 z hz) k.size,x3,G.step k (by simp) (by simp) (fun z hz=>Or.inl hz),T.step k (by simp) (fun z hz=>Or.inl hz)⟩⟩
theorem Li.row (h:Li w wo wr b g po B X Fin cs a n c accL ro r a10 n10 c10 acc2 ta nt tc tsl):Row wr 1 (.slice ta nt tc) tsl.length (strs tsl):=by
 obtain ⟨X2,x1,x2,x3,G,T⟩:=h.gr;exact T.get
theorem Li.terms (h:Li w wo wr b g po B X Fin cs a n c accL ro r a10 n10 c10 acc2 ta nt tc tsl) (hn:nt'=tsl'.length) (hi:∀ w,Row w 1 (.slice ta nt tc) tsl.length (strs tsl)→Row w 1 (.slice ta' nt' tc') tsl'.length (strs tsl')):Li w wo wr b g po B X Fin cs a n c accL ro r a10 n10 c10 acc2 ta' nt' tc' tsl':=by
 obtain ⟨X2,x1,x2,x3,G,T⟩:=h.gr;exact ⟨h.do_,h.kb,h.tp,h.e10,hn,⟨X2,x1,x2,x3,G,T.imp hi⟩⟩
theorem Li.push (h:Li w wo wr b g po B X Fin cs a n c accL ro r a10 n10 c10 acc2 ta nt tc tsl) (x1:∀ z∈X,z∈X2) (x2:∀ z∈X2,z < wr.heap.size) (T:Stable X2 (fun w=>Row w 1 (.slice ta nt tc) tsl.length (strs tsl)) wr) (x3:∀ z∈obl (.slice a10 n10 c10),z∈X2) (k:Kept (obl (.slice a10 n10 c10)) wr y) (hn:nt'=n10+1)
  (G:Grow LnkR 9 138 wo.heap.size (X2++obl (.slice p nt' q)) y (.slice p nt' q) (acc2++[d])) (t:∀ z∈obl (.slice p nt' q),z∈obl (.slice a10 n10 c10)∨z=wr.heap.size):Li w wo y b g po B X Fin cs a n c accL ro r p nt' q (acc2++[d]) ta nt tc tsl:=by
 have hge:=h.ge;have hsy:=k.size;have hb:=h.do_.de.bl;have hg:=h.do_.de.gl
 have hXX:∀ z∈X2++obl (.slice p nt' q),z∈X2∨wr.heap.size≤z:=fun z hz=>by
  rcases List.mem_append.1 hz with e|e
  ·exact Or.inl e
  ·rcases t z e with e|e
   ·exact Or.inl (x3 z e)
   ·exact Or.inr (by omega)
 refine ⟨h.do_,h.kb.then_ k (fun z hz hm=>by have:=hge z hm;omega),h.tp.keep k (fun hm=>by have:=hge _ hm;omega) (fun hm=>by have:=hge _ hm;omega),by rw [hn,h.e10];simp,h.et,
  ⟨X2++obl (.slice p nt' q),fun z hz=>List.mem_append_left _ (x1 z hz),fun z hz=>?_,fun z hz=>List.mem_append_right _ hz,G,T.step k (fun z hz _=>x3 z hz) hXX⟩⟩
 rcases List.mem_append.1 hz with e|e
 ·have:=x2 z e;omega
 ·exact (G.ge z e).2
/-- the list of links is finished -/
theorem Li.done (h:Li w wo wr b g po B X Fin cs a n c accL ro r a10 n10 c10 acc2 ta nt tc tsl) (hl:acc2.length≤9223372036854775807):Stable X (fun w=>LnksR w [.slice a10 n10 c10] acc2) wr:=by
 obtain ⟨X2,x1,x2,x3,G,T⟩:=h.gr;have hge:=h.ge;have hX:=h.do_.de.hX
 exact (G.done (X':=X) (fun z hz=>Or.inl (x1 z hz)) (fun z hz hm=>by have:=hge z hz;have:=hX z hm;omega) hl).imp fun _ h=>⟨_,rfl,h⟩
end
/-- the rounds over the lists of links -/
def LRel (w:World) (b g po B:Nat) (Fin:World→Prop) (cs:Array Value) (fin:List (List Lnk) × Tp) (N:Nat) (ts:List (List UInt8)) (vt vi:Value) (wr:World):Prop :=
 ∃ (k:Nat) (r:Tp) (acc:List (List (Lnk × List UInt8))) (X:List Nat) (a:Option Addr) (n c:Nat) (tsl:List (List UInt8)) (ta:Option Addr) (nt tc:Nat),vt=.slice ta nt tc∧vi=.int .i64 acc.length∧acc.length+k=N∧times (many lnk) k r (strip acc)=fin∧terms acc++tsl=ts∧r.left.length≤100000001∧nt=tsl.length ∧
  Dg LnksR 1 112 2 w wr b g po B X Fin cs a n c acc r∧Stable X (fun w=>Row w 1 (.slice ta nt tc) tsl.length (strs tsl)) wr
/-- the rounds over the links of one list -/
def InL (w wo:World) (b g po B:Nat) (X:List Nat) (Fin:World→Prop) (cs:Array Value) (a:Option Addr) (n c:Nat) (accL:List (List (Lnk × List UInt8))) (ro:Tp) (fin:List Lnk × Tp) (N:Nat) (ts:List (List UInt8)) (vt v10 vi:Value) (wr:World):Prop :=
 ∃ (k:Nat) (r:Tp) (acc2:List (Lnk × List UInt8)) (a10:Option Addr) (n10 c10:Nat) (tsl:List (List UInt8)) (ta:Option Addr) (nt tc:Nat),vt=.slice ta nt tc∧v10=.slice a10 n10 c10∧vi=.int .i64 acc2.length∧acc2.length+k=N∧times lnk k r (acc2.map Prod.fst)=fin∧terms accL++(acc2.map Prod.snd++tsl)=ts∧r.left.length≤100000001 ∧
  Li w wo wr b g po B X Fin cs a n c accL ro r a10 n10 c10 acc2 ta nt tc tsl
theorem LRel.next {w wf:World} {b g po B:Nat} {Fin:World→Prop} {cs:Array Value} {fin:List (List Lnk) × Tp} {N k:Nat} {ts tsl:List (List UInt8)} {acc:List (List (Lnk × List UInt8))} {d:List (Lnk × List UInt8)} {p ta:Option Addr} {q nt tc:Nat} {r:Tp}
  (h:∃ X',Dg LnksR 1 112 2 w wf b g po B X' Fin cs p (acc.length+1) q (acc++[d]) r∧Stable X' (fun w=>Row w 1 (.slice ta nt tc) tsl.length (strs tsl)) wf) (hN:acc.length+(k+1)=N) (hf:times (many lnk) k r (strip (acc++[d]))=fin) (ht:terms acc++(d.map Prod.snd++tsl)=ts)
  (hr:r.left.length≤100000001) (hnt:nt=tsl.length):LRel w b g po B Fin cs fin N ts (.slice ta nt tc) (.int .i64 ((acc.length:Int)+1)) wf:=by
 obtain ⟨X',D,T⟩:=h;exact ⟨k,r,acc++[d],X',p,acc.length+1,q,tsl,ta,nt,tc,rfl,by simp,by simp;omega,hf,by rw [terms_snoc,List.append_assoc];exact ht,hr,hnt,D,T⟩
end Go.Proofs.YtpcdfepndmconaaGreatDoor
