import Derived.Test.YtpcmamoomaddoaaGreatDoorProg
import Derived.WalkKit
import Derived.WalkSpells
import Derived.WalkLawsBesides
import Derived.Laws.OwnMore
import Derived.Deep.Draws
import Derived.Deep.AppendLies
import Derived.Lib.Hide
import Derived.Deep.QuietTactic
import Derived.BigQuiet
set_option maxRecDepth 100000
set_option maxHeartbeats 32000000
namespace Go.Proofs.YtpcmamoomaddoaaGreatDoor
open Go.RowKit
/-! ### a world that has turned at the blocks of a list alone (and has new blocks) -/
structure Kept (S:List Nat) (w w':World):Prop where
 os:w'.os=w.os
 tape:w'.tape=w.tape
 output:w'.output=w.output
 size:w.heap.size<=w'.heap.size
 block:∀k,k < w.heap.size->k∉S->w'.heap[k]?=w.heap[k]?
section
variable {S:List Nat} {w w' w'':World}
theorem Kept.refl(S:List Nat)(w:World):Kept S w w:=⟨rfl,rfl,rfl,Nat.le_refl _,fun _ _ _=>rfl⟩
theorem Kept.trans(h:Kept S w w')(k:Kept S w' w''):Kept S w w'' := ⟨k.os.trans h.os,k.tape.trans h.tape,k.output.trans h.output,Nat.le_trans h.size k.size,
  fun i hi hS=>(k.block i (Nat.lt_of_lt_of_le hi h.size) hS).trans (h.block i hi hS)⟩
theorem Kept.mono{S':List Nat}(h:Kept S w w')(hs:∀k,k < w.heap.size->k∈S->k∈S'):Kept S' w w' := ⟨h.os,h.tape,h.output,h.size,fun i hi hS=>h.block i hi fun hx=>hS (hs i hi hx)⟩
/-- behind a callee that turned blocks of its caller's own -/
theorem Kept.then_{S':List Nat}(h:Kept S w w')(k:Kept S' w' w'')(hs:∀k,k < w.heap.size->k∈S'->k∈S):Kept S w w'' := ⟨k.os.trans h.os,k.tape.trans h.tape,k.output.trans h.output,Nat.le_trans h.size k.size,
  fun i hi hS=>(k.block i (Nat.lt_of_lt_of_le hi h.size) (fun hx=>hS (hs i hi hx))).trans (h.block i hi hS)⟩
/-- behind a callee that turned blocks that are new since w -/
theorem Kept.fresh{S':List Nat}(h:Kept S w w')(k:Kept S' w' w'')(hs:∀x∈S',w.heap.size<=x):Kept S w w'' :=
 h.then_ k fun x hx hm=>absurd (hs x hm) (by omega)
theorem Kept.drew(h:Kept S w w'):Kept S w w'.drew:=⟨h.os,h.tape,h.output,h.size,h.block⟩
theorem Kept.drewN(h:Kept S w w')(n:Nat):Kept S w (w'.drewN n):=⟨h.os,h.tape,h.output,h.size,h.block⟩
theorem Kept.alloc(h:Kept S w w')(o:Obj):Kept S w (w'.alloc o) :=
 h.trans ⟨rfl,rfl,rfl,by simp,fun k hk _=>Below.heap_alloc _ _ _ hk⟩
theorem Kept.setCell(h:Kept S w w'){p:Addr}(hp:p.block∈S\/w.heap.size<=p.block)(u:Value):Kept S w (w'.setCell p u) := ⟨h.os,h.tape,h.output,by simpa [World.setCell]using h.size,fun k hk hS =>
  (Below.heap_setCell _ _ _ _ (fun e=>by rcases hp with hp|hp;exact hS (e▸hp);omega)).trans (h.block k hk hS)⟩
theorem Kept.of_below(h:Below w.heap.size w w'):Kept S w w':=⟨h.os,h.tape,h.output,h.size,fun k hk _=>h.block k hk⟩
theorem Kept.below(h:Kept [] w w'):Below w.heap.size w w':=⟨h.os,h.tape,h.output,h.size,fun k hk=>h.block k hk (by simp)⟩
theorem Kept.of_grown{row:Option Nat}(h:w.grownBy w' row)(hr:∀k,row=some k->k∈S):Kept S w w' := ⟨h.os,h.tape,h.output,h.size,fun k hk hS=>h.block k hk fun e=>hS (hr k e.symm)⟩
theorem Kept.cell(h:Kept S w w'){p:Addr}(hp:p.block < w.heap.size)(hS:p.block∉S):w'.cell? p=w.cell? p :=
 World.cell?_of_block (w:=w) (h.block p.block hp hS)
theorem Kept.frozen(h:Kept S w w'){p:Addr}(hp:p.block < w.heap.size)(hS:p.block∉S):w'.frozen? p=w.frozen? p :=
 World.frozen?_of_block (w:=w) (h.block p.block hp hS)
end
/-! ### a region that draws its order, where all that lay in 'w0' stays as it is: one walk, in the order of the text -/
def KW(w0:World):Type:={w:World // Kept [] w0 w}
instance KW.some_ (w0:World):Nonempty (KW w0):=⟨⟨w0,Kept.refl _ _⟩⟩
theorem cV{P:Program}{id:Nat}{Q:Exit->Act->World->Prop}{a:Act}{w:World}{l:List Oper}(w0:World)(h0:Kept [] w0 w)
  (hm:P.follows .mixedOrders=true) (hB:Region.lexB .any l.toArray=true)
  (h:wpQuiet P l.toArray (fun w'=>∃x:KW w0,w'=x.val) (fun a'=>∀w',(∃x:KW w0,w'=x.val)->Q .normal a' w') l a):(Code.region id l.toArray true).wp P Q a w :=
 wp_region_quiet (C:=fun w'=>∃x:KW w0,w'=x.val) hm hB ⟨⟨_,h0.drew⟩,rfl⟩ (by simpa using h)
/-- a contract that keeps all that was there, met in such a region -/
theorem pT{P:Program}{f:FuncId}{args:Array Value}{w0:World}{x:KW w0}{v:Value}
  (h:Calls P f args x.val fun e w'=>e=.returned v/\Kept [] x.val w'):Calls P f args x.val fun e w''=>e=.returned v/\∃y:KW w0,w''=y.val :=
 h.mono fun _ w' ⟨he,hk⟩=>⟨he,⟨w',x.property.trans hk⟩,rfl⟩
theorem KW.cell{w0:World}(x:KW w0){p:Addr}{v:Value}(h:w0.cell? p=some v):x.val.cell? p=some v :=
 (x.property.cell (World.block_lt_of_cell? w0 p h) (by simp)).trans h
theorem Kept.cellOf{W:World}{p:Addr}{v:Value}(h:W.cell? p=some v):∀w':World,Kept [] W w'->w'.cell? p=some v :=
 fun _ k=>(k.cell (World.block_lt_of_cell? W p h) (by simp)).trans h
/-! ### a block known whole -/
def Blk(w:World)(b:Nat)(T:TypeId)(cs:Array Value):Prop:=w.heap[b]?=some (.cells cs T (0,0))
section
variable {w w':World} {b:Nat} {T:TypeId} {cs:Array Value}
theorem Blk.lt(h:Blk w b T cs):b < w.heap.size:=(Array.getElem?_eq_some_iff.1 h).1
theorem Blk.cell(h:Blk w b T cs)(i:Nat):w.cell? ⟨b,i,none⟩=cs[i]?:=by unfold Blk at h;simp[World.cell?,h]
theorem Blk.frozen(h:Blk w b T cs)(i:Nat):w.frozen? ⟨b,i,none⟩=false:=by unfold Blk at h;simp[World.frozen?,h]
theorem Blk.set_(h:Blk w b T cs)(i:Nat)(u:Value):Blk (w.setCell ⟨b,i,none⟩ u) b T (cs.setIfInBounds i u):=by
 unfold Blk at h ⊢
 simp[World.setCell,Array.getElem?_modify,h]
theorem Blk.kept{S:List Nat}(h:Blk w b T cs)(k:Kept S w w')(hb:b∉S):Blk w' b T cs:=(k.block b h.lt hb).trans h
theorem Blk.drew(h:Blk w b T cs):Blk w.drew b T cs:=h
theorem Blk.alloc(h:Blk w b T cs)(o:Obj):Blk (w.alloc o) b T cs:=(Below.heap_alloc w o b h.lt).trans h
theorem Blk.new(w:World)(T:TypeId)(cs:Array Value):Blk (w.alloc (.cells cs T)) w.heap.size T cs:=heap_alloc_new w _
theorem Blk.far(h:Blk w b T cs){p:Addr}(hp:b≠p.block)(u:Value):Blk (w.setCell p u) b T cs:=(Below.heap_setCell w p u b hp).trans h
end
/-! ### an owned row -/
theorem dX{w:World}{B:Nat}{e:TypeId}{size:Nat}{v:Value}{n:Nat}{xs:List Value}(h:w.ownsRow B e size v n xs):∃a c,v=.slice a n c:=by
 rcases h.2 with⟨h1,h2⟩|⟨g,cap,cur,hv,_⟩
 ·subst h2;exact⟨_,_,h1⟩
 ·exact⟨_,_,hv⟩
/-- a row owned from a later block on is owned from an earlier one on -/
theorem nZ{w:World}{B B':Nat}{e:TypeId}{size:Nat}{v:Value}{n:Nat}{xs:List Value}(h:w.ownsRow B e size v n xs)(hB:B'<=B):w.ownsRow B' e size v n xs:=by
 refine⟨h.1,?_⟩
 rcases h.2 with h1|⟨g,cap,cur,hv,hg,r⟩
 ·exact Or.inl h1
 ·exact Or.inr ⟨g,cap,cur,hv,by omega,r⟩
end Go.Proofs.YtpcmamoomaddoaaGreatDoor
namespace Go.Proofs.YtpcmamoomaddoaaGreatDoor
abbrev Bs:=List UInt8
def ch(c:UInt8):Bool:=(97<=c.toNat&&c.toNat<=122) ||(65<=c.toNat&&c.toNat<=90)
def aN(c:UInt8):Bool:=48<=c.toNat&&c.toNat<=57
def aT(c:UInt8):Bool:=ch c ||aN c ||c.toNat==95
def cE(l:List UInt8):Bool:=!l.isEmpty&&ch (l.headD 0)&&decide (l.length<=20)&&l.all aT
/-! ### tokens -/
structure Tok where
 kind:Int
 text:Bs
 n:Int
 pos:Int
def bj(c:UInt8):Bool:=c.toNat==32 ||c.toNat==9 ||c.toNat==10
def mM(c:UInt8):Bool:=32<=c.toNat&&c.toNat<=126
def runB(p:UInt8->Bool)(l:Bs):Nat:=(l.takeWhile p).length
def cN(l:Bs):Nat:=l.foldl (fun n c=>10*n+(c.toNat - 48)) 0
def cg(s:Bs):Option Nat :=
 if s.isEmpty || !s.all aN ||(s.headD 0==48&&s.length != 1) ||decide (13 < s.length)then none
 else if 1099511627776 < cN s then none else some (cN s)
/-- a quoted string from behind its first quote on: its value, and how many bytes were read behind that quote -/
def quotedB:Bs->Bs->Nat->Option (Bs × Nat)
 | [],_,_=>none
 |c::t,v,n =>
  if mM c=false then none
  else if c.toNat=34 then(if 400 < v.length then none else some (v,n+1))
  else if c.toNat=92 then
   match t with
   | []=>none
   |d::t'=>if d.toNat=34\/d.toNat=92 then quotedB t' (v++[d]) (n+2)else none
  else quotedB t (v++[c]) (n+1)
def signsB:List Bs:=[[46,46],[33,61],[60,61],[62,61],[40],[41],[123],[125],[44],[59],[58],[46],[61],[60],[62],[43],[45],[42],[47]]
/-- the error's number, or the token without its place, and its length -/
def fA:Bs->Except Int (Tok × Nat)
 | []=>.error 10
 |c::r =>
  if ch c then
   if cE ((c::r).take (runB aT (c::r)))then .ok (⟨0,(c::r).take (runB aT (c::r)),0,0⟩,runB aT (c::r))else .error 3
  else if aN c then
   match cg ((c::r).take (runB aN (c::r)))with
   |some n=>.ok (⟨1,(c::r).take (runB aN (c::r)),n,0⟩,runB aN (c::r))
   |none=>.error 3
  else if c.toNat=34 then
   match quotedB r [] 1 with
   |some (v,n)=>.ok (⟨2,v,0,0⟩,n)
   |none=>.error 2
  else match signsB.find? (fun t=>t.isPrefixOf (c::r))with
   |some t=>.ok (⟨3,t,0,0⟩,t.length)
   |none=>.error 10
/-- behind blanks: comments and blanks are passed over -/
def gapC:Nat->Bs->Bs
 |0,s=>s
 |_+1,[]=>[]
 |f+1,c::t=>if c.toNat=35 then gapC f (((c::t).dropWhile (fun c=>c.toNat != 10)).dropWhile bj)else c::t
def gapB(s:Bs):Bs:=gapC (s.length+1) (s.dropWhile bj)
def eE:Nat->Bs->Nat->List Tok->Except Int (List Tok)
 |0,_,_,_=>.error 0
 |f+1,s,at_,out =>
  match gapB s with
  | []=>.ok out
  |c::r =>
   match fA (c::r)with
   | .error e=>.error e
   | .ok (t,n)=>eE f ((c::r).drop n) (at_+(s.length - (r.length+1))+n) (out++[{ t with pos:=at_+(s.length - (r.length+1)) }])
/-! ### predicates -/
inductive Pd where
 |node (kind:Int) (left right:Bs) (c:Int) (kids:List Pd)
def Pd.kind:Pd->Int|.node k _ _ _ _=>k
mutual
def aW:Pd->Bool
 | .node _ _ _ c ks=>decide (-1099511627776<=c)&&decide (c < 1099511627776)&&eX ks
def eX:List Pd->Bool
 | []=>true
 |p::l=>aW p&&eX l
end
mutual
def negB:Pd->Pd
 | .node k l r c ks =>
  if k=0 then .node 0 r l (-c - 1) []
  else .node (if k=1 then 2 else if k=2 then 1 else k) [] [] (if k=3 then ks.length - c+1 else 0) (negL ks)
def negL:List Pd->List Pd
 | []=>[]
 |p::l=>negB p::negL l
end
mutual
def sizeB:Pd->Nat
 | .node _ _ _ _ ks=>1+sizeL ks
def sizeL:List Pd->Nat
 | []=>0
 |p::l=>sizeB p+sizeL l
end
mutual
def deepB:Pd->Nat
 | .node _ _ _ _ ks=>1+deepL ks
def deepL:List Pd->Nat
 | []=>0
 |p::l=>max (deepB p) (deepL l)
end
def dG(p:Pd):Bool:=decide (sizeB p<=100)&&decide (deepB p<=12)
/-! ### the parser: what it yields, and the index of the next token -/
abbrev Res(α:Type):=Except Int (α × Nat)
def bnd{α β:Type}(m:Res α)(k:α->Nat->Res β):Res β :=
 match m with
 | .error e=>.error e
 | .ok (x,j)=>k x j
def fP:Bs:=[113,117,101,115,116,105,111,110]
def wAnd:Bs:=[97,110,100]
def wOr:Bs:=[111,114]
def wNot:Bs:=[110,111,116]
def wAt:Bs:=[97,116]
def mC:Bs:=[108,101,97,115,116]
def wOf:Bs:=[111,102]
def wIn:Bs:=[105,110]
def bO:List Bs:=[fP,wAnd,wOr,wNot,wAt,mC,wOf,wIn]
def cn(s:Bs):Bool:=cE s&&!bO.contains s
structure Sm where
 name:Bs
 off:Int
def aJ(a b:Sm)(less:Int):Pd:=.node 0 a.name b.name (b.off - a.off - less) []
def signOf:List (Bs × (Sm->Sm->Pd)) :=
 [([60,61],fun a b=>aJ a b 0),([60],fun a b=>aJ a b 1),([62,61],fun a b=>aJ b a 0),([62],fun a b=>aJ b a 1),
  ([61],fun a b=>.node 1 [] [] 0 [aJ a b 0,aJ b a 0]),([33,61],fun a b=>.node 2 [] [] 0 [aJ a b 1,aJ b a 1])]
def inPd(a:Sm)(m n:Int):Pd:=.node 1 [] [] 0 [aJ ⟨[],m⟩ a 0,aJ a ⟨[],n⟩ 0]
def one(k:Int):List Pd->Pd
 | [p]=>p
 |l=>.node k [] [] 0 l
def chk(p:Pd)(j:Nat):Res Pd:=if aW p then .ok (p,j)else .error 3
/-- elements with a word between them -/
def sepP{α:Type}(skip:Nat->Bool)(e:Nat->Res α):Nat->Nat->List α->Res (List α)
 |0,_,_=>.error 12
 |f+1,i,acc=>bnd (e i) fun x j=>if skip j then sepP skip e f (j+1) (acc++[x])else .ok (acc++[x],j)
section
variable (ts:List Tok)
def aI(s:Bs)(i:Nat):Bool :=
 match ts[i]? with
 |none=>false
 |some t=>(t.kind==3 ||t.kind==0)&&t.text==s
def bz(s:Bs)(i:Nat):Res Unit:=if aI ts s i then .ok ((),i+1)else .error 12
def dH(i:Nat):Res Bs :=
 match ts[i]? with
 |none=>.error 12
 |some t=>if t.kind==0&&cn t.text then .ok (t.text,i+1)else .error 12
def aO(i:Nat):Res Int :=
 match ts[i]? with
 |none=>.error 12
 |some t=>if t.kind==1 then .ok (t.n,i+1)else .error 12
def oE(i:Nat):Bool :=
 match ts[i]? with
 |none=>false
 |some t=>t.kind==1
def sumP(i:Nat):Res Sm :=
 if aI ts [45] i then bnd (aO ts (i+1)) fun n j=>.ok (⟨[],-n⟩,j)
 else if oE ts i then bnd (aO ts i) fun n j=>.ok (⟨[],n⟩,j)
 else bnd (dH ts i) fun a j=>bnd (bz ts [46] j) fun _ j=>bnd (dH ts j) fun b j =>
  if aI ts [43] j then bnd (aO ts (j+1)) fun n j=>.ok (⟨a++46::b,n⟩,j)
  else if aI ts [45] j then bnd (aO ts (j+1)) fun n j=>.ok (⟨a++46::b,-n⟩,j)
  else .ok (⟨a++46::b,0⟩,j)
def cY(a:Sm)(i:Nat):Res Pd :=
 match signOf.find? (fun s=>aI ts s.1 i)with
 |none=>.error 12
 |some s=>bnd (sumP ts (i+1)) fun b j=>chk (s.2 a b) j
def fx(a:Sm)(i:Nat):Res Pd:=bnd (aO ts i) fun m j =>
 bnd (if aI ts [46,46] j then aO ts (j+1)else .ok (m,j)) fun n j =>
  if n < m then .error 3 else .ok (inPd a m n,j)
def dJ(a:Sm)(i:Nat):Res Pd :=
 bnd (bz ts [123] i) fun _ j=>bnd (sepP (aI ts [44]) (fx ts a) (ts.length+1) j []) fun l j =>
  bnd (bz ts [125] j) fun _ j=>chk (one 2 l) j
def allP(u:Nat->Res Pd)(i:Nat):Res Pd:=bnd (sepP (aI ts wAnd) u (ts.length+1) i []) fun l j=>.ok (one 1 l,j)
def dw(u:Nat->Res Pd)(i:Nat):Res Pd:=bnd (sepP (aI ts wOr) (allP ts u) (ts.length+1) i []) fun l j=>.ok (one 2 l,j)
def fb(u:Nat->Res Pd)(i:Nat):Res Pd :=
 bnd (bz ts mC i) fun _ j=>bnd (aO ts j) fun c j=>bnd (bz ts wOf j) fun _ j=>bnd (bz ts [40] j) fun _ j =>
  bnd (sepP (aI ts [44]) (dw ts u) (ts.length+1) j []) fun l j=>bnd (bz ts [41] j) fun _ j =>
   if c < 1\/(l.length:Int) < c then .error 3 else .ok (.node 3 [] [] c l,j)
def cB:Nat->Nat->Res Pd
 |0,_=>.error 12
 |f+1,i =>
  if aI ts wNot i then bnd (cB f (i+1)) fun p j=>.ok (negB p,j)
  else if aI ts [40] i then bnd (dw ts (cB f) (i+1)) fun p j=>bnd (bz ts [41] j) fun _ j=>.ok (p,j)
  else if aI ts wAt i then fb ts (cB f) (i+1)
  else bnd (sumP ts i) fun a j=>if aI ts wIn j then dJ ts a (j+1)else cY ts a j
/-- the whole question -/
def mK:Res (Bs × Pd) :=
 bnd (bz ts fP 0) fun _ j=>bnd (dH ts j) fun nm j=>bnd (bz ts [123] j) fun _ j=>bnd (dw ts (cB ts (ts.length+1)) j) fun p j =>
  bnd (bz ts [125] j) fun _ j=>if j < ts.length then .error 12 else .ok ((nm,p),j)
end
def gJ(s:Bs):Except Int (Bs × Pd) :=
 if 4000 < s.length then .error 6
 else match eE (s.length+1) s 0 []with
  | .error e=>.error e
  | .ok ts=>match mK ts with
   | .error e=>.error e
   | .ok (x,_)=>if dG x.2 then .ok x else .error 6
theorem ja(l v:Bs)(n0:Nat){x:Bs}{n:Nat}(h:quotedB l v n0=some (x,n)):n0 < n/\n<=n0+l.length/\x.length<=400:=by
 fun_induction quotedB l v n0 with
 |case1=>cases h
 |case2=>cases h
 |case3=>cases h
 |case4 c t v n h1 h2 h3 =>
  injection h with h;injection h with h4 h5;subst h4;subst h5;refine⟨by omega,by simp,by omega⟩
 |case5=>cases h
 |case6 c v n h1 h2 h3 d t' h4 ih =>
  have:=ih h;simp only[List.length_cons];omega
 |case7=>cases h
 |case8 c t v n h1 h2 h3 ih =>
  have:=ih h;simp only[List.length_cons];omega
theorem iM{a:UInt8}{r:Bs}{t:Tok}{n:Nat}(h:fA (a::r)=.ok (t,n)):1<=n/\n<=r.length+1/\t.text.length<=400+r.length+1:=by
 have c:∀p:UInt8->Bool,p a=true->1<=runB p (a::r)/\runB p (a::r)<=r.length+1:=fun p hp=>by
  have f:runB p (a::r)<=(a::r).length:=(List.takeWhile_sublist p).length_le;refine⟨?_,f⟩
  unfold runB
  rw[List.takeWhile_cons,hp]
  simp
 rw[fA]at h
 split at h
 ·next hl =>
  have f:aT a=true:=by unfold aT;rw[hl];rfl
  have e:=c aT f
  split at h
  ·injection h with h;injection h with b d;subst b;subst d;refine⟨e.1,e.2,?_⟩;simp only[List.length_take,List.length_cons];omega
  ·cases h
 ·split at h
  ·next hd =>
   have e:=c aN hd
   split at h
   ·injection h with h;injection h with b d;subst b;subst d;refine⟨e.1,e.2,?_⟩;simp only[List.length_take,List.length_cons];omega
   ·cases h
  ·split at h
   ·split at h
    ·next v k hq =>
     injection h with h;injection h with b d;subst b;subst d;have:=ja _ _ _ hq
     simp only
     omega
    ·cases h
   ·split at h
    ·next s hs =>
     injection h with h;injection h with b d;subst b;subst d;have f:=List.find?_some hs;have e:=(List.isPrefixOf_iff_prefix.1 f).length_le;have b:s∈signsB:=List.mem_of_find?_eq_some hs
     have d:1<=s.length:=by
      have:∀s∈signsB,1<=s.length:=by decide
      exact this s b
     simp only[List.length_cons]at e
     simp only
     omega
    ·cases h
theorem lL{a:UInt8}{r:Bs}{c:Int}(h:fA (a::r)=.error c):c≠0:=by
 rw[fA]at h
 split at h
 ·split at h
  ·cases h
  ·injection h with h;omega
 ·split at h
  ·split at h
   ·cases h
   ·injection h with h;omega
  ·split at h
   ·split at h
    ·cases h
    ·injection h with h;omega
   ·split at h
    ·cases h
    ·injection h with h;omega
/-! ### what is parsed is formed -/
def cutB(s:Bs):Option (Bs × Bs) :=
 if(s.takeWhile (fun c=>c.toNat != 46)).length < s.length then some (s.takeWhile (fun c=>c.toNat != 46),s.drop ((s.takeWhile (fun c=>c.toNat != 46)).length+1))else none
def aG(s:Bs):Bool :=
 match cutB s with
 |none=>false
 |some (a,b)=>cn a&&cn b
def aR(s:Bs):Bool:=s.isEmpty ||aG s
def dt(c:Int):Bool:=decide (-1099511627776<=c)&&decide (c < 1099511627776)
mutual
def formedB:Pd->Bool
 | .node k l r c ks =>
  if k=0 then ks.isEmpty&&aR l&&aR r&&dt c
  else if k=1\/k=2 then decide (2<=ks.length)&&decide (c=0)&&l.isEmpty&&r.isEmpty&&bS ks
  else if k=3 then decide (1<=c)&&decide (c<=ks.length)&&l.isEmpty&&r.isEmpty&&bS ks
  else false
def bS:List Pd->Bool
 | []=>true
 |p::l=>formedB p&&bS l
end
def aP(p:Pd):Bool:=dG p&&formedB p
theorem bD:∀l:List Pd,bS l=true↔∀p∈l,formedB p=true
 | []=>by simp[bS]
 |p::l=>by simp[bS,bD l]
theorem az{α β:Type}{m:Res α}{k:α->Nat->Res β}{y:β × Nat}(h:bnd m k=.ok y):∃x j,m=.ok (x,j)/\k x j=.ok y:=by
 unfold bnd at h
 split at h
 ·cases h
 ·exact⟨_,_,rfl,h⟩
theorem ej:∀l:List Pd,(negL l).length=l.length
 | []=>rfl
 |p::l=>by simp[negL,ej l]
mutual
theorem jX:∀p:Pd,formedB p=true->formedB (negB p)=true
 | .node k l r c ks=>by
  intro h;rw[formedB]at h;rw[negB]
  by_cases h0:k=0
  ·rw[if_pos h0]at h ⊢;rw[formedB,if_pos rfl];simp only[Bool.and_eq_true]at h ⊢;refine⟨⟨⟨rfl,h.1.2⟩,h.1.1.2⟩,?_⟩;have:=h.2;simp only[dt,Bool.and_eq_true,decide_eq_true_eq]at this ⊢;omega
  ·rw[if_neg h0]at h ⊢
   by_cases h1:k=1\/k=2
   ·rw[if_pos h1]at h;simp only[Bool.and_eq_true,decide_eq_true_eq]at h;have hl:=fB ks h.2
    have h3:¬k=3:=by omega
    rw[if_neg h3,formedB,if_neg (by rcases h1 with h1|h1 <;> simp[h1]),if_pos (by rcases h1 with h1|h1 <;> simp[h1])]
    simp[ej,hl,h.1.1.1.1]
   ·rw[if_neg h1]at h
    by_cases h3:k=3
    ·rw[if_pos h3]at h;simp only[Bool.and_eq_true,decide_eq_true_eq]at h;have hl:=fB ks h.2;rw[if_neg (by omega),if_neg (by omega),if_pos h3,formedB,if_neg h0,if_neg h1,if_pos h3];simp only[ej,hl,Bool.and_eq_true,decide_eq_true_eq,List.isEmpty_nil,and_true];omega
    ·rw[if_neg h3]at h;cases h
theorem fB:∀l:List Pd,bS l=true->bS (negL l)=true
 | []=>fun _=>rfl
 |p::l=>by
  intro h;rw[bS,Bool.and_eq_true]at h;rw[negL,bS,jX p h.1,fB l h.2]
  rfl
end
theorem li{a b:Bs}{p:UInt8->Bool}{x:UInt8}(ha:a.all p=true)(hx:p x=false):(a++x::b).takeWhile p=a:=by
 induction a with
 |nil=>simp[hx]
 |cons y a ih =>
  rw[List.all_cons,Bool.and_eq_true]at ha;rw[List.cons_append,List.takeWhile_cons,ha.1]
  simp[ih ha.2]
theorem oq{a:Bs}(h:cE a=true):a.all (fun c=>c.toNat != 46)=true:=by
 unfold cE at h
 simp only[Bool.and_eq_true]at h;rw[List.all_eq_true]at h ⊢;intro x hx;have:=h.2 x hx;simp only[aT,ch,aN,Bool.or_eq_true,Bool.and_eq_true,decide_eq_true_eq,beq_iff_eq]at this;simp only[bne_iff_ne,ne_eq];omega
theorem xg{a b:Bs}(h:cE a=true):cutB (a++46::b)=some (a,b):=by
 unfold cutB
 rw[li (oq h) (by rfl)];rw[if_pos (by simp)]
 simp
theorem lf{a b:Bs}(ha:cn a=true)(hb:cn b=true):aG (a++46::b)=true:=by
 have:cE a=true:=by unfold cn at ha;rw[Bool.and_eq_true]at ha;exact ha.1
 unfold aG
 rw[xg this]
 simp[ha,hb]
section
variable {ts:List Tok}
theorem gL{i:Nat}{a:Bs}{j:Nat}(h:dH ts i=.ok (a,j)):cn a=true:=by
 unfold dH at h
 split at h
 ·cases h
 ·split at h
  ·next hc =>
   rw[Bool.and_eq_true]at hc;injection h with h;injection h with h1 h2;exact h1▸hc.2
  ·cases h
theorem jF{i:Nat}{a:Sm}{j:Nat}(h:sumP ts i=.ok (a,j)):aR a.name=true:=by
 unfold sumP at h
 split at h
 ·obtain⟨n,d,_,b⟩:=az h;injection b with b;injection b with b _;rw[<-b];rfl
 ·split at h
  ·obtain⟨n,d,_,b⟩:=az h;injection b with b;injection b with b _;rw[<-b];rfl
  ·obtain⟨x,d,g,h⟩:=az h;obtain⟨_,m,_,h⟩:=az h;obtain⟨y,l,f,h⟩:=az h;have k:=lf (gL g) (gL f)
   have c:aR (x++46::y)=true:=by unfold aR;rw[k,Bool.or_true]
   split at h
   ·obtain⟨n,e,_,h⟩:=az h;injection h with h;injection h with h _;rw[<-h];exact c
   ·split at h
    ·obtain⟨n,e,_,h⟩:=az h;injection h with h;injection h with h _;rw[<-h];exact c
    ·injection h with h;injection h with h _;rw[<-h];exact c
/-- of the right make but for the ranges of its atoms -/
def preF(p:Pd):Prop:=aW p=true->formedB p=true
theorem cF{a b:Sm}(ha:aR a.name=true)(hb:aR b.name=true)(n:Int):preF (aJ a b n):=by
 intro h
 unfold aJ at h ⊢
 rw[formedB,if_pos rfl];rw[aW]at h;simp only[Bool.and_eq_true]at h
 simp[ha,hb,dt]
 simpa using h.1
theorem ei:∀l:List Pd,eX l=true↔∀p∈l,aW p=true
 | []=>by simp[eX]
 |p::l=>by simp[eX,ei l]
theorem hZ{k:Int}(hk:k=1\/k=2){l:List Pd}(hl:2<=l.length)(h:∀p∈l,preF p):preF (.node k [] [] 0 l):=by
 intro hr;rw[aW,Bool.and_eq_true]at hr;have h2:=(ei l).1 hr.2;rw[formedB,if_neg (by omega),if_pos hk];simp only[hl,Bool.and_eq_true,decide_true,List.isEmpty_nil,and_true,true_and];exact(bD l).2 fun p hp=>h p hp (h2 p hp)
theorem kO{p q:Pd}{i j:Nat}(h:chk p i=.ok (q,j))(hp:preF p):formedB q=true:=by
 unfold chk at h
 split at h
 ·next hc =>
  injection h with h;injection h with h _;exact h▸hp hc
 ·cases h
theorem fw{α:Type}{skip:Nat->Bool}{e:Nat->Res α}{P:α->Prop}(he:∀i x j,e i=.ok (x,j)->P x) :
  ∀(f i:Nat) (acc l:List α) (j:Nat),sepP skip e f i acc=.ok (l,j)->(∀x∈acc,P x)->(∀x∈l,P x)/\acc.length < l.length
 |0,_,_,_,_,h,_=>by simp[sepP]at h
 |f+1,i,acc,l,j,h,ha=>by
  rw[sepP]at h;obtain⟨x,j1,hx,h⟩:=az h
  have ha':∀y∈acc++[x],P y:=by
   intro y hy
   rcases List.mem_append.1 hy with hy|hy
   ·exact ha y hy
   ·rw[List.mem_singleton]at hy;exact hy▸he i x j1 hx
  split at h
  ·obtain⟨h1,h2⟩:=fw he f _ _ _ _ h ha';refine⟨h1,?_⟩;simp only[List.length_append,List.length_cons,List.length_nil]at h2;omega
  ·injection h with h;injection h with h _;subst h;exact⟨ha',by simp⟩
theorem ws{k:Int}(hk:k=1\/k=2){l:List Pd}(hl:0 < l.length)(h:∀p∈l,preF p):preF (one k l):=by
 match l,hl,h with
 | [p],_,h=>exact h p (by simp)
 |p::q::l,_,h=>exact hZ hk (by simp) h
theorem jU{k:Int}(hk:k=1\/k=2){l:List Pd}(hl:0 < l.length)(h:∀p∈l,formedB p=true):formedB (one k l)=true:=by
 match l,hl,h with
 | [p],_,h=>exact h p (by simp)
 |p::q::l,_,h =>
  show formedB (.node k [] [] 0 (p::q::l))=true
  rw[formedB,if_neg (by omega),if_pos hk];have:=(bD _).2 h
  simp[this]
theorem jr{a:Sm}(ha:aR a.name=true){i j:Nat}{p:Pd}(h:cY ts a i=.ok (p,j)):formedB p=true:=by
 unfold cY at h
 split at h
 ·cases h
 ·next s hs =>
  obtain⟨b,f,e,h⟩:=az h;have c:=jF e;refine kO h ?_;have d:=List.mem_of_find?_eq_some hs;simp only[signOf,List.mem_cons,List.not_mem_nil,or_false]at d
  rcases d with rfl|rfl|rfl|rfl|rfl|rfl
  ·exact cF ha c _
  ·exact cF ha c _
  ·exact cF c ha _
  ·exact cF c ha _
  ·refine hZ (Or.inl rfl) (by simp) fun p hp=>?_;simp only[List.mem_cons,List.not_mem_nil,or_false]at hp
   rcases hp with rfl|rfl
   ·exact cF ha c _
   ·exact cF c ha _
  ·refine hZ (Or.inr rfl) (by simp) fun p hp=>?_;simp only[List.mem_cons,List.not_mem_nil,or_false]at hp
   rcases hp with rfl|rfl
   ·exact cF ha c _
   ·exact cF c ha _
theorem pR{a:Sm}(ha:aR a.name=true){i j:Nat}{p:Pd}(h:fx ts a i=.ok (p,j)):preF p:=by
 unfold fx at h
 obtain⟨m,j1,_,h⟩:=az h;obtain⟨n,j2,_,h⟩:=az h
 split at h
 ·cases h
 ·injection h with h;injection h with h _;subst h
  unfold inPd
  refine hZ (Or.inl rfl) (by simp) fun p hp=>?_;simp only[List.mem_cons,List.not_mem_nil,or_false]at hp
  rcases hp with rfl|rfl
  ·exact cF rfl ha _
  ·exact cF ha rfl _
theorem kh{a:Sm}(ha:aR a.name=true){i j:Nat}{p:Pd}(h:dJ ts a i=.ok (p,j)):formedB p=true:=by
 unfold dJ at h
 obtain⟨_,j1,_,h⟩:=az h;obtain⟨l,j2,hl,h⟩:=az h;obtain⟨_,j3,_,h⟩:=az h;obtain⟨h1,h2⟩:=fw (P:=preF) (fun i x j hx=>pR ha hx) _ _ _ _ _ hl (by simp);exact kO h (ws (Or.inr rfl) (by simpa using h2) h1)
variable {u:Nat->Res Pd}
theorem pi(hu:∀i p j,u i=.ok (p,j)->formedB p=true){i j:Nat}{p:Pd}(h:allP ts u i=.ok (p,j)):formedB p=true:=by
 unfold allP at h
 obtain⟨l,j1,hl,h⟩:=az h;obtain⟨h1,h2⟩:=fw (P:=fun p=>formedB p=true) hu _ _ _ _ _ hl (by simp);injection h with h;injection h with h _;exact h▸jU (Or.inl rfl) (by simpa using h2) h1
theorem eU(hu:∀i p j,u i=.ok (p,j)->formedB p=true){i j:Nat}{p:Pd}(h:dw ts u i=.ok (p,j)):formedB p=true:=by
 unfold dw at h
 obtain⟨l,j1,hl,h⟩:=az h;obtain⟨h1,h2⟩:=fw (P:=fun p=>formedB p=true) (fun i p j hp=>pi hu hp) _ _ _ _ _ hl (by simp);injection h with h;injection h with h _;exact h▸jU (Or.inr rfl) (by simpa using h2) h1
theorem lm(hu:∀i p j,u i=.ok (p,j)->formedB p=true){i j:Nat}{p:Pd}(h:fb ts u i=.ok (p,j)):formedB p=true:=by
 unfold fb at h
 obtain⟨_,j1,_,h⟩:=az h;obtain⟨c,j2,_,h⟩:=az h;obtain⟨_,j3,_,h⟩:=az h;obtain⟨_,j4,_,h⟩:=az h;obtain⟨l,j5,hl,h⟩:=az h;obtain⟨_,j6,_,h⟩:=az h;obtain⟨h1,h2⟩:=fw (P:=fun p=>formedB p=true) (fun i p j hp=>eU hu hp) _ _ _ _ _ hl (by simp)
 split at h
 ·cases h
 ·next hc =>
  injection h with h;injection h with h _;subst h;rw[formedB,if_neg (by decide),if_neg (by decide),if_pos rfl];have:=(bD l).2 h1;simp only[this,Bool.and_eq_true,decide_eq_true_eq,List.isEmpty_nil,and_true];omega
theorem eR:∀(f i:Nat) (p:Pd) (j:Nat),cB ts f i=.ok (p,j)->formedB p=true
 |0,_,_,_,h=>by simp[cB]at h
 |f+1,i,p,j,h=>by
  have ih:=eR f;rw[cB]at h
  split at h
  ·obtain⟨q,j1,hq,h⟩:=az h;injection h with h;injection h with h _;exact h▸jX q (ih _ _ _ hq)
  ·split at h
   ·obtain⟨q,j1,hq,h⟩:=az h;obtain⟨_,j2,_,h⟩:=az h;injection h with h;injection h with h _;exact h▸eU ih hq
   ·split at h
    ·exact lm ih h
    ·obtain⟨a,j1,ha,h⟩:=az h;have hn:=jF ha
     split at h
     ·exact kh hn h
     ·exact jr hn h
theorem lk{nm:Bs}{p:Pd}{j:Nat}(h:mK ts=.ok ((nm,p),j)):formedB p=true:=by
 unfold mK at h
 obtain⟨_,j1,_,h⟩:=az h;obtain⟨_,j2,_,h⟩:=az h;obtain⟨_,j3,_,h⟩:=az h;obtain⟨q,j4,hq,h⟩:=az h;obtain⟨_,j5,_,h⟩:=az h
 split at h
 ·cases h
 ·injection h with h;injection h with h _;injection h with h1 h2;exact h2▸eU (eR _) hq
end
theorem nW{s nm:Bs}{p:Pd}(h:gJ s=.ok (nm,p)):aP p=true:=by
 unfold gJ at h
 split at h
 ·cases h
 ·split at h
  ·cases h
  ·split at h
   ·cases h
   ·next x j hq =>
    split at h
    ·next hs =>
     injection h with h;subst h
     unfold aP
     rw[hs,lk hq]
     rfl
    ·cases h
/-! ### folds that may fail -/
def aF{σ α:Type}(f:σ->α->Except Int σ):σ->List α->Except Int σ
 |s,[]=>.ok s
 |s,x::l=>match f s x with
  | .error e=>.error e
  | .ok t=>aF f t l
section
variable {σ α:Type} {f:σ->α->Except Int σ}
theorem eN:∀(s:σ) (l m:List α),aF f s (l++m)=match aF f s l with|.error e=>.error e|.ok t=>aF f t m
 |s,[],m=>rfl
 |s,x::l,m=>by
  rw[List.cons_append,aF,aF]
  cases f s x with
  |error e=>rfl
  |ok t=>exact eN t l m
theorem fe{s t:σ}{l:List α}{j:Nat}{x:α}(hx:l[j]?=some x)(h:aF f s (l.take j)=.ok t):aF f s (l.take (j+1))=f t x:=by
 have hj:=(List.getElem?_eq_some_iff.1 hx).1;rw[List.take_succ_eq_append_getElem hj,(List.getElem?_eq_some_iff.1 hx).2,eN,h]
 show aF f t [x]=_
 rw[aF]
 cases f t x <;> rfl
theorem gQ{s t:σ}{l:List α}{j:Nat}{x:α}{e:Int}(hx:l[j]?=some x)(h:aF f s (l.take j)=.ok t)(hf:f t x=.error e):aF f s l=.error e:=by
 have h1:=fe hx h;rw[hf]at h1;have h2:=eN (f:=f) s (l.take (j+1)) (l.drop (j+1));rw[List.take_append_drop,h1]at h2;exact h2
theorem iS{s t:σ}{l:List α}{n:Nat}(hn:l.length<=n)(h:aF f s (l.take n)=.ok t):aF f s l=.ok t:=by
 rwa [List.take_of_length_le hn]at h
theorem lY{P:Nat->σ->Prop}{l:List α}(hs:∀j t x u,P j t->l[j]?=some x->f t x=.ok u->P (j+1) u):∀(m:List α) (j:Nat) (s t:σ),l.drop j=m->P j s->aF f s m=.ok t->P (j+m.length) t
 | [],j,s,t,_,h0,h=>by
  rw[aF]at h;injection h with h;subst h;exact h0
 |x::m,j,s,t,hd,h0,h=>by
  rw[aF]at h
  have hx:l[j]?=some x:=by
   have:=congrArg (·[0]?) hd
   simpa using this
  cases hf:f s x with
  |error e=>rw[hf]at h;cases h
  |ok u =>
   rw[hf]at h;have:=lY hs m (j+1) u t (by rw[<-List.drop_drop,hd];rfl) (hs j s x u h0 hx hf) h;rw[List.length_cons]
   rwa [show j+(m.length+1)=j+1+m.length by omega]
theorem dN{P:Nat->σ->Prop}{l:List α}{s t:σ}(hs:∀j t x u,P j t->l[j]?=some x->f t x=.ok u->P (j+1) u)(h0:P 0 s)(h:aF f s l=.ok t):P l.length t:=by
 have:=lY hs l 0 s t rfl h0 h
 rwa [Nat.zero_add]at this
end
/-! ### sorted lists are told by what is in them -/
theorem fT{α:Type}{le:α->α->Prop}:∀ {l m:List α},(∀a∈l,∀b∈l,le a b->le b a->a=b)->l.Perm m->l.Pairwise le->m.Pairwise le->l=m
 | [],m,_,hp,_,_=>(List.Perm.nil_eq hp)
 |a::l,[],_,hp,_,_=>absurd hp.symm.nil_eq (by simp)
 |a::l,b::m,ha,hp,h1,h2=>by
  have e:a=b:=by
   by_cases e:a=b
   ·exact e
   ·have c:b∈a::l:=hp.mem_iff.2 (by simp);have d:a∈b::m:=hp.mem_iff.1 (by simp)
    have hbl':b∈l:=by rcases List.mem_cons.1 c with h|h;exact absurd h.symm e;exact h
    have ham':a∈m:=by rcases List.mem_cons.1 d with h|h;exact absurd h e;exact h
    exact ha a (by simp) b c ((List.pairwise_cons.1 h1).1 b hbl') ((List.pairwise_cons.1 h2).1 a ham')
  subst e;rw[fT (fun x hx y hy=>ha x (by simp[hx]) y (by simp[hy])) (List.Perm.cons_inv hp) (List.pairwise_cons.1 h1).2 (List.pairwise_cons.1 h2).2]
theorem nG{l m:List Int}(h:l.Perm m):l.sum=m.sum:=by
 induction h with
 |nil=>rfl
 |cons x _ ih=>rw[List.sum_cons,List.sum_cons,ih]
 |swap x y l=>simp only[List.sum_cons];omega
 |trans _ _ h1 h2=>exact h1.trans h2
/-! ### the equality of predicates -/
mutual
def cC:Pd->Pd->Bool
 | .node k l r c ks,.node k' l' r' c' ks'=>decide (k=k')&&decide (l=l')&&decide (r=r')&&decide (c=c')&&eG ks ks'
def eG:List Pd->List Pd->Bool
 | [],[]=>true
 | [],_::_=>false
 |_::_,[]=>false
 |p::l,q::m=>cC p q&&eG l m
end
mutual
theorem eF:∀(p q:Pd),cC p q=true↔p=q
 | .node k l r c ks,.node k' l' r' c' ks'=>by
  rw[cC];simp only[Bool.and_eq_true,decide_eq_true_eq,dL ks ks',Pd.node.injEq,and_assoc]
theorem dL:∀(p q:List Pd),eG p q=true↔p=q
 | [],[]=>by simp[eG]
 | [],_::_=>by simp[eG]
 |_::_,[]=>by simp[eG]
 |p::l,q::m=>by
  rw[eG];simp only[Bool.and_eq_true,eF p q,dL l m,List.cons.injEq]
end
end Go.Proofs.YtpcmamoomaddoaaGreatDoor
