import Derived.Test.YtcidfldeiklcjaaGreatDoorRows
import Derived.WalkKit
import Derived.WalkSpells
import Derived.WalkLawsBesides
import Derived.Laws.OwnMore
import Derived.Deep.Draws
import Derived.Deep.AppendLies
import Derived.Lib.Hide
import Derived.Deep.QuietTactic
import Derived.BigQuiet
import Derived.Lib.ItoaLen
import Derived.Lib.AtoiAllCases
import Derived.Lib.Bytealg
set_option maxRecDepth 100000
set_option maxHeartbeats 32000000
namespace Go.Proofs.YtcidfldeiklcjaaGreatDoor
theorem nm{α:Sort _}(e:α):∃x,e=x:=⟨e,rfl⟩
open Go.RowKit
structure Kept (S:List Nat) (w w':World):Prop where
 os:w'.os=w.os
 tape:w'.tape=w.tape
 output:w'.output=w.output
 size:w.heap.size<=w'.heap.size
 block:∀k,k < w.heap.size->k∉S->w'.heap[k]?=w.heap[k]?
section
variable {S:List Nat} {w w' w'':World}
theorem Kept.refl(S:List Nat)(w:World):Kept S w w:=⟨rfl,rfl,rfl,Nat.le_refl _,fun _ _ _=>rfl⟩
theorem Kept.trans(h:Kept S w w')(k:Kept S w' w''):Kept S w w'' := ⟨k.os.trans h.os,k.tape.trans h.tape,k.output.trans h.output,Nat.le_trans h.size k.size,
  fun i hi hS=>(k.block i (Nat.lt_of_lt_of_le hi h.size) hS).trans (h.block i hi hS)⟩
theorem Kept.mono{S':List Nat}(h:Kept S w w')(hs:∀k,k < w.heap.size->k∈S->k∈S'):Kept S' w w' := ⟨h.os,h.tape,h.output,h.size,fun i hi hS=>h.block i hi fun hx=>hS (hs i hi hx)⟩
theorem Kept.then_{S':List Nat}(h:Kept S w w')(k:Kept S' w' w'')(hs:∀k,k < w.heap.size->k∈S'->k∈S):Kept S w w'' := ⟨k.os.trans h.os,k.tape.trans h.tape,k.output.trans h.output,Nat.le_trans h.size k.size,
  fun i hi hS=>(k.block i (Nat.lt_of_lt_of_le hi h.size) (fun hx=>hS (hs i hi hx))).trans (h.block i hi hS)⟩
theorem Kept.fresh{S':List Nat}(h:Kept S w w')(k:Kept S' w' w'')(hs:∀x∈S',w.heap.size<=x):Kept S w w'' :=
 h.then_ k fun x hx hm=>absurd (hs x hm) (by omega)
theorem Kept.drew(h:Kept S w w'):Kept S w w'.drew:=⟨h.os,h.tape,h.output,h.size,h.block⟩
theorem Kept.drewN(h:Kept S w w')(n:Nat):Kept S w (w'.drewN n):=⟨h.os,h.tape,h.output,h.size,h.block⟩
theorem Kept.alloc(h:Kept S w w')(o:Obj):Kept S w (w'.alloc o) :=
 h.trans ⟨rfl,rfl,rfl,by simp,fun k hk _=>Below.heap_alloc _ _ _ hk⟩
theorem Kept.setCell(h:Kept S w w'){p:Addr}(hp:p.block∈S\/w.heap.size<=p.block)(u:Value):Kept S w (w'.setCell p u) := ⟨h.os,h.tape,h.output,by simpa [World.setCell]using h.size,fun k hk hS =>
  (Below.heap_setCell _ _ _ _ (fun e=>by rcases hp with hp|hp;exact hS (e▸hp);omega)).trans (h.block k hk hS)⟩
theorem Kept.of_below(h:Below w.heap.size w w'):Kept S w w':=⟨h.os,h.tape,h.output,h.size,fun k hk _=>h.block k hk⟩
theorem Kept.below(h:Kept [] w w'):Below w.heap.size w w':=⟨h.os,h.tape,h.output,h.size,fun k hk=>h.block k hk (by simp)⟩
theorem Kept.of_grown{row:Option Nat}(h:w.grownBy w' row)(hr:∀k,row=some k->k∈S):Kept S w w' := ⟨h.os,h.tape,h.output,h.size,fun k hk hS=>h.block k hk fun e=>hS (hr k e.symm)⟩
theorem Kept.grown(h:Kept S w w'){row:Option Nat}(hg:w'.grownBy w'' row)(hr:∀k,row=some k->k∈S\/w.heap.size<=k):Kept S w w'' := ⟨hg.os.trans h.os,hg.tape.trans h.tape,hg.output.trans h.output,Nat.le_trans h.size hg.size,fun k hk hS =>
  (hg.block k (Nat.lt_of_lt_of_le hk h.size) (fun e=>by rcases hr k e.symm with hx|hx;exact hS hx;omega)).trans (h.block k hk hS)⟩
theorem Kept.cell(h:Kept S w w'){p:Addr}(hp:p.block < w.heap.size)(hS:p.block∉S):w'.cell? p=w.cell? p :=
 World.cell?_of_block (w:=w) (h.block p.block hp hS)
theorem Kept.frozen(h:Kept S w w'){p:Addr}(hp:p.block < w.heap.size)(hS:p.block∉S):w'.frozen? p=w.frozen? p :=
 World.frozen?_of_block (w:=w) (h.block p.block hp hS)
end
theorem Kept.then_below{w0 w1 w2:World}(h:Kept [] w0 w1)(k:Below w0.heap.size w1 w2):Kept [] w0 w2 := ⟨k.os.trans h.os,k.tape.trans h.tape,k.output.trans h.output,Nat.le_trans h.size k.size,fun i hi _=>(k.block i hi).trans (h.block i hi (by simp))⟩
def KW(w0:World):Type:={w:World // Kept [] w0 w}
instance KW.some_ (w0:World):Nonempty (KW w0):=⟨⟨w0,Kept.refl _ _⟩⟩
theorem ax{P:Program}{id:Nat}{Q:Exit->Act->World->Prop}{a:Act}{w:World}{l:List Oper}(w0:World)(h0:Kept [] w0 w)
  (hm:P.follows .mixedOrders=true) (hB:Region.lexB .any l.toArray=true)
  (h:wpQuiet P l.toArray (fun w'=>∃x:KW w0,w'=x.val) (fun a'=>∀w',(∃x:KW w0,w'=x.val)->Q .normal a' w') l a):(Code.region id l.toArray true).wp P Q a w :=
 wp_region_quiet (C:=fun w'=>∃x:KW w0,w'=x.val) hm hB ⟨⟨_,h0.drew⟩,rfl⟩ (by simpa using h)
theorem aA{P:Program}{f:FuncId}{args:Array Value}{w0:World}{x:KW w0}{v:Value}
  (h:Calls P f args x.val fun e w'=>e=.returned v/\Kept [] x.val w'):Calls P f args x.val fun e w''=>e=.returned v/\∃y:KW w0,w''=y.val :=
 h.mono fun _ w' ⟨he,hk⟩=>⟨he,⟨w',x.property.trans hk⟩,rfl⟩
theorem KW.cell{w0:World}(x:KW w0){p:Addr}{v:Value}(h:w0.cell? p=some v):x.val.cell? p=some v :=
 (x.property.cell (World.block_lt_of_cell? w0 p h) (by simp)).trans h
theorem ai{P:Program}{f:FuncId}{args:Array Value}{W w:World}{v:Value}(hW:Kept [] W w)
  (h:Calls P f args w fun e w'=>e=.returned v/\Kept [] w w'):Calls P f args w fun e w'=>e=.returned v/\Kept [] W w' :=
 h.mono fun _ _ ⟨he,hk⟩=>⟨he,hW.trans hk⟩
theorem Kept.cellOf{W:World}{p:Addr}{v:Value}(h:W.cell? p=some v):∀w':World,Kept [] W w'->w'.cell? p=some v :=
 fun _ k=>(k.cell (World.block_lt_of_cell? W p h) (by simp)).trans h
def Blk(w:World)(b:Nat)(T:TypeId)(cs:Array Value):Prop:=w.heap[b]?=some (.cells cs T (0,0))
section
variable {w w':World} {b:Nat} {T:TypeId} {cs:Array Value}
theorem Blk.lt(h:Blk w b T cs):b < w.heap.size:=(Array.getElem?_eq_some_iff.1 h).1
theorem Blk.cell(h:Blk w b T cs)(i:Nat):w.cell? ⟨b,i,none⟩=cs[i]?:=by unfold Blk at h;simp[World.cell?,h]
theorem Blk.frozen(h:Blk w b T cs)(i:Nat):w.frozen? ⟨b,i,none⟩=false:=by unfold Blk at h;simp[World.frozen?,h]
theorem Blk.set_(h:Blk w b T cs)(i:Nat)(u:Value):Blk (w.setCell ⟨b,i,none⟩ u) b T (cs.setIfInBounds i u):=by
 unfold Blk at h ⊢
 simp[World.setCell,Array.getElem?_modify,h]
theorem Blk.kept{S:List Nat}(h:Blk w b T cs)(k:Kept S w w')(hb:b∉S):Blk w' b T cs:=(k.block b h.lt hb).trans h
theorem Blk.drew(h:Blk w b T cs):Blk w.drew b T cs:=h
theorem Blk.drewN(h:Blk w b T cs)(n:Nat):Blk (w.drewN n) b T cs:=h
theorem Blk.alloc(h:Blk w b T cs)(o:Obj):Blk (w.alloc o) b T cs:=(Below.heap_alloc w o b h.lt).trans h
theorem Blk.new(w:World)(T:TypeId)(cs:Array Value):Blk (w.alloc (.cells cs T)) w.heap.size T cs:=heap_alloc_new w _
theorem Blk.far(h:Blk w b T cs){p:Addr}(hp:b≠p.block)(u:Value):Blk (w.setCell p u) b T cs:=(Below.heap_setCell w p u b hp).trans h
end
theorem bZ{w w':World}{S:List Nat}{B:Nat}{e:TypeId}{size:Nat}{v:Value}{n:Nat}{xs:List Value}(h:w.ownsRow B e size v n xs)(k:Kept S w w')
  (hS:∀x∈S,x < B):w'.ownsRow B e size v n xs:=by
 refine⟨h.1,?_⟩
 rcases h.2 with h1|⟨g,cap,cur,hv,hB,hg,r⟩
 ·exact Or.inl h1
 ·refine Or.inr ⟨g,cap,cur,hv,hB,?_,r⟩;rw[k.block g (Array.getElem?_eq_some_iff.1 hg).1 (fun hx=>by have:=hS g hx;omega)];exact hg
theorem aG{w:World}{B:Nat}{e:TypeId}{size:Nat}{v:Value}{n:Nat}{xs:List Value}(h:w.ownsRow B e size v n xs):∃a c,v=.slice a n c:=by
 rcases h.2 with⟨h1,h2⟩|⟨g,cap,cur,hv,_⟩
 ·subst h2;exact⟨_,_,h1⟩
 ·exact⟨_,_,hv⟩
theorem gY{w:World}{B B':Nat}{e:TypeId}{size:Nat}{v:Value}{n:Nat}{xs:List Value}(h:w.ownsRow B e size v n xs)(hB:B'<=B):w.ownsRow B' e size v n xs:=by
 refine⟨h.1,?_⟩
 rcases h.2 with h1|⟨g,cap,cur,hv,hg,r⟩
 ·exact Or.inl h1
 ·exact Or.inr ⟨g,cap,cur,hv,by omega,r⟩
theorem bc2{w:World}{b:Nat}{T:TypeId}{a:Array Value}{x0 x1:Value}(h:Blk w b T a)(e:a.toList.take 2=[x0,x1]):w.cell? ⟨b,0,none⟩=some x0/\w.cell? ⟨b,1,none⟩=some x1:=by
 have g:∀(k:Nat) v,k < 2->[x0,x1][k]?=some v->w.cell? ⟨b,k,none⟩=some v:=fun k v hk hv=>by
  rw[h.cell k,<-Array.getElem?_toList];rw[<-e,List.getElem?_take,if_pos hk]at hv;exact hv
 exact⟨g 0 _ (by omega) rfl,g 1 _ (by omega) rfl⟩
theorem bc3{w:World}{b:Nat}{T:TypeId}{a:Array Value}{x0 x1 x2:Value}(h:Blk w b T a)(e:a.toList.take 3=[x0,x1,x2]):w.cell? ⟨b,0,none⟩=some x0/\w.cell? ⟨b,1,none⟩=some x1/\w.cell? ⟨b,2,none⟩=some x2:=by
 have g:∀(k:Nat) v,k < 3->[x0,x1,x2][k]?=some v->w.cell? ⟨b,k,none⟩=some v:=fun k v hk hv=>by
  rw[h.cell k,<-Array.getElem?_toList];rw[<-e,List.getElem?_take,if_pos hk]at hv;exact hv
 exact⟨g 0 _ (by omega) rfl,g 1 _ (by omega) rfl,g 2 _ (by omega) rfl⟩
theorem bc4{w:World}{b:Nat}{T:TypeId}{a:Array Value}{x0 x1 x2 x3:Value}(h:Blk w b T a)(e:a.toList.take 4=[x0,x1,x2,x3]):w.cell? ⟨b,0,none⟩=some x0/\w.cell? ⟨b,1,none⟩=some x1/\w.cell? ⟨b,2,none⟩=some x2/\w.cell? ⟨b,3,none⟩=some x3:=by
 have g:∀(k:Nat) v,k < 4->[x0,x1,x2,x3][k]?=some v->w.cell? ⟨b,k,none⟩=some v:=fun k v hk hv=>by
  rw[h.cell k,<-Array.getElem?_toList];rw[<-e,List.getElem?_take,if_pos hk]at hv;exact hv
 exact⟨g 0 _ (by omega) rfl,g 1 _ (by omega) rfl,g 2 _ (by omega) rfl,g 3 _ (by omega) rfl⟩
theorem bc5{w:World}{b:Nat}{T:TypeId}{a:Array Value}{x0 x1 x2 x3 x4:Value}(h:Blk w b T a)(e:a.toList.take 5=[x0,x1,x2,x3,x4]):w.cell? ⟨b,0,none⟩=some x0/\w.cell? ⟨b,1,none⟩=some x1/\w.cell? ⟨b,2,none⟩=some x2/\w.cell? ⟨b,3,none⟩=some x3/\w.cell? ⟨b,4,none⟩=some x4:=by
 have g:∀(k:Nat) v,k < 5->[x0,x1,x2,x3,x4][k]?=some v->w.cell? ⟨b,k,none⟩=some v:=fun k v hk hv=>by
  rw[h.cell k,<-Array.getElem?_toList];rw[<-e,List.getElem?_take,if_pos hk]at hv;exact hv
 exact⟨g 0 _ (by omega) rfl,g 1 _ (by omega) rfl,g 2 _ (by omega) rfl,g 3 _ (by omega) rfl,g 4 _ (by omega) rfl⟩
theorem bc6{w:World}{b:Nat}{T:TypeId}{a:Array Value}{x0 x1 x2 x3 x4 x5:Value}(h:Blk w b T a)(e:a.toList.take 6=[x0,x1,x2,x3,x4,x5]):w.cell? ⟨b,0,none⟩=some x0/\w.cell? ⟨b,1,none⟩=some x1/\w.cell? ⟨b,2,none⟩=some x2/\w.cell? ⟨b,3,none⟩=some x3/\w.cell? ⟨b,4,none⟩=some x4/\w.cell? ⟨b,5,none⟩=some x5:=by
 have g:∀(k:Nat) v,k < 6->[x0,x1,x2,x3,x4,x5][k]?=some v->w.cell? ⟨b,k,none⟩=some v:=fun k v hk hv=>by
  rw[h.cell k,<-Array.getElem?_toList];rw[<-e,List.getElem?_take,if_pos hk]at hv;exact hv
 exact⟨g 0 _ (by omega) rfl,g 1 _ (by omega) rfl,g 2 _ (by omega) rfl,g 3 _ (by omega) rfl,g 4 _ (by omega) rfl,g 5 _ (by omega) rfl⟩
theorem bc8{w:World}{b:Nat}{T:TypeId}{a:Array Value}{x0 x1 x2 x3 x4 x5 x6 x7:Value}(h:Blk w b T a)(e:a.toList.take 8=[x0,x1,x2,x3,x4,x5,x6,x7]):w.cell? ⟨b,0,none⟩=some x0/\w.cell? ⟨b,1,none⟩=some x1/\w.cell? ⟨b,2,none⟩=some x2/\w.cell? ⟨b,3,none⟩=some x3/\w.cell? ⟨b,4,none⟩=some x4/\w.cell? ⟨b,5,none⟩=some x5/\w.cell? ⟨b,6,none⟩=some x6/\w.cell? ⟨b,7,none⟩=some x7:=by
 have g:∀(k:Nat) v,k < 8->[x0,x1,x2,x3,x4,x5,x6,x7][k]?=some v->w.cell? ⟨b,k,none⟩=some v:=fun k v hk hv=>by
  rw[h.cell k,<-Array.getElem?_toList];rw[<-e,List.getElem?_take,if_pos hk]at hv;exact hv
 exact⟨g 0 _ (by omega) rfl,g 1 _ (by omega) rfl,g 2 _ (by omega) rfl,g 3 _ (by omega) rfl,g 4 _ (by omega) rfl,g 5 _ (by omega) rfl,g 6 _ (by omega) rfl,g 7 _ (by omega) rfl⟩
theorem bc9{w:World}{b:Nat}{T:TypeId}{a:Array Value}{x0 x1 x2 x3 x4 x5 x6 x7 x8:Value}(h:Blk w b T a)(e:a.toList.take 9=[x0,x1,x2,x3,x4,x5,x6,x7,x8]):w.cell? ⟨b,0,none⟩=some x0/\w.cell? ⟨b,1,none⟩=some x1/\w.cell? ⟨b,2,none⟩=some x2/\w.cell? ⟨b,3,none⟩=some x3/\w.cell? ⟨b,4,none⟩=some x4/\w.cell? ⟨b,5,none⟩=some x5/\w.cell? ⟨b,6,none⟩=some x6/\w.cell? ⟨b,7,none⟩=some x7/\w.cell? ⟨b,8,none⟩=some x8:=by
 have g:∀(k:Nat) v,k < 9->[x0,x1,x2,x3,x4,x5,x6,x7,x8][k]?=some v->w.cell? ⟨b,k,none⟩=some v:=fun k v hk hv=>by
  rw[h.cell k,<-Array.getElem?_toList];rw[<-e,List.getElem?_take,if_pos hk]at hv;exact hv
 exact⟨g 0 _ (by omega) rfl,g 1 _ (by omega) rfl,g 2 _ (by omega) rfl,g 3 _ (by omega) rfl,g 4 _ (by omega) rfl,g 5 _ (by omega) rfl,g 6 _ (by omega) rfl,g 7 _ (by omega) rfl,g 8 _ (by omega) rfl⟩
theorem bf2{w:World}{b:Nat}{T:TypeId}{a:Array Value}(h:Blk w b T a):w.frozen? ⟨b,0,none⟩=false/\w.frozen? ⟨b,1,none⟩=false:=⟨h.frozen 0,h.frozen 1⟩
theorem bf3{w:World}{b:Nat}{T:TypeId}{a:Array Value}(h:Blk w b T a):w.frozen? ⟨b,0,none⟩=false/\w.frozen? ⟨b,1,none⟩=false/\w.frozen? ⟨b,2,none⟩=false:=⟨h.frozen 0,h.frozen 1,h.frozen 2⟩
theorem bf5{w:World}{b:Nat}{T:TypeId}{a:Array Value}(h:Blk w b T a):w.frozen? ⟨b,0,none⟩=false/\w.frozen? ⟨b,1,none⟩=false/\w.frozen? ⟨b,2,none⟩=false/\w.frozen? ⟨b,3,none⟩=false/\w.frozen? ⟨b,4,none⟩=false:=⟨h.frozen 0,h.frozen 1,h.frozen 2,h.frozen 3,h.frozen 4⟩
theorem bf6{w:World}{b:Nat}{T:TypeId}{a:Array Value}(h:Blk w b T a):w.frozen? ⟨b,0,none⟩=false/\w.frozen? ⟨b,1,none⟩=false/\w.frozen? ⟨b,2,none⟩=false/\w.frozen? ⟨b,3,none⟩=false/\w.frozen? ⟨b,4,none⟩=false/\w.frozen? ⟨b,5,none⟩=false:=⟨h.frozen 0,h.frozen 1,h.frozen 2,h.frozen 3,h.frozen 4,h.frozen 5⟩
theorem bf8{w:World}{b:Nat}{T:TypeId}{a:Array Value}(h:Blk w b T a):w.frozen? ⟨b,0,none⟩=false/\w.frozen? ⟨b,1,none⟩=false/\w.frozen? ⟨b,2,none⟩=false/\w.frozen? ⟨b,3,none⟩=false/\w.frozen? ⟨b,4,none⟩=false/\w.frozen? ⟨b,5,none⟩=false/\w.frozen? ⟨b,6,none⟩=false/\w.frozen? ⟨b,7,none⟩=false:=⟨h.frozen 0,h.frozen 1,h.frozen 2,h.frozen 3,h.frozen 4,h.frozen 5,h.frozen 6,h.frozen 7⟩
theorem bf9{w:World}{b:Nat}{T:TypeId}{a:Array Value}(h:Blk w b T a):w.frozen? ⟨b,0,none⟩=false/\w.frozen? ⟨b,1,none⟩=false/\w.frozen? ⟨b,2,none⟩=false/\w.frozen? ⟨b,3,none⟩=false/\w.frozen? ⟨b,4,none⟩=false/\w.frozen? ⟨b,5,none⟩=false/\w.frozen? ⟨b,6,none⟩=false/\w.frozen? ⟨b,7,none⟩=false/\w.frozen? ⟨b,8,none⟩=false:=⟨h.frozen 0,h.frozen 1,h.frozen 2,h.frozen 3,h.frozen 4,h.frozen 5,h.frozen 6,h.frozen 7,h.frozen 8⟩
theorem bH2{w:World}{b:Nat}{T:TypeId}{a:Array Value}{x0 x1:Value}(h:Blk w b T a)(e:a.toList.take 2=[x0,x1]):Hid (∀w',Kept [] w w'->w'.cell? ⟨b,0,none⟩=some x0)/\Hid (∀w',Kept [] w w'->w'.cell? ⟨b,1,none⟩=some x1):=by
 obtain⟨c0,c1⟩:=bc2 h e;exact⟨Kept.cellOf c0,Kept.cellOf c1⟩
theorem bH3{w:World}{b:Nat}{T:TypeId}{a:Array Value}{x0 x1 x2:Value}(h:Blk w b T a)(e:a.toList.take 3=[x0,x1,x2]):Hid (∀w',Kept [] w w'->w'.cell? ⟨b,0,none⟩=some x0)/\Hid (∀w',Kept [] w w'->w'.cell? ⟨b,1,none⟩=some x1)/\Hid (∀w',Kept [] w w'->w'.cell? ⟨b,2,none⟩=some x2):=by
 obtain⟨c0,c1,c2⟩:=bc3 h e;exact⟨Kept.cellOf c0,Kept.cellOf c1,Kept.cellOf c2⟩
theorem bH5{w:World}{b:Nat}{T:TypeId}{a:Array Value}{x0 x1 x2 x3 x4:Value}(h:Blk w b T a)(e:a.toList.take 5=[x0,x1,x2,x3,x4]):Hid (∀w',Kept [] w w'->w'.cell? ⟨b,0,none⟩=some x0)/\Hid (∀w',Kept [] w w'->w'.cell? ⟨b,1,none⟩=some x1)/\Hid (∀w',Kept [] w w'->w'.cell? ⟨b,2,none⟩=some x2)/\Hid (∀w',Kept [] w w'->w'.cell? ⟨b,3,none⟩=some x3)/\Hid (∀w',Kept [] w w'->w'.cell? ⟨b,4,none⟩=some x4):=by
 obtain⟨c0,c1,c2,c3,c4⟩:=bc5 h e;exact⟨Kept.cellOf c0,Kept.cellOf c1,Kept.cellOf c2,Kept.cellOf c3,Kept.cellOf c4⟩
theorem bH8{w:World}{b:Nat}{T:TypeId}{a:Array Value}{x0 x1 x2 x3 x4 x5 x6 x7:Value}(h:Blk w b T a)(e:a.toList.take 8=[x0,x1,x2,x3,x4,x5,x6,x7]):Hid (∀w',Kept [] w w'->w'.cell? ⟨b,0,none⟩=some x0)/\Hid (∀w',Kept [] w w'->w'.cell? ⟨b,1,none⟩=some x1)/\Hid (∀w',Kept [] w w'->w'.cell? ⟨b,2,none⟩=some x2)/\Hid (∀w',Kept [] w w'->w'.cell? ⟨b,3,none⟩=some x3)/\Hid (∀w',Kept [] w w'->w'.cell? ⟨b,4,none⟩=some x4)/\Hid (∀w',Kept [] w w'->w'.cell? ⟨b,5,none⟩=some x5)/\Hid (∀w',Kept [] w w'->w'.cell? ⟨b,6,none⟩=some x6)/\Hid (∀w',Kept [] w w'->w'.cell? ⟨b,7,none⟩=some x7):=by
 obtain⟨l,k,j,i,g,f,d,c⟩:=bc8 h e;exact⟨Kept.cellOf l,Kept.cellOf k,Kept.cellOf j,Kept.cellOf i,Kept.cellOf g,Kept.cellOf f,Kept.cellOf d,Kept.cellOf c⟩
theorem bk2{w:World}{b:Nat}{T:TypeId}{a:Array Value}{x0 x1:Value}(h:Blk w b T a)(e:a.toList.take 2=[x0,x1]):(∀w',Kept [] w w'->w'.cell? ⟨b,0,none⟩=some x0)/\(∀w',Kept [] w w'->w'.cell? ⟨b,1,none⟩=some x1):=by
 obtain⟨c0,c1⟩:=bc2 h e;exact⟨Kept.cellOf c0,Kept.cellOf c1⟩
theorem bk3{w:World}{b:Nat}{T:TypeId}{a:Array Value}{x0 x1 x2:Value}(h:Blk w b T a)(e:a.toList.take 3=[x0,x1,x2]):(∀w',Kept [] w w'->w'.cell? ⟨b,0,none⟩=some x0)/\(∀w',Kept [] w w'->w'.cell? ⟨b,1,none⟩=some x1)/\(∀w',Kept [] w w'->w'.cell? ⟨b,2,none⟩=some x2):=by
 obtain⟨c0,c1,c2⟩:=bc3 h e;exact⟨Kept.cellOf c0,Kept.cellOf c1,Kept.cellOf c2⟩
theorem bk4{w:World}{b:Nat}{T:TypeId}{a:Array Value}{x0 x1 x2 x3:Value}(h:Blk w b T a)(e:a.toList.take 4=[x0,x1,x2,x3]):(∀w',Kept [] w w'->w'.cell? ⟨b,0,none⟩=some x0)/\(∀w',Kept [] w w'->w'.cell? ⟨b,1,none⟩=some x1)/\(∀w',Kept [] w w'->w'.cell? ⟨b,2,none⟩=some x2)/\(∀w',Kept [] w w'->w'.cell? ⟨b,3,none⟩=some x3):=by
 obtain⟨c0,c1,c2,c3⟩:=bc4 h e;exact⟨Kept.cellOf c0,Kept.cellOf c1,Kept.cellOf c2,Kept.cellOf c3⟩
theorem bk5{w:World}{b:Nat}{T:TypeId}{a:Array Value}{x0 x1 x2 x3 x4:Value}(h:Blk w b T a)(e:a.toList.take 5=[x0,x1,x2,x3,x4]):(∀w',Kept [] w w'->w'.cell? ⟨b,0,none⟩=some x0)/\(∀w',Kept [] w w'->w'.cell? ⟨b,1,none⟩=some x1)/\(∀w',Kept [] w w'->w'.cell? ⟨b,2,none⟩=some x2)/\(∀w',Kept [] w w'->w'.cell? ⟨b,3,none⟩=some x3)/\(∀w',Kept [] w w'->w'.cell? ⟨b,4,none⟩=some x4):=by
 obtain⟨c0,c1,c2,c3,c4⟩:=bc5 h e;exact⟨Kept.cellOf c0,Kept.cellOf c1,Kept.cellOf c2,Kept.cellOf c3,Kept.cellOf c4⟩
theorem bk6{w:World}{b:Nat}{T:TypeId}{a:Array Value}{x0 x1 x2 x3 x4 x5:Value}(h:Blk w b T a)(e:a.toList.take 6=[x0,x1,x2,x3,x4,x5]):(∀w',Kept [] w w'->w'.cell? ⟨b,0,none⟩=some x0)/\(∀w',Kept [] w w'->w'.cell? ⟨b,1,none⟩=some x1)/\(∀w',Kept [] w w'->w'.cell? ⟨b,2,none⟩=some x2)/\(∀w',Kept [] w w'->w'.cell? ⟨b,3,none⟩=some x3)/\(∀w',Kept [] w w'->w'.cell? ⟨b,4,none⟩=some x4)/\(∀w',Kept [] w w'->w'.cell? ⟨b,5,none⟩=some x5):=by
 obtain⟨c0,c1,c2,c3,c4,c5⟩:=bc6 h e;exact⟨Kept.cellOf c0,Kept.cellOf c1,Kept.cellOf c2,Kept.cellOf c3,Kept.cellOf c4,Kept.cellOf c5⟩
theorem bk8{w:World}{b:Nat}{T:TypeId}{a:Array Value}{x0 x1 x2 x3 x4 x5 x6 x7:Value}(h:Blk w b T a)(e:a.toList.take 8=[x0,x1,x2,x3,x4,x5,x6,x7]):(∀w',Kept [] w w'->w'.cell? ⟨b,0,none⟩=some x0)/\(∀w',Kept [] w w'->w'.cell? ⟨b,1,none⟩=some x1)/\(∀w',Kept [] w w'->w'.cell? ⟨b,2,none⟩=some x2)/\(∀w',Kept [] w w'->w'.cell? ⟨b,3,none⟩=some x3)/\(∀w',Kept [] w w'->w'.cell? ⟨b,4,none⟩=some x4)/\(∀w',Kept [] w w'->w'.cell? ⟨b,5,none⟩=some x5)/\(∀w',Kept [] w w'->w'.cell? ⟨b,6,none⟩=some x6)/\(∀w',Kept [] w w'->w'.cell? ⟨b,7,none⟩=some x7):=by
 obtain⟨l,k,j,i,g,f,d,c⟩:=bc8 h e;exact⟨Kept.cellOf l,Kept.cellOf k,Kept.cellOf j,Kept.cellOf i,Kept.cellOf g,Kept.cellOf f,Kept.cellOf d,Kept.cellOf c⟩
theorem bl5{w:World}{b:Nat}{T:TypeId}{a:Array Value}{x0 x1 x2 x3 x4:Value}(h:Blk w b T a){v:World}(kk:Kept [] w v)(e:a.toList.take 5=[x0,x1,x2,x3,x4]):v.cell? ⟨b,0,none⟩=some x0/\v.cell? ⟨b,1,none⟩=some x1/\v.cell? ⟨b,2,none⟩=some x2/\v.cell? ⟨b,3,none⟩=some x3/\v.cell? ⟨b,4,none⟩=some x4:=by
 obtain⟨c0,c1,c2,c3,c4⟩:=bc5 h e;exact⟨Kept.cellOf c0 _ kk,Kept.cellOf c1 _ kk,Kept.cellOf c2 _ kk,Kept.cellOf c3 _ kk,Kept.cellOf c4 _ kk⟩
theorem bx5{w:World}{b:Nat}{T:TypeId}{a:Array Value}{x0 x1 x2 x3 x4:Value}(h:Blk w b T a)(e:a.toList.take 5=[x0,x1,x2,x3,x4]):(∀z:KW w,z.val.cell? ⟨b,0,none⟩=some x0)/\(∀z:KW w,z.val.cell? ⟨b,1,none⟩=some x1)/\(∀z:KW w,z.val.cell? ⟨b,2,none⟩=some x2)/\(∀z:KW w,z.val.cell? ⟨b,3,none⟩=some x3)/\(∀z:KW w,z.val.cell? ⟨b,4,none⟩=some x4):=by
 obtain⟨c0,c1,c2,c3,c4⟩:=bc5 h e;exact⟨fun z=>z.cell c0,fun z=>z.cell c1,fun z=>z.cell c2,fun z=>z.cell c3,fun z=>z.cell c4⟩
theorem bx8{w:World}{b:Nat}{T:TypeId}{a:Array Value}{x0 x1 x2 x3 x4 x5 x6 x7:Value}(h:Blk w b T a)(e:a.toList.take 8=[x0,x1,x2,x3,x4,x5,x6,x7]):(∀z:KW w,z.val.cell? ⟨b,0,none⟩=some x0)/\(∀z:KW w,z.val.cell? ⟨b,1,none⟩=some x1)/\(∀z:KW w,z.val.cell? ⟨b,2,none⟩=some x2)/\(∀z:KW w,z.val.cell? ⟨b,3,none⟩=some x3)/\(∀z:KW w,z.val.cell? ⟨b,4,none⟩=some x4)/\(∀z:KW w,z.val.cell? ⟨b,5,none⟩=some x5)/\(∀z:KW w,z.val.cell? ⟨b,6,none⟩=some x6)/\(∀z:KW w,z.val.cell? ⟨b,7,none⟩=some x7):=by
 obtain⟨c0,c1,c2,c3,c4,c5,c6,c7⟩:=bc8 h e;exact⟨fun z=>z.cell c0,fun z=>z.cell c1,fun z=>z.cell c2,fun z=>z.cell c3,fun z=>z.cell c4,fun z=>z.cell c5,fun z=>z.cell c6,fun z=>z.cell c7⟩
theorem kr{S:List Nat}{w:World}:Kept S w w:=Kept.refl S w
theorem ms{α:Type}{z b:α}(h:z∈[b]):z=b:=List.mem_singleton.1 h
instance:Coe Int Value:=⟨fun n=>.int .i64 n⟩
instance:Coe Nat Value:=⟨fun n=>.int .i64 (n:Int)⟩
instance:Coe Bool Value:=⟨fun b=>.bool b⟩
instance:Coe Unit Value:=⟨fun _=>.slice none 0 0⟩
instance:Coe (List UInt8) Value:=⟨fun s=>.string ⟨s.toArray⟩⟩
theorem bn{w W:World}{T:TypeId}{a:Array Value}(h:w.alloc (.cells a T)=W):Blk W w.heap.size T a:=h▸Blk.new _ _ _
theorem bp{w W:World}{T:TypeId}{a:Array Value}{o:Obj}(h:(w.alloc (.cells a T)).alloc o=W):Blk W w.heap.size T a:=h▸(Blk.new _ _ _).alloc _
theorem bz{w W:World}{U:TypeId}{b:Array Value}{o:Obj}(h:(w.alloc o).alloc (.cells b U)=W):Blk W (w.heap.size+1) U b:=by
 have:=Blk.new (w.alloc o) U b;rw[h,World.size_alloc]at this;exact this
theorem ka{S:List Nat}{w W:World}{o:Obj}(h:w.alloc o=W):Kept S w W:=h▸kr.alloc _
theorem kb{S:List Nat}{w W:World}{o p:Obj}(h:(w.alloc o).alloc p=W):Kept S w W:=h▸(kr.alloc _).alloc _
end Go.Proofs.YtcidfldeiklcjaaGreatDoor
namespace Go.Proofs.YtcidfldeiklcjaaGreatDoor.Wire
open Go.Lib
theorem cJ(d:Nat)(h:d < 10):(UInt8.ofNat (48+d)).toNat=48+d:=by
 rw[UInt8.toNat_ofNat'];omega
theorem bE:∀(u:Nat),∀c∈decDigits u,48<=c.toNat/\c.toNat<=57:=by
 intro u
 induction u using Nat.strongRecOn with
 |_ u ih =>
  intro c hc;rw[decDigits]at hc
  split at hc
  ·next h =>
   simp only[List.mem_singleton]at hc;subst hc;rw[cJ u h];omega
  ·next h =>
   rw[List.mem_append]at hc
   rcases hc with hc|hc
   ·exact ih (u / 10) (by omega) c hc
   ·simp only[List.mem_singleton]at hc;subst hc;rw[cJ _ (by omega)];omega
theorem iI(u:Nat):decDigits u≠[]:=by
 rw[decDigits];split <;> simp
theorem dM:∀(l:List UInt8) (acc v:Nat) (r:List UInt8),parseUint10 acc l=.ok v->parseUint10 acc (l++r)=parseUint10 v r
 | [],acc,v,r,h=>by
  simp only[parseUint10]at h;injection h with h;subst h;rfl
 |c::l,acc,v,r,h=>by
  simp only[parseUint10,List.cons_append]at h ⊢
  split at h
  ·next hc =>
   rw[if_pos hc]
   split at h
   ·cases h
   ·next h2 =>
    rw[if_neg h2]
    split at h
    ·cases h
    ·next h3 =>
     rw[if_neg h3];exact dM l _ v r h
  ·cases h
theorem jV:∀(u:Nat),u < 18446744073709551616->parseUint10 0 (decDigits u)=.ok u:=by
 intro u
 induction u using Nat.strongRecOn with
 |_ u ih =>
  intro hu;rw[decDigits]
  split
  ·next h =>
   simp only[parseUint10];rw[cJ u h,if_pos (by omega),if_neg (by omega),if_neg (by omega)]
   congr 1;omega
  ·next h =>
   rw[dM _ _ _ _ (ih (u / 10) (by omega) (by omega))];simp only[parseUint10];rw[cJ _ (by omega),if_pos (by omega),if_neg (by omega),if_neg (by omega)]
   congr 1;omega
theorem gV(u:Nat)(hu:u < 18446744073709551616):parseMag (decDigits u)=.ok u:=by
 unfold parseMag
 rw[if_neg (iI u),jV u hu]
def I64(n:Int):Prop:=-9223372036854775808<=n/\n<=9223372036854775807
theorem jz(n:Int)(h:I64 n):atoiAll (itoa n)=.ok n:=by
 obtain⟨i,g⟩:=h
 unfold itoa
 by_cases hn:n < 0
 ·rw[if_pos hn]
  unfold atoiAll
  have e:(45:UInt8).toNat=45:=rfl;have a:parseMag (decDigits n.natAbs)=.ok n.natAbs:=gV _ (by omega);simp only[e,or_true,if_true,a];rw[if_neg (by simp),if_neg (by omega)]
  congr 1;omega
 ·rw[if_neg hn];have a:parseMag (decDigits n.toNat)=.ok n.toNat:=gV _ (by omega);have hd:=bE n.toNat
  cases hl:decDigits n.toNat with
  |nil=>exact absurd hl (iI _)
  |cons c r =>
   rw[hl]at a hd;have f:=hd c (by simp)
   unfold atoiAll
   have d:¬(c.toNat=43\/c.toNat=45):=by omega
   have b:¬c.toNat=45:=by omega
   simp only[if_neg d,a];rw[if_neg (by omega),if_neg (by omega),if_neg b]
   congr 1;omega
def cR(c:UInt8):Prop:=c.toNat=45\/(48<=c.toNat/\c.toNat<=57)
theorem lQ(n:Int):∀c∈itoa n,cR c:=by
 intro c hc
 unfold itoa at hc
 split at hc
 ·rw[List.mem_cons]at hc
  rcases hc with rfl|hc
  ·exact Or.inl rfl
  ·exact Or.inr (bE _ c hc)
 ·exact Or.inr (bE _ c hc)
theorem iE(n:Int)(h:I64 n):(itoa n).length<=20:=by
 obtain⟨l,j⟩:=h
 have a:∀u:Nat,u < 10 ^ 19->nDigits u<=19:=by
  intro u i
  rcases Nat.eq_zero_or_pos u with rfl|g
  ·rw[nDigits_small (by omega)];omega
  ·rcases Nat.lt_or_ge 19 (nDigits u)with c|d
   ·exfalso
    have e:∀(k v:Nat),k < nDigits v->0 < v->10 ^ k<=v:=by
     intro k
     induction k with
     |zero=>intro v _ b;exact b
     |succ k ih =>
      intro v b f
      by_cases hb:v < 10
      ·rw[nDigits_small hb]at b;omega
      ·rw[nDigits_big hb]at b;have:=ih (v / 10) (by omega) (by omega);rw[Nat.pow_succ];omega
    have:=e 19 u c g;omega
   ·exact d
 unfold itoa
 split
 ·rw[List.length_cons,decDigits_length];have:=a n.natAbs (by omega);omega
 ·rw[decDigits_length];have:=a n.toNat (by omega);omega
theorem itoa_inj{a b:Int}(ha:I64 a)(hb:I64 b)(h:itoa a=itoa b):a=b:=by
 have h1:=jz a ha;rw[h,jz b hb]at h1;injection h1 with h1;exact h1.symm
theorem jt(l:List UInt8)(c:UInt8)(t:List UInt8)(h:∀x∈l,x≠c):indexByte (l++c::t) c=l.length:=by
 induction l with
 |nil=>simp[indexByte]
 |cons a l ih =>
  have ha:a≠c:=h a (by simp);have hi:=ih (fun x hx=>h x (by simp[hx]));simp only[List.cons_append,indexByte,beq_iff_eq,if_neg ha,hi,List.length_cons];rw[if_neg (by omega)];omega
theorem fB:∀(l:List UInt8) (c:UInt8),0<=indexByte l c->∃t,l=l.take (indexByte l c).toNat++c::t/\(indexByte l c).toNat < l.length
 | [],c,h=>by simp[indexByte]at h
 |a::l,c,h=>by
  unfold indexByte at h ⊢
  by_cases ha:a==c
  ·rw[if_pos ha]
   have:a=c:=by simpa using ha
   subst this;exact⟨l,by simp,by simp⟩
  ·rw[if_neg ha]at h ⊢
   by_cases h1:indexByte l c==-1
   ·rw[if_pos h1]at h;omega
   ·rw[if_neg h1]at h ⊢;have f:=indexByte_ge l c
    have d:indexByte l c≠-1:=by simpa using h1
    obtain⟨t,b,g⟩:=fB l c (by omega)
    have e:(indexByte l c+1).toNat=(indexByte l c).toNat+1:=by omega
    refine⟨t,?_,?_⟩
    ·rw[e,List.take_succ_cons,List.cons_append,<-b]
    ·rw[e,List.length_cons];omega
def intE(n:Int):List UInt8:=itoa n++[59]
def kO(s:List UInt8):List UInt8:=itoa s.length++[58]++s++[44]
def listE(n:Nat)(l:List UInt8):List UInt8:=itoa n++[91]++l++[93]
def yX(l:List Int):List UInt8:=listE l.length (l.flatMap intE)
def zp(l:List (List UInt8)):List UInt8:=listE l.length (l.flatMap kO)
structure Rd where
 rest:List UInt8
 bad:Bool
def be:Rd:=⟨[],true⟩
def ar(e:UInt8)(least:Int)(r:Rd):Int × Rd :=
 if indexByte (r.rest.take 21) e < 0 then(0,be)
 else match atoiAll ((r.rest.take 21).take (indexByte (r.rest.take 21) e).toNat)with
  | .ok n=>if itoa n=(r.rest.take 21).take (indexByte (r.rest.take 21) e).toNat/\least<=n
    then(n,⟨r.rest.drop ((indexByte (r.rest.take 21) e).toNat+1),r.bad⟩)else(0,be)
  |_=>(0,be)
theorem fT(e:UInt8)(least n:Int)(t:List UInt8)(b:Bool)(hn:I64 n)(hl:least<=n)(he:¬cR e) :
  ar e least ⟨itoa n++e::t,b⟩=(n,⟨t,b⟩):=by
 have d:=iE n hn
 have a:(itoa n++e::t).take 21=itoa n++e::t.take (20 - (itoa n).length):=by
  rw[List.take_append,List.take_of_length_le (by omega),show 21 - (itoa n).length=(20 - (itoa n).length)+1 from by omega,List.take_succ_cons]
 have c:indexByte (itoa n++e::t.take (20 - (itoa n).length)) e=(itoa n).length :=
  jt _ _ _ fun x hx hxe=>he (hxe▸lQ n x hx)
 unfold ar
 simp only[a,c];rw[if_neg (by omega)]
 have f:(((itoa n).length:Int)).toNat=(itoa n).length:=by omega
 rw[f,List.take_left,jz n hn];simp only[true_and]
 rw[if_pos hl,show(itoa n++e::t).drop ((itoa n).length+1)=t from by
  rw[<-List.drop_drop,List.drop_left];rfl]
theorem eX(e:UInt8)(least:Int)(r:Rd)(h:(ar e least r).2.bad=false) :
  r.bad=false/\r.rest=itoa (ar e least r).1++e::(ar e least r).2.rest/\least<=(ar e least r).1/\I64 (ar e least r).1:=by
 unfold ar at h ⊢
 split at h
 ·simp[be]at h
 ·next hge =>
  rw[if_neg hge];obtain⟨t,c,d⟩:=fB (r.rest.take 21) e (by omega)
  generalize i:(indexByte (r.rest.take 21) e).toNat=k at *
  cases ha:atoiAll ((r.rest.take 21).take k)with
  |ok n =>
   rw[ha]at h
   simp only at h ⊢
   by_cases hc:itoa n=(r.rest.take 21).take k/\least<=n
   ·rw[if_pos hc]at h ⊢;refine⟨h,?_,hc.2,atoiAll_bounds ha⟩
    simp only
    rw[hc.1];have a:(r.rest.take 21).length=min 21 r.rest.length:=List.length_take
    have g:(r.rest.take 21).take k=r.rest.take k:=by rw[List.take_take,Nat.min_eq_left (by omega)]
    have f:r.rest[k]'(by omega)=e:=by
     have b:(r.rest.take 21)[k]?=some e:=by
      rw[c,List.getElem?_append_right (by rw[List.length_take];omega),List.length_take,Nat.min_eq_left (by omega),Nat.sub_self];rfl
     rw[List.getElem?_take_of_lt (by omega)]at b;exact(List.getElem?_eq_some_iff.1 b).2
    rw[g]
    conv=>lhs;rw[<-List.take_append_drop k r.rest]
    rw[List.drop_eq_getElem_cons (by omega),f]
   ·rw[if_neg hc]at h
    simp[be]at h
  |_=>rw[ha]at h;simp[be]at h
theorem vZ(e:UInt8)(least:Int)(r:Rd):(ar e least r).2.rest.length<=r.rest.length:=by
 unfold ar
 split
 ·simp[be]
 ·split
  ·split
   ·simp
   ·simp[be]
  ·simp[be]
theorem xM(e:UInt8)(least:Int)(r:Rd):I64 (ar e least r).1:=by
 have hz:I64 0:=⟨by omega,by omega⟩
 unfold ar
 split
 ·exact hz
 ·split
  ·next n hn =>
   split
   ·exact atoiAll_bounds hn
   ·exact hz
  ·exact hz
theorem yt(e:UInt8)(least:Int)(h0:least<=0)(r:Rd):least<=(ar e least r).1:=by
 unfold ar
 split
 ·exact h0
 ·split
  ·split
   ·next h=>exact h.2
   ·exact h0
  ·exact h0
def close(e:List UInt8)(r:Rd):Rd:=if hasPrefix r.rest e then⟨r.rest.drop e.length,r.bad⟩else be
theorem qG(e t:List UInt8)(b:Bool):close e ⟨e++t,b⟩=⟨t,b⟩:=by
 unfold close hasPrefix
 simp
theorem nK(e:List UInt8)(r:Rd)(h:(close e r).bad=false):r.bad=false/\r.rest=e++(close e r).rest:=by
 unfold close at h ⊢
 split at h
 ·next hp =>
  rw[if_pos hp];refine⟨h,?_⟩
  unfold hasPrefix at hp
  obtain⟨t,ht⟩:=List.isPrefixOf_iff_prefix.1 hp
  simp only
  rw[<-ht,List.drop_left]
 ·simp[be]at h
theorem xN(e:List UInt8)(r:Rd):(close e r).rest.length<=r.rest.length:=by
 unfold close;split <;> simp[be]
def text(r:Rd):List UInt8 × Rd :=
 if((ar 58 0 r).2.rest.length:Int) < (ar 58 0 r).1 then([],be)
 else if(close [44] ⟨(ar 58 0 r).2.rest.drop (ar 58 0 r).1.toNat,(ar 58 0 r).2.bad⟩).bad then
  ([],close [44] ⟨(ar 58 0 r).2.rest.drop (ar 58 0 r).1.toNat,(ar 58 0 r).2.bad⟩)
 else((ar 58 0 r).2.rest.take (ar 58 0 r).1.toNat,close [44] ⟨(ar 58 0 r).2.rest.drop (ar 58 0 r).1.toNat,(ar 58 0 r).2.bad⟩)
theorem not58:¬cR 58:=by unfold cR;decide
theorem not59:¬cR 59:=by unfold cR;decide
theorem not91:¬cR 91:=by unfold cR;decide
theorem xS(s t:List UInt8)(hs:s.length<=9223372036854775807):text ⟨kO s++t,false⟩=(s,⟨t,false⟩):=by
 have hn:ar 58 0 ⟨kO s++t,false⟩=((s.length:Int),⟨s++44::t,false⟩):=by
  have:=fT 58 0 s.length (s++44::t) false ⟨by omega,by omega⟩ (by omega) not58;rw[<-this]
  unfold kO
  simp
 unfold text
 rw[hn];simp only[Int.toNat_natCast];rw[if_neg (by rw[List.length_append];omega)];rw[List.drop_left,show(44::t:List UInt8)=[44]++t from rfl,qG]
 simp
theorem uU(r:Rd)(h:(text r).2.bad=false):r.bad=false/\r.rest=kO (text r).1++(text r).2.rest/\(text r).1.length<=9223372036854775807:=by
 unfold text at h ⊢
 split at h
 ·simp[be]at h
 ·next hle =>
  rw[if_neg hle]
  split at h
  ·next hb=>simp only at h;rw[hb]at h;cases h
  ·next hb =>
   rw[if_neg hb]
   simp only at h ⊢
   obtain⟨d,c⟩:=nK _ _ h
   simp only at d c
   obtain⟨g,f,i,e⟩:=eX 58 0 r d
   have a:((ar 58 0 r).2.rest.take (ar 58 0 r).1.toNat).length=(ar 58 0 r).1.toNat:=by
    rw[List.length_take];omega
   refine⟨g,?_,?_⟩
   ·conv=>lhs;rw[f]
    unfold kO
    rw[a,show(((ar 58 0 r).1.toNat:Nat):Int)=(ar 58 0 r).1 from by omega];simp only[List.append_assoc,List.cons_append,List.nil_append]
    congr 2
    have b:=(List.take_append_drop (ar 58 0 r).1.toNat (ar 58 0 r).2.rest).symm;rw[c]at b;exact b
   ·rw[a];have:=e.2;omega
def loop{α:Type}(one:Rd->α × Rd):Nat->Rd->List α->List α × Rd
 |0,r,acc=>(acc,r)
 |n+1,r,acc=>if r.bad then(acc,r)else loop one n (one r).2 (acc++[(one r).1])
def items{α:Type}(one:Rd->α × Rd)(r:Rd):List α × Rd :=
 if(close [93] (loop one (ar 91 0 r).1.toNat (ar 91 0 r).2 []).2).bad then
  ([],close [93] (loop one (ar 91 0 r).1.toNat (ar 91 0 r).2 []).2)
 else((loop one (ar 91 0 r).1.toNat (ar 91 0 r).2 []).1,close [93] (loop one (ar 91 0 r).1.toNat (ar 91 0 r).2 []).2)
structure Codec {α:Type} (enc:α->List UInt8) (one:Rd->α × Rd) (ok:α->Prop):Prop where
 fwd:∀x t,ok x->one ⟨enc x++t,false⟩=(x,⟨t,false⟩)
 inv:∀r,(one r).2.bad=false->r.bad=false/\r.rest=enc (one r).1++(one r).2.rest/\ok (one r).1
theorem sC{α:Type}{enc:α->List UInt8}{one:Rd->α × Rd}{ok:α->Prop}(c:Codec enc one ok) :
  ∀(l acc:List α) (t:List UInt8),(∀x∈l,ok x)->loop one l.length ⟨l.flatMap enc++t,false⟩ acc=(acc++l,⟨t,false⟩)
 | [],acc,t,_=>by simp[loop]
 |x::l,acc,t,h=>by
  simp only[List.length_cons,loop];rw[List.flatMap_cons,List.append_assoc,c.fwd x _ (h x (by simp))];simp only[Bool.false_eq_true,if_false];rw[sC c l (acc++[x]) t (fun y hy=>h y (by simp[hy]))]
  simp
theorem qc{α:Type}{enc:α->List UInt8}{one:Rd->α × Rd}{ok:α->Prop}(c:Codec enc one ok) :
  ∀(n:Nat) (r:Rd) (acc:List α),(loop one n r acc).2.bad=false ->
   ∃l,(loop one n r acc).1=acc++l/\l.length=n/\r.bad=false/\r.rest=l.flatMap enc++(loop one n r acc).2.rest/\∀x∈l,ok x
 |0,r,acc,h=>⟨[],by simp[loop],rfl,by simpa [loop]using h,by simp[loop],by simp⟩
 |n+1,r,acc,h=>by
  simp only[loop]at h ⊢
  split at h
  ·next hb=>simp only at h;rw[hb]at h;cases h
  ·next hb =>
   rw[if_neg hb];obtain⟨l,h1,h2,h3,h4,h5⟩:=qc c n _ _ h;obtain⟨g1,g2,g3⟩:=c.inv r h3;refine⟨(one r).1::l,by rw[h1];simp,by simp[h2],g1,?_,?_⟩
   ·rw[List.flatMap_cons,List.append_assoc,<-h4,<-g2]
   ·intro x hx;rw[List.mem_cons]at hx
    rcases hx with rfl|hx
    ·exact g3
    ·exact h5 x hx
theorem wI{α:Type}{enc:α->List UInt8}{one:Rd->α × Rd}{ok:α->Prop}(c:Codec enc one ok)
  (l:List α) (t:List UInt8) (hl:l.length<=9223372036854775807) (h:∀x∈l,ok x) :
  items one ⟨listE l.length (l.flatMap enc)++t,false⟩=(l,⟨t,false⟩):=by
 have hn:ar 91 0 ⟨listE l.length (l.flatMap enc)++t,false⟩=((l.length:Int),⟨l.flatMap enc++93::t,false⟩):=by
  have:=fT 91 0 l.length (l.flatMap enc++93::t) false ⟨by omega,by omega⟩ (by omega) not91;rw[<-this]
  unfold listE
  simp
 unfold items
 rw[hn];simp only[Int.toNat_natCast];rw[sC c l [] (93::t) h];simp only[List.nil_append];rw[show(93::t:List UInt8)=[93]++t from rfl,qG]
 simp
theorem nv{α:Type}{enc:α->List UInt8}{one:Rd->α × Rd}{ok:α->Prop}(c:Codec enc one ok)(r:Rd)(h:(items one r).2.bad=false) :
  r.bad=false/\r.rest=listE (items one r).1.length ((items one r).1.flatMap enc)++(items one r).2.rest /\
   (items one r).1.length<=9223372036854775807/\∀x∈(items one r).1,ok x:=by
 unfold items at h ⊢
 split at h
 ·next hb=>simp only at h;rw[hb]at h;cases h
 ·next hb =>
  rw[if_neg hb]
  simp only at h ⊢
  obtain⟨m,k⟩:=nK _ _ h;obtain⟨l,j,a,i,g,f⟩:=qc c _ _ _ m;obtain⟨e,d,n,b⟩:=eX 91 0 r i;rw[j];simp only[List.nil_append];refine⟨e,?_,by rw[a];have:=b.2;omega,f⟩
  conv=>lhs;rw[d]
  unfold listE
  rw[a,show(((ar 91 0 r).1.toNat:Nat):Int)=(ar 91 0 r).1 from by omega,g,k]
  simp
theorem nw:Codec intE (ar 59 (-9223372036854775808)) I64 := ⟨fun x t hx=>by
   have:=fT 59 (-9223372036854775808) x t false hx hx.1 not59
   rw[<-this];simp[intE],
  fun r h=>by
   obtain⟨h1,h2,_,h4⟩:=eX 59 (-9223372036854775808) r h
   exact⟨h1,by rw[h2];simp[intE],h4⟩⟩
theorem qO:Codec kO text (fun s=>s.length<=9223372036854775807) := ⟨fun x t hx=>xS x t hx,fun r h=>uU r h⟩
def nums(r:Rd):List Int × Rd:=items (ar 59 (-9223372036854775808)) r
def texts(r:Rd):List (List UInt8) × Rd:=items text r
theorem nums_ok(l:List Int)(t:List UInt8)(hl:l.length<=9223372036854775807)(h:∀x∈l,I64 x):nums ⟨yX l++t,false⟩=(l,⟨t,false⟩) :=
 wI nw l t hl h
theorem nums_inv(r:Rd)(h:(nums r).2.bad=false):r.bad=false/\r.rest=yX (nums r).1++(nums r).2.rest/\(nums r).1.length<=9223372036854775807/\∀x∈(nums r).1,I64 x :=
 nv nw r h
theorem zY(r:Rd)(h:(texts r).2.bad=false):r.bad=false/\r.rest=zp (texts r).1++(texts r).2.rest/\(texts r).1.length<=9223372036854775807/\∀x∈(texts r).1,x.length<=9223372036854775807 :=
 nv qO r h
end Go.Proofs.YtcidfldeiklcjaaGreatDoor.Wire
