import Derived.Test.YtpcmamoomaddoaaGreatDoorAcp
import Derived.LoopTactic
import Derived.Maps.AppendAt
import Derived.Outline
import Derived.Shelf.SlSortCmp.WholeK
import Derived.Shelf.SlSortCmp.NoneTotal
set_option maxRecDepth 100000
set_option maxHeartbeats 32000000
namespace Go.Proofs.YtpcmamoomaddoaaGreatDoor
open Go.RowKit
open Go.Proofs.Tryz
def Row(w:World)(size:Nat)(v:Value)(n:Nat)(l:List Value):Prop :=
 l.length=n*size/\n<=9223372036854775807/\∃a c,v=.slice a n c/\n<=c/\(0 < n->∃b off,a=some ⟨b,off,none⟩/\∀k u,l[k]?=some u->w.cell? ⟨b,off+k,none⟩=some u)
theorem Row.kept{w w':World}{size:Nat}{v:Value}{n:Nat}{l:List Value}(h:Row w size v n l)(k:Kept [] w w'):Row w' size v n l:=by
 obtain⟨h1,h2,a,c,hv,hcc,hc⟩:=h;refine⟨h1,h2,a,c,hv,hcc,fun hn=>?_⟩;obtain⟨b,off,ha,hcell⟩:=hc hn;refine⟨b,off,ha,fun j u hu=>?_⟩;have:=hcell j u hu;exact(k.cell (World.block_lt_of_cell? w _ this) (by simp)).trans this
theorem Row.form{w:World}{size:Nat}{v:Value}{n:Nat}{l:List Value}(h:Row w size v n l):∃a c,v=.slice a n c/\n<=9223372036854775807/\n<=c:=by
 obtain⟨_,h2,a,c,hv,hcc,_⟩:=h;exact⟨a,c,hv,h2,hcc⟩
theorem Row.at_{w:World}{size n m c:Nat}{a:Option Addr}{l:List Value}(h:Row w size (.slice a n c) m l)(hm:0 < m) :
  ∃b off,a=some ⟨b,off,none⟩/\∀k u,l[k]?=some u->w.cell? ⟨b,off+k,none⟩=some u:=by
 obtain⟨_,_,a',c',hv,_,hc⟩:=h;injection hv with e1 e2 e3;subst e1;exact hc hm
theorem iv(b off k:Nat):(⟨b,off,none⟩:Addr).add k=⟨b,off+k,none⟩:=by
 unfold Addr.add;split
 ·next h=>subst h;rfl
 ·rfl
theorem Row.of_own{w:World}{B:Nat}{e:TypeId}{size:Nat}{v:Value}{n:Nat}{xs:List Value}(h:w.ownsRow B e size v n xs)(hn:n<=9223372036854775807):Row w size v n xs:=by
 refine⟨h.1,hn,?_⟩
 rcases h.2 with⟨h1,h2⟩|⟨g,cap,cur,hv,hB,hg,hnc,hcm,hcs,hx⟩
 ·subst h2;exact⟨_,_,h1,by omega,fun hn=>by omega⟩
 ·refine⟨_,_,hv,hnc,fun _=>⟨g,0,rfl,fun k u hu=>?_⟩⟩;rw[<-hx]at hu;simp only[World.cell?,hg,Option.isSome_none,Bool.false_eq_true,if_false,Nat.zero_add];rw[List.getElem?_take]at hu
  split at hu
  ·simpa using hu
  ·cases hu
theorem bcat:∀x y:List UInt8,(⟨x.toArray⟩:ByteArray)++⟨y.toArray⟩=⟨(x++y).toArray⟩:=fun x y=>ByteArray.mk_append_mk x y
theorem mV:(prog.info? 3).map (fun i=>(i.zero,i.size,i.bytes))=some (some (.int .i64 0),1,8):=by kernel_rfl
/-- a list of ints as cells -/
def ints(l:List Int):List Value:=l.map (Value.int .i64)
theorem bu{l:List Int}{k:Nat}(h:k < l.length):(ints l)[k]?=some (.int .i64 l[k]):=by simp[ints,h]
def strs(l:List (List UInt8)):List Value:=l.map fun s=>.string ⟨s.toArray⟩
theorem eD{l:List (List UInt8)}{k:Nat}(h:k < l.length):(strs l)[k]?=some (.string ⟨l[k].toArray⟩):=by simp[strs,h]
/-- a slice whose elements, of m cells each, stand for the members of a list -/
def aj{α:Type}(R:World->List Value->α->Prop)(m:Nat)(w:World)(u:Value)(l:List α):Prop :=
 ∃vs:List (List Value),vs.length=l.length/\(∀c∈vs,c.length=m)/\(∀(k:Nat) a,l[k]?=some a->∃c,vs[k]?=some c/\R w c a)/\Row w m u l.length vs.flatten
theorem cd{α:Type}:∀(vs:List (List α)) (m k j:Nat) (c:List α),(∀c∈vs,c.length=m)->vs[k]?=some c->j < m->vs.flatten[k*m+j]?=c[j]?
 | [],_,_,_,_,_,h,_=>by simp at h
 |a::vs,m,0,j,c,hm,h,hj=>by
  simp at h;subst h;have:=hm a (by simp);rw[Nat.zero_mul,Nat.zero_add,List.flatten_cons,List.getElem?_append_left (by omega)]
 |a::vs,m,k+1,j,c,hm,h,hj=>by
  have h1:=hm a (by simp)
  have h2:vs[k]?=some c:=by simpa using h
  rw[List.flatten_cons,List.getElem?_append_right (by rw[h1,Nat.add_mul];omega),h1,show(k+1)*m+j - m=k*m+j by rw[Nat.add_mul];omega];exact cd vs m k j c (fun c hc=>hm c (by simp[hc])) h2 hj
theorem dC{α:Type}:∀(vs:List (List α)) (m:Nat),(∀c∈vs,c.length=m)->vs.flatten.length=vs.length*m
 | [],m,_=>by simp
 |a::vs,m,hm=>by
  rw[List.flatten_cons,List.length_append,hm a (by simp),dC vs m (fun c hc=>hm c (by simp[hc])),List.length_cons,Nat.add_mul];omega
section
variable {α:Type} {R:World->List Value->α->Prop} {m:Nat} {w w':World} {u:Value} {l:List α}
theorem aj.kept(h:aj R m w u l)(hR:∀c a,R w c a->R w' c a)(k:Kept [] w w'):aj R m w' u l:=by
 obtain⟨vs,h1,h2,h3,h4⟩:=h;exact⟨vs,h1,h2,fun i a ha=>by obtain⟨c,h5,h6⟩:=h3 i a ha;exact⟨c,h5,hR c a h6⟩,h4.kept k⟩
theorem aj.form(h:aj R m w u l):∃a c,u=.slice a l.length c/\l.length<=9223372036854775807/\l.length<=c:=by
 obtain⟨vs,_,_,_,h4⟩:=h;exact h4.form
/-- the cells of one element -/
theorem aj.at_{a:Option Addr}{n c:Nat}(h:aj R m w (.slice a n c) l)(hp:0 < l.length) :
  ∃b off,a=some ⟨b,off,none⟩/\∀(k:Nat) x,l[k]?=some x->∃cs:List Value,cs.length=m/\R w cs x/\∀(j:Nat) v,j < m->cs[j]?=some v->w.cell? ⟨b,off+(k*m+j),none⟩=some v:=by
 obtain⟨vs,h1,h2,h3,h4⟩:=h;obtain⟨b,off,ha,hc⟩:=h4.at_ hp;refine⟨b,off,ha,fun k x hx=>?_⟩;obtain⟨cs,h5,h6⟩:=h3 k x hx;refine⟨cs,h2 cs (List.mem_of_getElem? h5),h6,fun j v hj hv=>?_⟩;exact hc (k*m+j) v ((cd vs m k j cs h2 h5 hj).trans hv)
theorem aj.nil_(R:World->List Value->α->Prop)(m:Nat)(w:World):aj R m w (.slice none 0 0) [] := ⟨[],rfl,by simp,by simp,⟨by simp,by simp,_,_,rfl,by simp,fun h=>absurd h (by simp)⟩⟩
/-- an owned row is such a slice -/
theorem aj.of_own{B:Nat}{e:TypeId}{vs:List (List Value)}(h:w.ownsRow B e m u l.length vs.flatten)(h1:vs.length=l.length)(h2:∀c∈vs,c.length=m)
  (h3:∀(k:Nat) a,l[k]?=some a->∃c,vs[k]?=some c/\R w c a) (hn:l.length<=9223372036854775807):aj R m w u l := ⟨vs,h1,h2,h3,Row.of_own h hn⟩
end
theorem al{w:World}{b:Nat}{T:TypeId}{size n:Nat}{cs:List Value}(h:Blk w b T cs.toArray)(hl:cs.length=n*size)(hn:n<=9223372036854775807) :
  Row w size (.slice (some ⟨b,0,none⟩) n n) n cs:=by
 refine⟨hl,hn,_,_,rfl,Nat.le_refl _,fun _=>⟨_,_,rfl,fun k u hu=>?_⟩⟩;rw[Nat.zero_add,h.cell k]
 simpa using hu
/-- the block of a slice's array -/
def obl(v:Value):List Nat:=v.ownBlock.toList
theorem cD{v:Value}{k:Nat}(h:v.ownBlock=some k):k∈obl v:=by unfold obl;rw[h];simp
theorem dr{v:Value}{k:Nat}(h:k∈obl v):v.ownBlock=some k:=by unfold obl at h;simpa using h
theorem Kept.of_obl{w w':World}{v:Value}(h:w.grownBy w' v.ownBlock):Kept (obl v) w w':=Kept.of_grown h fun _ h=>cD h
theorem aA{w:World}{B:Nat}{e:TypeId}{size n:Nat}{v:Value}{xs:List Value}(h:w.ownsRow B e size v n xs):∀k∈obl v,B<=k/\k < w.heap.size:=fun k hk=>h.lt k (dr hk)
theorem ax{w w':World}{S:List Nat}{B:Nat}{e:TypeId}{size n:Nat}{v:Value}{xs:List Value}(h:w.ownsRow B e size v n xs)(k:Kept S w w')(hS:∀z∈obl v,z∉S) :
  w'.ownsRow B e size v n xs:=by
 refine⟨h.1,?_⟩
 rcases h.2 with h1|⟨g',cap,cur,hv,hB,hb,r⟩
 ·exact Or.inl h1
 ·subst hv;exact Or.inr ⟨g',cap,cur,rfl,hB,(k.block g' (Array.getElem?_eq_some_iff.1 hb).1 (hS g' (cD rfl))).trans hb,r⟩
section
variable {P:Program}
theorem gI{w:World}(base:Nat)(t ty e:TypeId)(i:TypeInfo)(size:Nat)(ht:P.underlying t=some (.slice e))(hi:P.info? e=some i)
  (v:Value) (n c:Nat) (xs:List Value) (hown:w.ownsRow base e size v n xs) :
  (Builtin.append_ #[t,t] ty #[v,.slice none 0 c]).run P w=.ok v w:=by
 rcases hown.2 with⟨rfl,rfl⟩|⟨g,cap,cur,rfl,_,_,hnc,_⟩
 ·simp[Builtin.append_,run_underlying ht,sizeOf,typeInfo,hi,Builtin.lenOf,Builtin.firstCells]
 ·simp[Builtin.append_,run_underlying ht,sizeOf,typeInfo,hi,Builtin.lenOf,Builtin.firstCells,hnc,storeCells]
theorem bL{w:World}{o:Oper}{a:Act}{K:Act->World->Prop}{Q:Exit->Act->World->Prop}(s x:Operand)(t:TypeId)
  (ho:o.op=.call { callee:=.builtin .append,args:=#[s,x],argTypes:=#[t,t] })
  (base:Nat) (e:TypeId) (i:TypeInfo) (z:Value) (size bytes:Nat) (ht:P.underlying t=some (.slice e)) (hi:P.info? e=some i) (hz:i.zero=some z)
  (hsize:i.size=size) (hby:i.bytes=bytes) (hzs:z.cells.size=size) (hsz:0 < size)
  (v:Value) (n:Nat) (xs:List Value) (hs:a.eval s=v) (hown:w.ownsRow base e size v n xs)
  (u:Value) (m:Nat) (news:List Value) (hx:a.eval x=u) (hrow:Row w size u m news) (h1:∀u∈news,u.oneCell'=true)
  (h63:n+m<=maxLen) (hbytes:(n+m)*bytes<=140737488355328) (hbase:base<=w.heap.size)
  (h:∀a' c' w',w'.ownsRow base e size (.slice a' (n+m) c') (n+m) (xs++news)->Kept (obl v) w w'->(∀k∈obl (.slice a' (n+m) c'),k∈obl v\/k=w.heap.size)->K (a.put o.dst (.slice a' (n+m) c')) w'):o.wp P a w K Q:=by
 obtain⟨B,_,p,c,rfl,_,D⟩:=hrow
 cases p with
 |none =>
  have F:m=0:=by
   rcases Nat.eq_zero_or_pos m with h|h
   ·exact h
   ·obtain⟨b,q,g,_⟩:=D h
    cases g
  subst F;have A:news=[]:=List.eq_nil_of_length_eq_zero (by simpa using B);subst A;have y:=gI (P:=P) base t o.type e i size ht hi v n c xs hown;obtain⟨a',c',r⟩:=dX hown;subst r
  unfold Oper.wp execOp
  simp only[ho,resolve,invoke,builtin,Sem.run_bind,Sem.run_pure,Result.andThen_ok,List.map_toArray,List.map_cons,List.map_nil,hs,hx,y];exact h a' c' w (by simpa using hown) (Kept.refl _ _) (fun k hk=>Or.inl hk)
 |some p =>
  have d:∀j u,news[j]?=some u->w.cell? (p.add j)=some u:=by
   intro j u C
   rcases Nat.eq_zero_or_pos m with h|h
   ·subst h;have A:news=[]:=List.eq_nil_of_length_eq_zero (by simpa using B);rw[A]at C;simp at C
   ·obtain⟨b,q,g,f⟩:=D h;injection g with g;subst g;rw[iv];exact f j u C
  obtain⟨v',w',y,E,G,_,l⟩:=run_append_own_at (P:=P) w base t o.type e i z size bytes ht hi hz hsize hby hzs hsz v n xs hown p m c news B d h1 h63 hbytes hbase;obtain⟨a',c',r⟩:=dX E;subst r
  unfold Oper.wp execOp
  simp only[ho,resolve,invoke,builtin,Sem.run_bind,Sem.run_pure,Result.andThen_ok,List.map_toArray,List.map_cons,List.map_nil,hs,hx,y];refine h a' c' w' E (Kept.of_obl G) (fun k hk=>?_)
  rcases l with l|l
  ·exact Or.inl (cD (l▸dr hk))
  ·have:=dr hk;rw[l]at this;injection this with this;exact Or.inr this.symm
end
theorem aH{P:Program}{w:World}{ops:Array Oper}{rest:List Oper}{o:Oper}{a:Act}{Q:Exit->Act->World->Prop}(hgd:o.guard=none)(s x:Operand)(t:TypeId)
  (ho:o.op=.call { callee:=.builtin .append,args:=#[s,x],argTypes:=#[t,t] })
  (base:Nat) (e:TypeId) (i:TypeInfo) (z:Value) (size bytes:Nat) (ht:P.underlying t=some (.slice e)) (hi:P.info? e=some i) (hz:i.zero=some z)
  (hsize:i.size=size) (hby:i.bytes=bytes) (hzs:z.cells.size=size) (hsz:0 < size)
  (v:Value) (n:Nat) (xs:List Value) (hs:a.eval s=v) (hown:w.ownsRow base e size v n xs)
  (u:Value) (m:Nat) (news:List Value) (hx:a.eval x=u) (hrow:Row w size u m news) (h1:∀u∈news,u.oneCell'=true)
  (h63:n+m<=maxLen) (hbytes:(n+m)*bytes<=140737488355328) (hbase:base<=w.heap.size)
  (h:∀a' c' w',w'.ownsRow base e size (.slice a' (n+m) c') (n+m) (xs++news)->Kept (obl v) w w'->(∀k∈obl (.slice a' (n+m) c'),k∈obl v\/k=w.heap.size)->wpList P ops Q rest (a.put o.dst (.slice a' (n+m) c')) w') :
  wpList P ops Q (o::rest) a w :=
 wpList_plain hgd fun _ hK=>bL s x t ho base e i z size bytes ht hi hz hsize hby hzs hsz v n xs hs hown u m news hx hrow h1 h63 hbytes hbase fun a' c' w' h2 h3 h4=>hK _ _ (h a' c' w' h2 h3 h4)
theorem sC{w w':World}{S:List Nat}{B:Nat}{e:TypeId}{size:Nat}{v:Value}{n:Nat}{xs:List Value}(h:w.ownsRow B e size v n xs)(k:Kept S w w')(hS:∀z∈obl v,z∉S):w'.ownsRow B e size v n xs:=ax h k hS
/-- a row of ints behind a slice of ints -/
theorem fk{w:World}{o:Oper}{a:Act}{K:Act->World->Prop}{Q:Exit->Act->World->Prop}(s x:Operand)
  (ho:o.op=.call { callee:=.builtin .append,args:=#[s,x],argTypes:=#[23,23] })
  (base:Nat) (v:Value) (n:Nat) (xs:List Int) (hs:a.eval s=v) (hown:w.ownsRow base 3 1 v n (ints xs))
  (u:Value) (m:Nat) (l:List Int) (hx:a.eval x=u) (hrow:Row w 1 u m (ints l)) (hsm:n+m<=1000000000) (hbase:base<=w.heap.size)
  (h:∀a' c' w',w'.ownsRow base 3 1 (.slice a' (n+m) c') (n+m) (ints (xs++l))->Kept (obl v) w w'->(∀k∈obl (.slice a' (n+m) c'),k∈obl v\/k=w.heap.size)->K (a.put o.dst (.slice a' (n+m) c')) w'):o.wp prog a w K Q:=by
 obtain⟨e,g,d,c,b⟩:=info_parts mV;refine bL s x 23 ho base 3 e (.int .i64 0) 1 8 underlying23 g d c b rfl (by decide) v n (ints xs) hs hown u m (ints l) hx hrow ?_ (by unfold maxLen;omega) (by omega) hbase ?_
 ·intro u f;obtain⟨y,_,rfl⟩:=List.mem_map.1 f
  rfl
 ·rw[<-show ints (xs++l)=ints xs++ints l by simp[ints]];exact h
theorem bE{w:World}{ops:Array Oper}{rest:List Oper}{o:Oper}{a:Act}{Q:Exit->Act->World->Prop}(hgd:o.guard=none)(s x:Operand)
  (ho:o.op=.call { callee:=.builtin .append,args:=#[s,x],argTypes:=#[23,23] })
  (base:Nat) (v:Value) (n:Nat) (xs:List Int) (hs:a.eval s=v) (hown:w.ownsRow base 3 1 v n (ints xs))
  (u:Value) (m:Nat) (l:List Int) (hx:a.eval x=u) (hrow:Row w 1 u m (ints l)) (hsm:n+m<=1000000000) (hbase:base<=w.heap.size)
  (h:∀a' c' w',w'.ownsRow base 3 1 (.slice a' (n+m) c') (n+m) (ints (xs++l))->Kept (obl v) w w'->(∀k∈obl (.slice a' (n+m) c'),k∈obl v\/k=w.heap.size)->wpList prog ops Q rest (a.put o.dst (.slice a' (n+m) c')) w') :
  wpList prog ops Q (o::rest) a w :=
 wpList_plain hgd fun _ hK=>fk s x ho base v n xs hs hown u m l hx hrow hsm hbase fun a' c' w' h2 h3 h4=>hK _ _ (h a' c' w' h2 h3 h4)
theorem iD{w:World}{ops:Array Oper}{o:Oper}{a:Act}{K:Act->World->Prop}{Q:Exit->Act->World->Prop}{E:Prop}(hgd:o.guard=none)(s x:Operand)
  (ho:o.op=.call { callee:=.builtin .append,args:=#[s,x],argTypes:=#[23,23] })
  (base:Nat) (v:Value) (n:Nat) (xs:List Int) (hs:a.eval s=v) (hown:w.ownsRow base 3 1 v n (ints xs))
  (u:Value) (m:Nat) (l:List Int) (hx:a.eval x=u) (hrow:Row w 1 u m (ints l)) (hsm:n+m<=1000000000) (hbase:base<=w.heap.size)
  (h:∀a' c' w',w'.ownsRow base 3 1 (.slice a' (n+m) c') (n+m) (ints (xs++l))->Kept (obl v) w w'->(∀k∈obl (.slice a' (n+m) c'),k∈obl v\/k=w.heap.size)->K (a.put o.dst (.slice a' (n+m) c')) w') :
  if Region.wanted o (yielded ops a.tmps)=true then Oper.wp prog o a w K Q else E:=by
 rw[if_pos (by simp[Region.wanted,hgd])];exact fk s x ho base v n xs hs hown u m l hx hrow hsm hbase h
/-- the row that a slice literal lays -/
theorem Row.lit(w:World)(l:List Int)(hl:l.length<=1000):Row (w.alloc (.cells (ints l).toArray 3)) 1 (.slice (some ⟨w.heap.size,0,none⟩) l.length l.length) l.length (ints l) :=
 al (Blk.new w 3 (ints l).toArray) (by simp[ints]) (by omega)
/-- the one cell of an element of size one -/
theorem aj.one{α:Type}{R:World->List Value->α->Prop}{w:World}{a:Option Addr}{n c:Nat}{l:List α}(h:aj R 1 w (.slice a n c) l)(k:Nat)(hk:k < l.length) :
  ∃b off v,a=some ⟨b,off,none⟩/\w.cell? ⟨b,off+k,none⟩=some v/\R w [v] l[k]:=by
 obtain⟨b,off,rfl,hc⟩:=h.at_ (by omega);obtain⟨cs,h1,h2,h3⟩:=hc k _ (List.getElem?_eq_getElem hk)
 obtain⟨v,rfl⟩:∃v,cs=[v]:=by
  rcases cs with _|⟨v,_|⟨u,t⟩⟩
  ·cases h1
  ·exact⟨v,rfl⟩
  ·simp at h1
 have:=h3 0 v (by omega) rfl;rw[Nat.mul_one,Nat.add_zero]at this;exact⟨b,off,v,rfl,this,h2⟩
/-- it holds whatever becomes of the blocks of X, and of new ones -/
def aw(X:List Nat)(P:World->Prop)(w:World):Prop:=∀S w',Kept S w w'->(∀z∈S,z < w.heap.size->z∈X)->P w'
section
variable {X X' S:List Nat} {P Q:World->Prop} {w w':World}
theorem aw.get(h:aw X P w):P w:=h [] w (Kept.refl _ _) (by simp)
theorem aw.step(h:aw X P w)(k:Kept S w w')(hS:∀z∈S,z < w.heap.size->z∈X)(hX:∀z∈X',z∈X\/w.heap.size<=z):aw X' P w':=fun S' w'' k' hS' =>
 h (S++S') w'' ((k.mono fun z _ hz=>List.mem_append_left _ hz).then_ k' fun z _ hz=>List.mem_append_right _ hz) fun z hz hlt=>by
  rcases List.mem_append.1 hz with h1|h1
  ·exact hS z h1 hlt
  ·have:=k.size
   rcases hX z (hS' z h1 (by omega))with h2|h2
   ·exact h2
   ·omega
theorem aw.less(h:aw X P w)(hX:∀z∈X',z∈X\/w.heap.size<=z):aw X' P w:=h.step (Kept.refl [] _) (by simp) hX
theorem aw.imp(h:aw X P w)(hPQ:∀w,P w->Q w):aw X Q w:=fun S w' k hS=>hPQ _ (h S w' k hS)
theorem aw.and(h:aw X P w)(k:aw X Q w):aw X (fun w=>P w/\Q w) w:=fun S w' kk hS=>⟨h S w' kk hS,k S w' kk hS⟩
theorem aw.own{B:Nat}{e:TypeId}{size n:Nat}{v:Value}{xs:List Value}(h:w.ownsRow B e size v n xs)(hX:∀z∈obl v,z∉X):aw X (fun w=>w.ownsRow B e size v n xs) w:=fun _ _ k hS =>
 ax h k fun z hz hm=>hX z hz (hS z hm (aA h z hz).2)
theorem aw.row{B:Nat}{e:TypeId}{size n:Nat}{v:Value}{xs:List Value}(h:w.ownsRow B e size v n xs)(hX:∀z∈obl v,z∉X)(hn:n<=9223372036854775807):aw X (fun w=>Row w size v n xs) w :=
 (aw.own h hX).imp fun _ h=>Row.of_own h hn
end
/-- the cells of the members of a list -/
def fO{α:Type}(R:World->List Value->α->Prop)(m:Nat)(vs:List (List Value))(l:List α)(w:World):Prop :=
 vs.length=l.length/\(∀c∈vs,c.length=m)/\∀(k:Nat) a,l[k]?=some a->∃c,vs[k]?=some c/\R w c a
theorem fO.nil_{α:Type}(R:World->List Value->α->Prop)(m:Nat)(w:World):fO R m [] [] w:=⟨rfl,by simp,by simp⟩
theorem fO.snoc{α:Type}{R:World->List Value->α->Prop}{m:Nat}{vs:List (List Value)}{l:List α}{w:World}(h:fO R m vs l w){c:List Value}{a:α}(hc:c.length=m)(hR:R w c a):fO R m (vs++[c]) (l++[a]) w:=by
 obtain⟨e,g,f⟩:=h;refine⟨by simp[e],fun x hx=>?_,fun k b hb=>?_⟩
 ·rcases List.mem_append.1 hx with h|h
  ·exact g x h
  ·rw[List.mem_singleton]at h;subst h;exact hc
 ·by_cases hk:k < l.length
  ·rw[List.getElem?_append_left hk]at hb;obtain⟨c',hc',hR'⟩:=f k b hb;exact⟨c',by rw[List.getElem?_append_left (by omega)];exact hc',hR'⟩
  ·rw[List.getElem?_append_right (by omega)]at hb
   have d:k - l.length=0:=by
    rcases Nat.eq_zero_or_pos (k - l.length)with h|h
    ·exact h
    ·rw[List.getElem?_eq_none (by simp;omega)]at hb;cases hb
   rw[d]at hb;simp at hb;subst hb;exact⟨c,by rw[List.getElem?_append_right (by omega),e,d];rfl,hR⟩
/-- a row of the call's own that grows -/
def Grow{α:Type}(R:World->List Value->α->Prop)(m:Nat)(e:TypeId)(B:Nat)(X:List Nat)(w:World)(v:Value)(l:List α):Prop :=
 ∃vs,w.ownsRow B e m v l.length vs.flatten/\aw X (fO R m vs l) w
section
variable {α:Type} {R:World->List Value->α->Prop} {m:Nat} {e:TypeId} {B:Nat} {X X' S:List Nat} {w w':World} {v:Value} {l:List α}
theorem Grow.nil_(R:World->List Value->α->Prop)(m:Nat)(e:TypeId)(B:Nat)(X:List Nat)(w:World):Grow R m e B X w (.slice none 0 0) [] := ⟨[],World.ownsRow_nil _ _ _ _,fun _ _ _ _=>fO.nil_ _ _ _⟩
theorem Grow.step(h:Grow R m e B X w v l)(k:Kept S w w')(hv:∀z∈obl v,z∉S)(hS:∀z∈S,z < w.heap.size->z∈X)(hX:∀z∈X',z∈X\/w.heap.size<=z):Grow R m e B X' w' v l:=by
 obtain⟨vs,h1,h2⟩:=h;exact⟨vs,ax h1 k hv,h2.step k hS hX⟩
theorem Grow.ge(h:Grow R m e B X w v l):∀z∈obl v,B<=z/\z < w.heap.size:=by
 obtain⟨vs,h1,h2⟩:=h;exact aA h1
theorem dp{w:World}{B:Nat}{e:TypeId}{size n:Nat}{v:Value}{xs:List Value}(h:w.ownsRow B e size v n xs)(hs:0 < size):∃a c,v=.slice a n c:=by
 rcases h.2 with⟨h3,h4⟩|⟨g,cap,cur,hv,_⟩
 ·have h5:=h.1;rw[h4]at h5
  have hn:n=0:=by
   rcases Nat.eq_zero_or_pos n with h|h
   ·exact h
   ·have:=Nat.mul_pos h hs;simp at h5;omega
  subst hn;exact⟨_,_,h3⟩
 ·exact⟨_,_,hv⟩
theorem Grow.form(h:Grow R m e B X w v l)(hm:0 < m):∃a c,v=.slice a l.length c:=by
 obtain⟨vs,h1,h2⟩:=h;exact dp h1 hm
/-- it is finished -/
theorem Grow.done(h:Grow R m e B X w v l)(hX:∀z∈X',z∈X\/w.heap.size<=z)(hv:∀z∈obl v,z∉X')(hl:l.length<=9223372036854775807):aw X' (fun w=>aj R m w v l) w:=by
 obtain⟨vs,h1,h2⟩:=h;exact((aw.own h1 hv).and (h2.less hX)).imp fun w' h=>aj.of_own h.1 h.2.1 h.2.2.1 h.2.2.2 hl
theorem Grow.row(h:Grow R m e B X w v l)(hl:l.length<=9223372036854775807):aj R m w v l:=by
 obtain⟨vs,h1,h2⟩:=h;have h3:=h2.get;exact aj.of_own h1 h3.1 h3.2.1 h3.2.2 hl
/-- one element behind a row that grows -/
theorem fl{P:Program}{o:Oper}{a:Act}{K:Act->World->Prop}{Q:Exit->Act->World->Prop}(s x:Operand)(t:TypeId)
  (ho:o.op=.call { callee:=.builtin .append,args:=#[s,x],argTypes:=#[t,t] })
  (i:TypeInfo) (z:Value) (bytes:Nat) (ht:P.underlying t=some (.slice e)) (hi:P.info? e=some i) (hz:i.zero=some z)
  (hsize:i.size=m) (hby:i.bytes=bytes) (hzs:z.cells.size=m) (hsz:0 < m) (hbs:bytes<=128)
  (hs:a.eval s=v) (hg:Grow R m e B X w v l) (u:Value) (c:List Value) (b:α) (hx:a.eval x=u) (hrow:Row w m u 1 c) (hR:aw X (fun w=>R w c b) w) (h1:∀u∈c,u.oneCell'=true)
  (hn:l.length<=1000000000) (hbase:B<=w.heap.size) (hvX:∀z∈obl v,z∈X)
  (h:∀a' c' w',Grow R m e B (X++obl (.slice a' (l.length+1) c')) w' (.slice a' (l.length+1) c') (l++[b])->Kept (obl v) w w'->(∀k∈obl (.slice a' (l.length+1) c'),k∈obl v\/k=w.heap.size)->K (a.put o.dst (.slice a' (l.length+1) c')) w'):o.wp P a w K Q:=by
 obtain⟨d,q,p⟩:=hg;refine bL s x t ho B e i z m bytes ht hi hz hsize hby hzs hsz v l.length d.flatten hs q u 1 c hx hrow h1 (by unfold maxLen;omega) ?_ hbase ?_
 ·have:(l.length+1)*bytes<=1000000001*128:=Nat.mul_le_mul (by omega) hbs;omega
 ·intro a' c' w' f k j
  have g:c.length=m:=by have:=hrow.1;omega
  refine h a' c' w' ⟨d++[c],by simpa using f,?_⟩ k j;have n:aw X (fO R m (d++[c]) (l++[b])) w:=(p.and hR).imp fun _ h=>h.1.snoc g h.2
  exact n.step k (fun z hz _=>hvX z hz) fun z hz=>by
   rcases List.mem_append.1 hz with h|h
   ·exact Or.inl h
   ·rcases j z h with h|h
    ·exact Or.inl (hvX z h)
    ·exact Or.inr (by omega)
theorem cJ{P:Program}{ops:Array Oper}{rest:List Oper}{o:Oper}{a:Act}{Q:Exit->Act->World->Prop}(hgd:o.guard=none)(s x:Operand)(t:TypeId)
  (ho:o.op=.call { callee:=.builtin .append,args:=#[s,x],argTypes:=#[t,t] })
  (i:TypeInfo) (z:Value) (bytes:Nat) (ht:P.underlying t=some (.slice e)) (hi:P.info? e=some i) (hz:i.zero=some z)
  (hsize:i.size=m) (hby:i.bytes=bytes) (hzs:z.cells.size=m) (hsz:0 < m) (hbs:bytes<=128)
  (hs:a.eval s=v) (hg:Grow R m e B X w v l) (u:Value) (c:List Value) (b:α) (hx:a.eval x=u) (hrow:Row w m u 1 c) (hR:aw X (fun w=>R w c b) w) (h1:∀u∈c,u.oneCell'=true)
  (hn:l.length<=1000000000) (hbase:B<=w.heap.size) (hvX:∀z∈obl v,z∈X)
  (h:∀a' c' w',Grow R m e B (X++obl (.slice a' (l.length+1) c')) w' (.slice a' (l.length+1) c') (l++[b])->Kept (obl v) w w'->(∀k∈obl (.slice a' (l.length+1) c'),k∈obl v\/k=w.heap.size)->wpList P ops Q rest (a.put o.dst (.slice a' (l.length+1) c')) w') :
  wpList P ops Q (o::rest) a w :=
 wpList_plain hgd fun _ hK=>fl s x t ho i z bytes ht hi hz hsize hby hzs hsz hbs hs hg u c b hx hrow hR h1 hn hbase hvX fun a' c' w' h2 h3 h4=>hK _ _ (h a' c' w' h2 h3 h4)
theorem bg{P:Program}{ops:Array Oper}{o:Oper}{a:Act}{K:Act->World->Prop}{Q:Exit->Act->World->Prop}{E:Prop}(hgd:o.guard=none)(s x:Operand)(t:TypeId)
  (ho:o.op=.call { callee:=.builtin .append,args:=#[s,x],argTypes:=#[t,t] })
  (i:TypeInfo) (z:Value) (bytes:Nat) (ht:P.underlying t=some (.slice e)) (hi:P.info? e=some i) (hz:i.zero=some z)
  (hsize:i.size=m) (hby:i.bytes=bytes) (hzs:z.cells.size=m) (hsz:0 < m) (hbs:bytes<=128)
  (hs:a.eval s=v) (hg:Grow R m e B X w v l) (u:Value) (c:List Value) (b:α) (hx:a.eval x=u) (hrow:Row w m u 1 c) (hR:aw X (fun w=>R w c b) w) (h1:∀u∈c,u.oneCell'=true)
  (hn:l.length<=1000000000) (hbase:B<=w.heap.size) (hvX:∀z∈obl v,z∈X)
  (h:∀a' c' w',Grow R m e B (X++obl (.slice a' (l.length+1) c')) w' (.slice a' (l.length+1) c') (l++[b])->Kept (obl v) w w'->(∀k∈obl (.slice a' (l.length+1) c'),k∈obl v\/k=w.heap.size)->K (a.put o.dst (.slice a' (l.length+1) c')) w') :
  if Region.wanted o (yielded ops a.tmps)=true then Oper.wp P o a w K Q else E:=by
 rw[if_pos (by simp[Region.wanted,hgd])];exact fl s x t ho i z bytes ht hi hz hsize hby hzs hsz hbs hs hg u c b hx hrow hR h1 hn hbase hvX h
end
theorem Row.none_(w:World)(size:Nat):Row w size (.slice none 0 0) 0 []:=⟨by simp,by omega,none,0,rfl,by omega,fun h=>absurd h (by omega)⟩
end Go.Proofs.YtpcmamoomaddoaaGreatDoor
namespace Go.Proofs.YtpcmamoomaddoaaGreatDoor
open Go.RowKit Go.Sort Go.Shelf Go.Lib
section
variable {α:Type} [Inhabited α] {enc:α->List Value} {k:Nat}
theorem qE(hk:∀x,(enc x).length=k)(hk0:0 < k)(l:List α):(flatK enc k l.toArray).toList=l.flatMap enc:=by
 have d:(l.flatMap enc).length=l.length*k:=by
  rw[List.flatMap_def,dC (l.map enc) k (fun c hc=>by obtain⟨x,_,rfl⟩:=List.mem_map.1 hc;exact hk x),List.length_map]
 apply List.ext_getElem?
 intro t
 by_cases ht:t < l.length*k
 ·have b:t / k < l.length:=Nat.div_lt_of_lt_mul (by rw[Nat.mul_comm];exact ht);have a:t % k < k:=Nat.mod_lt _ hk0
  have f:t=t / k*k+t % k:=by have:=Nat.div_add_mod t k;rw[Nat.mul_comm]at this;omega
  have e:(l.map enc).flatten[t / k*k+t % k]?=(enc l[t / k])[t % k]?:=cd (l.map enc) k (t / k) (t % k) (enc l[t / k]) (fun c hc=>by obtain⟨x,_,rfl⟩:=List.mem_map.1 hc;exact hk x) (by simp[b]) a;rw[List.flatMap_def]
  conv=>rhs;rw[f,e]
  rw[Array.getElem?_toList,flatK,Array.getElem?_map,Array.getElem?_range]
  have:t % k < (enc l[t / k]).length:=by rw[hk];exact a
  simp[ht,b,this]
 ·rw[List.getElem?_eq_none (by simp;omega),List.getElem?_eq_none (by omega)]
theorem qA{w:World}{g:Nat}{cur:Array Value}{e:TypeId}{F:List Value}(hb:w.heap[g]?=some (.cells cur e (0,0)))(ht:cur.toList.take F.length=F):Holds id w g 0 F.toArray:=by
 intro j hj
 have hj':j < F.length:=by simpa using hj
 refine⟨?_,by simp[World.frozen?,hb]⟩
 have h1:(cur.toList.take F.length)[j]?=F[j]?:=by rw[ht]
 rw[List.getElem?_take_of_lt hj']at h1;simp only[World.cell?,hb,Nat.zero_add];simp only[Option.isSome_none,Bool.false_eq_true,if_false];rw[<-Array.getElem?_toList,h1]
 simp[hj']
theorem tw{w:World}{g n:Nat}{os:Array Obj}{cur:Array Value}{e:TypeId}{fr:Nat × Nat}(d:Array Value)(hb:w.heap[g]?=some (.cells cur e fr)) :
  (grow (putRow id (Sort.ahead w n) g 0 d) os).heap[g]?=some (.cells (putCells id 0 d cur) e fr):=by
 have hg:g < w.heap.size:=(Array.getElem?_eq_some_iff.1 hb).1;rw[heap_grow_old _ _ (by simpa using hg)]
 simp[putRow,mapBlock,Sort.ahead,Array.getElem?_modify,hb,onCells]
theorem qB{w:World}{g n:Nat}{os:Array Obj}(d:Array Value):w.grownBy (grow (putRow id (Sort.ahead w n) g 0 d) os) (some g):=by
 refine⟨rfl,rfl,rfl,by simp,fun k hk hne=>?_⟩;rw[heap_grow_old _ _ (by simpa using hk)];have:g≠k:=fun e=>hne (by rw[e])
 simp[putRow,mapBlock,Sort.ahead,Array.getElem?_modify,this]
theorem rP(cur:Array Value)(F:List Value)(h:F.length<=cur.size):(putCells id 0 F.toArray cur).toList.take F.length=F:=by
 apply List.ext_getElem?
 intro j
 by_cases hj:j < F.length
 ·rw[List.getElem?_take_of_lt hj,Array.getElem?_toList]
  simp[putCells,hj,show j < cur.size by omega]
 ·rw[List.getElem?_take_eq_none (by omega),List.getElem?_eq_none (by omega)]
/-- behind the sort the same slice owns the permuted list -/
theorem fU(hk:∀x,(enc x).length=k)(hk0:0 < k){w:World}{base g cap n:Nat}{e:TypeId}{os:Array Obj}{l l':List α}(h:w.ownsRow base e k (.slice (some ⟨g,0,none⟩) l.length cap) l.length (l.flatMap enc))(hl:l'.length=l.length) :
  (sortWorldK enc k w g 0 n l'.toArray os).ownsRow base e k (.slice (some ⟨g,0,none⟩) l.length cap) l.length (l'.flatMap enc)/\Kept [g] w (sortWorldK enc k w g 0 n l'.toArray os)/\HoldsK enc k w g 0 l.toArray/\g < w.heap.size:=by
 have a:∀m:List α,(m.flatMap enc).length=m.length*k:=fun m=>by
  rw[List.flatMap_def,dC (m.map enc) k (fun c hc=>by obtain⟨x,_,rfl⟩:=List.mem_map.1 hc;exact hk x),List.length_map]
 have q:∀m:List α,flatK enc k m.toArray=(m.flatMap enc).toArray:=fun m=>by rw[<-qE hk hk0 m]
 rcases h.2 with⟨p,_⟩|⟨g',cap',f,s,t,i,b,o,d,r⟩
 ·injection p with p;cases p
 ·injection s with e1 e2 e3;injection e1 with e1;injection e1 with e1 _;subst e1;subst e3;refine⟨⟨by rw[a,hl],Or.inr ⟨g,cap,putCells id 0 (l'.flatMap enc).toArray f,rfl,t,?_,b,o,by simp[putCells,d],?_⟩⟩,?_,?_,(Array.getElem?_eq_some_iff.1 i).1⟩
  ·unfold sortWorldK putRowK
   rw[q];exact tw _ i
  ·rw[<-hl,<-a];refine rP f _ ?_;rw[a,hl,d];exact Nat.mul_le_mul_right k b
  ·unfold sortWorldK putRowK
   exact Kept.of_grown (qB _) (fun j e=>by cases e;simp)
  ·unfold HoldsK
   rw[q];exact qA i (by rw[a];exact r)
end
/-- an order that tells what is less, more or alike -/
structure IsCmp {α:Type} (c:α->α->Int):Prop where
 eq0:∀a b,c a b=0↔a=b
 anti:∀a b,c a b < 0↔0 < c b a
 tr:∀a b d,c a b < 0->c b d < 0->c a d < 0
theorem IsCmp.swo{α:Type}{c:α->α->Int}(h:IsCmp c):SWO (ltOf c) where
 irrefl x:=by have:=(h.eq0 x x).2 rfl;simp[ltOf,this]
 trans x y z h1 h2:=by simp only[ltOf,decide_eq_true_eq]at *;exact h.tr x y z h1 h2
 ntrans x y z h1 h2:=by
  simp only[ltOf,decide_eq_false_iff_not]at *;intro h3
  by_cases e1:x=y
  ·subst e1;exact h2 h3
  ·have n1:c x y≠0:=fun e=>e1 ((h.eq0 x y).1 e);have n2:c y x < 0:=(h.anti y x).2 (by omega);exact h2 (h.tr y x z n2 h3)
def lex2{α β:Type}(c:α->α->Int)(d:β->β->Int)(x y:α × β):Int:=if c x.1 y.1≠0 then c x.1 y.1 else d x.2 y.2
theorem IsCmp.lex{α β:Type}{c:α->α->Int}{d:β->β->Int}(h:IsCmp c)(k:IsCmp d):IsCmp (lex2 c d) where
 eq0:=by
  rintro⟨a,j⟩ ⟨b,i⟩
  unfold lex2
  simp only[Prod.mk.injEq];have l:=h.eq0 a b;have m:=k.eq0 j i
  by_cases e:c a b=0
  ·have:=l.1 e;subst this;simp[e,m]
  ·simp[e];intro f;exact absurd (l.2 f) e
 anti:=by
  rintro⟨a,j⟩ ⟨b,i⟩
  unfold lex2
  simp only
  by_cases e:c a b=0
  ·have:=(h.eq0 a b).1 e;subst this
   simp[e,k.anti]
  ·have e':c b a≠0:=fun x=>e ((h.eq0 a b).2 ((h.eq0 b a).1 x).symm)
   simp[e,e',h.anti]
 tr:=by
  rintro⟨a,j⟩ ⟨b,i⟩ ⟨g,n⟩
  unfold lex2
  simp only
  by_cases e:c a b=0
  ·have:=(h.eq0 a b).1 e;subst this
   by_cases f:c a g=0
   ·have:=(h.eq0 a g).1 f;subst this;simp only[e,ne_eq,not_true,if_false];exact k.tr j i n
   ·simp only[e,f,ne_eq,not_true,if_false,not_false_eq_true,if_true];exact fun _ x=>x
  ·by_cases f:c b g=0
   ·have:=(h.eq0 b g).1 f;subst this;simp only[e,f,ne_eq,not_true,if_false,not_false_eq_true,if_true];exact fun x _=>x
   ·simp only[e,f,ne_eq,not_false_eq_true,if_true];intro x y;have z:=h.tr _ _ _ x y
    have:c a g≠0:=by omega
    simp[this,z]
def cmpS(a b:List UInt8):Int:=if a < b then -1 else if b < a then 1 else 0
theorem io:IsCmp cmpS where
 eq0 a b:=by
  unfold cmpS
  by_cases h:a < b
  ·simp[h];intro e;subst e;exact List.lt_irrefl a h
  ·by_cases c:b < a
   ·simp[h,c];intro e;subst e;exact h c
   ·simp[h,c];exact List.le_antisymm (List.not_lt.1 c) (List.not_lt.1 h)
 anti a b:=by
  unfold cmpS
  by_cases h:a < b
  ·have c:¬b < a:=fun x=>List.lt_irrefl a (List.lt_trans h x)
   simp[h,c]
  ·by_cases c:b < a <;> simp[h,c]
 tr a b d:=by
  unfold cmpS
  intro f c
  have i:a < b:=by
   by_cases h:a < b
   ·exact h
   ·rw[if_neg h]at f;split at f <;> omega
  have g:b < d:=by
   by_cases h:b < d
   ·exact h
   ·rw[if_neg h]at c;split at c <;> omega
  rw[if_pos (List.lt_trans i g)]
  decide
theorem xk:IsCmp Lib.compareInt where
 eq0 a b:=by unfold Lib.compareInt;split <;> (try split) <;> simp <;> omega
 anti a b:=by unfold Lib.compareInt;split <;> (try split) <;> (try split) <;> simp <;> omega
 tr a b d:=by unfold Lib.compareInt;split <;> (try split) <;> (try split) <;> (try split) <;> simp <;> omega
end Go.Proofs.YtpcmamoomaddoaaGreatDoor
