/- Signatures: an exponent of a setup; the challenge. -/
import Derived.Test.YtpcdfepndmconaaGreatDoorRdS
import Derived.Test.YtpcdfepndmconaaGreatDoorSize
import Derived.Laws.OwnMore
import Derived.Maps.AppendAt
import Derived.Laws.IdiomStrings
import Derived.Test.YtpcdfepndmconaaGreatDoorZop
import Derived.Test.YtpcdfepndmconaaGreatDoorKnu
import Derived.Deep.RegionHeld3
import Derived.Test.YtpcdfepndmconaaGreatDoorRf3
/- JOINED: Rows2 App Sr1 Sr2 Sh4 Sr3 Sr4 Num Rnum Seats Min Gov Gov2 Few Same Sane Sg1 -/
/- Slices of things: what a slice of structs, of slices, of strings reads as. -/
namespace Go.Proofs.YtpcdfepndmconaaGreatDoor
open Go.RowKit
/-- a slice whose elements, of m cells each, stand for the members of a list -/
def RowOf {α:Type} (R:World→List Value→α→Prop) (m:Nat) (w:World) (u:Value) (l:List α):Prop :=
 ∃ vs:List (List Value),vs.length=l.length∧(∀ c∈vs,c.length=m)∧(∀ (k:Nat) a,l[k]?=some a→∃ c,vs[k]?=some c∧R w c a)∧Row w m u l.length vs.flatten
theorem flatten_get {α:Type}:∀ (vs:List (List α)) (m k j:Nat) (c:List α),(∀ c∈vs,c.length=m)→vs[k]?=some c→j < m→vs.flatten[k*m+j]?=c[j]?
 | [],_,_,_,_,_,h,_=>by simp at h
 | a::vs,m,0,j,c,hm,h,hj=>by
  simp at h;subst h;have:=hm a (by simp);rw [Nat.zero_mul,Nat.zero_add,List.flatten_cons,List.getElem?_append_left (by omega)]
 | a::vs,m,k+1,j,c,hm,h,hj=>by
  have h1:=hm a (by simp)
  have h2:vs[k]?=some c:=by simpa using h
  rw [List.flatten_cons,List.getElem?_append_right (by rw [h1,Nat.add_mul];omega),h1,show (k+1)*m+j - m=k*m+j by rw [Nat.add_mul];omega];exact flatten_get vs m k j c (fun c hc=>hm c (by simp [hc])) h2 hj
theorem flatten_len {α:Type}:∀ (vs:List (List α)) (m:Nat),(∀ c∈vs,c.length=m)→vs.flatten.length=vs.length*m
 | [],m,_=>by simp
 | a::vs,m,hm=>by
  rw [List.flatten_cons,List.length_append,hm a (by simp),flatten_len vs m (fun c hc=>hm c (by simp [hc])),List.length_cons,Nat.add_mul];omega
section
variable {α:Type} {R:World→List Value→α→Prop} {m:Nat} {w w':World} {u:Value} {l:List α}
theorem RowOf.kept (h:RowOf R m w u l) (hR:∀ c a,R w c a→R w' c a) (k:Kept [] w w'):RowOf R m w' u l:=by
 obtain ⟨vs,h1,h2,h3,h4⟩:=h;exact ⟨vs,h1,h2,fun i a ha=>by obtain ⟨c,h5,h6⟩:=h3 i a ha;exact ⟨c,h5,hR c a h6⟩,h4.kept k⟩
theorem RowOf.form (h:RowOf R m w u l):∃ a c,u=.slice a l.length c∧l.length≤9223372036854775807∧l.length≤c:=by
 obtain ⟨vs,_,_,_,h4⟩:=h;exact h4.form
/-- the cells of one element -/
theorem RowOf.at_ {a:Option Addr} {n c:Nat} (h:RowOf R m w (.slice a n c) l) (hp:0 < l.length) :
  ∃ b off,a=some ⟨b,off,none⟩∧∀ (k:Nat) x,l[k]?=some x→∃ cs:List Value,cs.length=m∧R w cs x∧∀ (j:Nat) v,j < m→cs[j]?=some v→w.cell? ⟨b,off+(k*m+j),none⟩=some v:=by
 obtain ⟨vs,h1,h2,h3,h4⟩:=h;obtain ⟨b,off,ha,hc⟩:=h4.at_ hp;refine ⟨b,off,ha,fun k x hx=>?_⟩;obtain ⟨cs,h5,h6⟩:=h3 k x hx;refine ⟨cs,h2 cs (List.mem_of_getElem? h5),h6,fun j v hj hv=>?_⟩;exact hc (k*m+j) v ((flatten_get vs m k j cs h2 h5 hj).trans hv)
theorem RowOf.nil_ (R:World→List Value→α→Prop) (m:Nat) (w:World):RowOf R m w (.slice none 0 0) [] :=
 ⟨[],rfl,by simp,by simp,⟨by simp,by simp,_,_,rfl,by simp,fun h=>absurd h (by simp)⟩⟩
/-- an owned row is such a slice -/
theorem RowOf.of_own {B:Nat} {e:TypeId} {vs:List (List Value)} (h:w.ownsRow B e m u l.length vs.flatten) (h1:vs.length=l.length) (h2:∀ c∈vs,c.length=m)
  (h3:∀ (k:Nat) a,l[k]?=some a→∃ c,vs[k]?=some c∧R w c a) (hn:l.length≤9223372036854775807):RowOf R m w u l :=
 ⟨vs,h1,h2,h3,Row.of_own h hn⟩
end
theorem row_of_blk {w:World} {b:Nat} {T:TypeId} {size n:Nat} {cs:List Value} (h:Blk w b T cs.toArray) (hl:cs.length=n*size) (hn:n≤9223372036854775807) :
  Row w size (.slice (some ⟨b,0,none⟩) n n) n cs:=by
 refine ⟨hl,hn,_,_,rfl,Nat.le_refl _,fun _=>⟨_,_,rfl,fun k u hu=>?_⟩⟩;rw [Nat.zero_add,h.cell k]
 simpa using hu
/-! ### the element relations -/
open Tape (Tick Spnd Lnk Pf Rec Pss Tsk)
def ListR (w:World) (c:List Value) (l:List Int):Prop:=∃ v,c=[v]∧Row w 1 v l.length (ints l)
def tickC (t:Tick):List Value:=[.int .i64 t.1,.int .i64 t.2.1,.int .i64 t.2.2.1,.int .i64 t.2.2.2.1,.int .i64 t.2.2.2.2.1,.int .i64 t.2.2.2.2.2]
def TickR (_:World) (c:List Value) (t:Tick):Prop:=c=tickC t
def SpndR (w:World) (c:List Value) (x:Spnd):Prop:=∃ v,c=[.int .i64 x.1,v]∧Row w 1 v x.2.length (ints x.2)
def LnkR (w:World) (c:List Value) (x:Lnk × List UInt8):Prop:=∃ v,c=tickC x.1.1++[.int .i64 x.1.2.1,v,.string ⟨x.2.toArray⟩]∧Row w 1 v x.1.2.2.length (ints x.1.2.2)
def LnksR (w:World) (c:List Value) (l:List (Lnk × List UInt8)):Prop:=∃ v,c=[v]∧RowOf LnkR 9 w v l
def ListsR (w:World) (c:List Value) (l:List (List Int)):Prop:=∃ v,c=[v]∧RowOf ListR 1 w v l
section
variable {w w':World} {c:List Value}
theorem ListR.kept {l:List Int} (h:ListR w c l) (k:Kept [] w w'):ListR w' c l:=by obtain ⟨v,h1,h2⟩:=h;exact ⟨v,h1,h2.kept k⟩
theorem SpndR.kept {x:Spnd} (h:SpndR w c x) (k:Kept [] w w'):SpndR w' c x:=by obtain ⟨v,h1,h2⟩:=h;exact ⟨v,h1,h2.kept k⟩
theorem LnkR.kept {x:Lnk × List UInt8} (h:LnkR w c x) (k:Kept [] w w'):LnkR w' c x:=by obtain ⟨v,h1,h2⟩:=h;exact ⟨v,h1,h2.kept k⟩
theorem LnksR.kept {l:List (Lnk × List UInt8)} (h:LnksR w c l) (k:Kept [] w w'):LnksR w' c l:=by obtain ⟨v,h1,h2⟩:=h;exact ⟨v,h1,RowOf.kept h2 (fun _ _ x=>LnkR.kept x k) k⟩
theorem ListsR.kept {l:List (List Int)} (h:ListsR w c l) (k:Kept [] w w'):ListsR w' c l:=by obtain ⟨v,h1,h2⟩:=h;exact ⟨v,h1,RowOf.kept h2 (fun _ _ x=>ListR.kept x k) k⟩
end
/-- a record's value: the nine slices -/
structure RecS (w:World) (tk sp lk cm ch bt es da an:Value) (r:Rec):Prop where
 tk:RowOf TickR 6 w tk r.tickets
 sp:RowOf SpndR 2 w sp r.spends
 lk:RowOf LnksR 1 w lk r.links
 cm:Row w 1 cm r.commits.length (ints r.commits)
 ch:Row w 1 ch r.chain.length (ints r.chain)
 bt:RowOf ListR 1 w bt r.bits
 es:Row w 1 es r.escrow.length (ints r.escrow)
 da:RowOf ListR 1 w da r.proof.dares
 an:RowOf ListsR 1 w an r.proof.answers
def RecV (w:World) (v:Value) (r:Rec):Prop:=∃ tk sp lk cm ch bt es da an,v=.agg #[tk,sp,lk,cm,ch,bt,es,da,an]∧RecS w tk sp lk cm ch bt es da an r
theorem RecS.kept {w w':World} {tk sp lk cm ch bt es da an:Value} {r:Rec} (h:RecS w tk sp lk cm ch bt es da an r) (k:Kept [] w w'):RecS w' tk sp lk cm ch bt es da an r :=
 ⟨RowOf.kept h.tk (fun _ _ x=>x) k,RowOf.kept h.sp (fun _ _ x=>SpndR.kept x k) k,RowOf.kept h.lk (fun _ _ x=>LnksR.kept x k) k,h.cm.kept k,h.ch.kept k,
  RowOf.kept h.bt (fun _ _ x=>ListR.kept x k) k,h.es.kept k,RowOf.kept h.da (fun _ _ x=>ListR.kept x k) k,RowOf.kept h.an (fun _ _ x=>ListsR.kept x k) k⟩
theorem RecV.kept {w w':World} {v:Value} {r:Rec} (h:RecV w v r) (k:Kept [] w w'):RecV w' v r:=by
 obtain ⟨tk,sp,lk,cm,ch,bt,es,da,an,h1,h2⟩:=h;exact ⟨tk,sp,lk,cm,ch,bt,es,da,an,h1,h2.kept k⟩
end Go.Proofs.YtpcdfepndmconaaGreatDoor
/- append onto a slice of the call's own: a row of ints behind it; where the new slice lies. -/
namespace Go.Proofs.YtpcdfepndmconaaGreatDoor
open Go.RowKit
/-- the block of a slice's array -/
def obl (v:Value):List Nat:=v.ownBlock.toList
theorem obl_some {v:Value} {k:Nat} (h:v.ownBlock=some k):k∈obl v:=by unfold obl;rw [h];simp
theorem obl_mem {v:Value} {k:Nat} (h:k∈obl v):v.ownBlock=some k:=by unfold obl at h;simpa using h
theorem Kept.of_obl {w w':World} {v:Value} (h:w.grownBy w' v.ownBlock):Kept (obl v) w w':=Kept.of_grown h fun _ h=>obl_some h
theorem own_ge {w:World} {B:Nat} {e:TypeId} {size n:Nat} {v:Value} {xs:List Value} (h:w.ownsRow B e size v n xs):∀ k∈obl v,B≤k∧k < w.heap.size:=fun k hk=>h.lt k (obl_mem hk)
theorem own_keep {w w':World} {S:List Nat} {B:Nat} {e:TypeId} {size n:Nat} {v:Value} {xs:List Value} (h:w.ownsRow B e size v n xs) (k:Kept S w w') (hS:∀ z∈obl v,z∉S) :
  w'.ownsRow B e size v n xs:=by
 refine ⟨h.1,?_⟩
 rcases h.2 with h1|⟨g',cap,cur,hv,hB,hb,r⟩
 ·exact Or.inl h1
 ·subst hv;exact Or.inr ⟨g',cap,cur,rfl,hB,(k.block g' (Array.getElem?_eq_some_iff.1 hb).1 (hS g' (obl_some rfl))).trans hb,r⟩
section
variable {P:Program}
theorem run_append_nothing {w:World} (base:Nat) (t ty e:TypeId) (i:TypeInfo) (size:Nat) (ht:P.underlying t=some (.slice e)) (hi:P.info? e=some i)
  (v:Value) (n c:Nat) (xs:List Value) (hown:w.ownsRow base e size v n xs) :
  (Builtin.append_ #[t,t] ty #[v,.slice none 0 c]).run P w=.ok v w:=by
 rcases hown.2 with ⟨rfl,rfl⟩|⟨g,cap,cur,rfl,_,_,hnc,_⟩
 ·simp [Builtin.append_,run_underlying ht,sizeOf,typeInfo,hi,Builtin.lenOf,Builtin.firstCells]
 ·simp [Builtin.append_,run_underlying ht,sizeOf,typeInfo,hi,Builtin.lenOf,Builtin.firstCells,hnc,storeCells]
theorem wp_append_row {w:World} {o:Oper} {a:Act} {K:Act→World→Prop} {Q:Exit→Act→World→Prop} (s x:Operand) (t:TypeId)
  (ho:o.op=.call { callee:=.builtin .append,args:=#[s,x],argTypes:=#[t,t] })
  (base:Nat) (e:TypeId) (i:TypeInfo) (z:Value) (size bytes:Nat) (ht:P.underlying t=some (.slice e)) (hi:P.info? e=some i) (hz:i.zero=some z)
  (hsize:i.size=size) (hby:i.bytes=bytes) (hzs:z.cells.size=size) (hsz:0 < size)
  (v:Value) (n:Nat) (xs:List Value) (hs:a.eval s=v) (hown:w.ownsRow base e size v n xs)
  (u:Value) (m:Nat) (news:List Value) (hx:a.eval x=u) (hrow:Row w size u m news) (h1:∀ u∈news,u.oneCell'=true)
  (h63:n+m≤maxLen) (hbytes:(n+m)*bytes≤140737488355328) (hbase:base≤w.heap.size)
  (h:∀ a' c' w',w'.ownsRow base e size (.slice a' (n+m) c') (n+m) (xs++news)→Kept (obl v) w w'→(∀ k∈obl (.slice a' (n+m) c'),k∈obl v∨k=w.heap.size)→K (a.put o.dst (.slice a' (n+m) c')) w'):o.wp P a w K Q:=by
 obtain ⟨hl,_,ad,c,rfl,_,hc⟩:=hrow
 cases ad with
 | none =>
  have hm:m=0:=by
   rcases Nat.eq_zero_or_pos m with h|h
   ·exact h
   ·obtain ⟨b,off,hb,_⟩:=hc h
    cases hb
  subst hm;have hn:news=[]:=List.eq_nil_of_length_eq_zero (by simpa using hl);subst hn;have hr:=run_append_nothing (P:=P) base t o.type e i size ht hi v n c xs hown;obtain ⟨a',c',hv⟩:=own_form hown;subst hv
  unfold Oper.wp execOp
  simp only [ho,resolve,invoke,builtin,Sem.run_bind,Sem.run_pure,Result.andThen_ok,List.map_toArray,List.map_cons,List.map_nil,hs,hx,hr];exact h a' c' w (by simpa using hown) (Kept.refl _ _) (fun k hk=>Or.inl hk)
 | some ad =>
  have hnews:∀ j u,news[j]?=some u→w.cell? (ad.add j)=some u:=by
   intro j u hj
   rcases Nat.eq_zero_or_pos m with h|h
   ·subst h;have hn:news=[]:=List.eq_nil_of_length_eq_zero (by simpa using hl);rw [hn] at hj;simp at hj
   ·obtain ⟨b,off,hb,hcell⟩:=hc h;injection hb with hb;subst hb;rw [add_cell];exact hcell j u hj
  obtain ⟨v',w',hr,h2,h3,_,h5⟩:=run_append_own_at (P:=P) w base t o.type e i z size bytes ht hi hz hsize hby hzs hsz v n xs hown ad m c news hl hnews h1 h63 hbytes hbase;obtain ⟨a',c',hv⟩:=own_form h2;subst hv
  unfold Oper.wp execOp
  simp only [ho,resolve,invoke,builtin,Sem.run_bind,Sem.run_pure,Result.andThen_ok,List.map_toArray,List.map_cons,List.map_nil,hs,hx,hr];refine h a' c' w' h2 (Kept.of_obl h3) (fun k hk=>?_)
  rcases h5 with h5|h5
  ·exact Or.inl (obl_some (h5▸obl_mem hk))
  ·have:=obl_mem hk;rw [h5] at this;injection this with this;exact Or.inr this.symm
end
/-- a row of ints behind a slice of ints -/
theorem wp_append_ints {w:World} {o:Oper} {a:Act} {K:Act→World→Prop} {Q:Exit→Act→World→Prop} (s x:Operand)
  (ho:o.op=.call { callee:=.builtin .append,args:=#[s,x],argTypes:=#[24,24] })
  (base:Nat) (v:Value) (n:Nat) (xs:List Int) (hs:a.eval s=v) (hown:w.ownsRow base 3 1 v n (ints xs))
  (u:Value) (m:Nat) (l:List Int) (hx:a.eval x=u) (hrow:Row w 1 u m (ints l)) (hsm:n+m≤1000000000) (hbase:base≤w.heap.size)
  (h:∀ a' c' w',w'.ownsRow base 3 1 (.slice a' (n+m) c') (n+m) (ints (xs++l))→Kept (obl v) w w'→(∀ k∈obl (.slice a' (n+m) c'),k∈obl v∨k=w.heap.size)→K (a.put o.dst (.slice a' (n+m) c')) w'):o.wp Tryz.prog a w K Q:=by
 obtain ⟨i0,hi,hz0,hz1,hz2⟩:=info_parts infoInt;refine wp_append_row s x 24 ho base 3 i0 (.int .i64 0) 1 8 Tryz.underlying24 hi hz0 hz1 hz2 rfl (by decide) v n (ints xs) hs hown u m (ints l) hx hrow ?_ (by unfold maxLen;omega) (by omega) hbase ?_
 ·intro u hu;obtain ⟨y,_,rfl⟩:=List.mem_map.1 hu
  rfl
 ·rw [←show ints (xs++l)=ints xs++ints l by simp [ints]];exact h
theorem wpList_append_ints {w:World} {ops:Array Oper} {rest:List Oper} {o:Oper} {a:Act} {Q:Exit→Act→World→Prop} (hgd:o.guard=none) (s x:Operand)
  (ho:o.op=.call { callee:=.builtin .append,args:=#[s,x],argTypes:=#[24,24] })
  (base:Nat) (v:Value) (n:Nat) (xs:List Int) (hs:a.eval s=v) (hown:w.ownsRow base 3 1 v n (ints xs))
  (u:Value) (m:Nat) (l:List Int) (hx:a.eval x=u) (hrow:Row w 1 u m (ints l)) (hsm:n+m≤1000000000) (hbase:base≤w.heap.size)
  (h:∀ a' c' w',w'.ownsRow base 3 1 (.slice a' (n+m) c') (n+m) (ints (xs++l))→Kept (obl v) w w'→(∀ k∈obl (.slice a' (n+m) c'),k∈obl v∨k=w.heap.size)→wpList Tryz.prog ops Q rest (a.put o.dst (.slice a' (n+m) c')) w') :
  wpList Tryz.prog ops Q (o::rest) a w :=
 wpList_plain hgd fun _ hK=>wp_append_ints s x ho base v n xs hs hown u m l hx hrow hsm hbase fun a' c' w' h2 h3 h4=>hK _ _ (h a' c' w' h2 h3 h4)
theorem step_append_ints {w:World} {ops:Array Oper} {o:Oper} {a:Act} {K:Act→World→Prop} {Q:Exit→Act→World→Prop} {E:Prop} (hgd:o.guard=none) (s x:Operand)
  (ho:o.op=.call { callee:=.builtin .append,args:=#[s,x],argTypes:=#[24,24] })
  (base:Nat) (v:Value) (n:Nat) (xs:List Int) (hs:a.eval s=v) (hown:w.ownsRow base 3 1 v n (ints xs))
  (u:Value) (m:Nat) (l:List Int) (hx:a.eval x=u) (hrow:Row w 1 u m (ints l)) (hsm:n+m≤1000000000) (hbase:base≤w.heap.size)
  (h:∀ a' c' w',w'.ownsRow base 3 1 (.slice a' (n+m) c') (n+m) (ints (xs++l))→Kept (obl v) w w'→(∀ k∈obl (.slice a' (n+m) c'),k∈obl v∨k=w.heap.size)→K (a.put o.dst (.slice a' (n+m) c')) w') :
  if Region.wanted o (yielded ops a.tmps)=true then Oper.wp Tryz.prog o a w K Q else E:=by
 rw [if_pos (by simp [Region.wanted,hgd])];exact wp_append_ints s x ho base v n xs hs hown u m l hx hrow hsm hbase h
/-- the row that a slice literal lays -/
theorem Row.lit (w:World) (l:List Int) (hl:l.length≤1000):Row (w.alloc (.cells (ints l).toArray 3)) 1 (.slice (some ⟨w.heap.size,0,none⟩) l.length l.length) l.length (ints l) :=
 row_of_blk (Blk.new w 3 (ints l).toArray) (by simp [ints]) (by omega)
/-- a fixed answer, all old memory kept -/
def Ret (v:Value) (w:World) (e:Ending) (w':World):Prop:=e=.returned v∧Kept [] w w'
theorem Kept.cell0 {S:List Nat} {w0 w1 w':World} {p:Addr} {v:Value} (k:Kept S w1 w') (h:w0.cell? p=some v) (h0:Kept [] w0 w1) (hS:∀ z∈S,w0.heap.size≤z):w'.cell? p=some v :=
 ((h0.fresh k hS).cell (World.block_lt_of_cell? w0 p h) (by simp)).trans h
/-- the one cell of an element of size one -/
theorem RowOf.one {α:Type} {R:World→List Value→α→Prop} {w:World} {a:Option Addr} {n c:Nat} {l:List α} (h:RowOf R 1 w (.slice a n c) l) (k:Nat) (hk:k < l.length) :
  ∃ b off v,a=some ⟨b,off,none⟩∧w.cell? ⟨b,off+k,none⟩=some v∧R w [v] l[k]:=by
 obtain ⟨b,off,rfl,hc⟩:=h.at_ (by omega);obtain ⟨cs,h1,h2,h3⟩:=hc k _ (List.getElem?_eq_getElem hk)
 obtain ⟨v,rfl⟩:∃ v,cs=[v]:=by
  rcases cs with _|⟨v,_|⟨u,t⟩⟩
  ·cases h1
  ·exact ⟨v,rfl⟩
  ·simp at h1
 have:=h3 0 v (by omega) rfl;rw [Nat.mul_one,Nat.add_zero] at this;exact ⟨b,off,v,rfl,this,h2⟩
end Go.Proofs.YtpcdfepndmconaaGreatDoor
/- The hash function's message schedule, as the reference makes it. -/
namespace Go.Proofs.YtpcdfepndmconaaGreatDoor
open Go.RowKit ShaP
end Go.Proofs.YtpcdfepndmconaaGreatDoor
/- The hash function's compression, as the reference does it. -/
namespace Go.Proofs.YtpcdfepndmconaaGreatDoor
open Go.RowKit ShaP
end Go.Proofs.YtpcdfepndmconaaGreatDoor
/- The hash function, as the program computes it. -/
namespace Go.Proofs.YtpcdfepndmconaaGreatDoor
open Go.RowKit ShaP
theorem u8_of (X:Nat):IntKind.u8.wrap (X:Int)=((UInt8.ofNat X).toNat:Int):=by
 simp [IntKind.wrap,IntKind.bits,IntKind.signed]
theorem conv_back (w:World) (b cap:Nat) (l:List UInt8) (hc:∀ j (h:j < l.length),w.cell? ⟨b,j,none⟩=some (.int .u8 (l[j].toNat:Int))) :
  (convert 202 9 (.slice (some ⟨b,0,none⟩) l.length cap)).run Tryz.prog w=.ok (.string ⟨l.toArray⟩) w :=
 run_convert_bytes_back w 202 9 5 ⟨b,0,none⟩ cap l Tryz.underlying202 Tryz.underlying5 Tryz.underlying9 (fun j hj=>by rw [add_cell,Nat.zero_add];exact hc j hj)
end Go.Proofs.YtpcdfepndmconaaGreatDoor
/- The hash function's padding and the hash, as the reference makes them. -/
namespace Go.Proofs.YtpcdfepndmconaaGreatDoor
open Go.RowKit ShaP
end Go.Proofs.YtpcdfepndmconaaGreatDoor
/- The hash, as the reference makes it. -/
namespace Go.Proofs.YtpcdfepndmconaaGreatDoor
open Go.RowKit ShaP
end Go.Proofs.YtpcdfepndmconaaGreatDoor
/- A number out of a hash: the program's and the reference's way. -/
namespace Go.Proofs.YtpcdfepndmconaaGreatDoor
open Go.RowKit ShaP
end Go.Proofs.YtpcdfepndmconaaGreatDoor
/- A number out of a hash, as the reference makes it. -/
namespace Go.Proofs.YtpcdfepndmconaaGreatDoor
open Go.RowKit ShaP
theorem index_str (bs:List UInt8) (k:Nat) (hk:k < bs.length) (w:World):(Instr.index 9 (.string ⟨bs.toArray⟩) (.int .i64 k)).run Tryz.prog w=.ok (.int .u8 ((bs.getD k 0).toNat:Int)) w:=by
 rw [run_index_string _ _ _ _ _ Tryz.underlying9,dif_pos ⟨by omega,by show (k:Int) < (bs.length:Int);omega⟩]
 have:(⟨bs.toArray⟩:ByteArray)[(k:Int).toNat]'(by show _ < bs.length;omega)=bs.getD k 0:=by
  show bs.toArray[(k:Int).toNat]'_=_
  simp [List.getD,hk]
 rw [this]
end Go.Proofs.YtpcdfepndmconaaGreatDoor
/- inquiry.Seats. -/
namespace Go.Proofs.YtpcdfepndmconaaGreatDoor
open Go.RowKit
end Go.Proofs.YtpcdfepndmconaaGreatDoor
/- inquiry.Minutes, ReadMinutes; cloakref10.SameOpening. -/
namespace Go.Proofs.YtpcdfepndmconaaGreatDoor
open Go.RowKit
end Go.Proofs.YtpcdfepndmconaaGreatDoor
/- Lists of statutes: governing, Governs. -/
namespace Go.Proofs.YtpcdfepndmconaaGreatDoor
open Go.RowKit
/-! ### governing -/
end Go.Proofs.YtpcdfepndmconaaGreatDoor
/- Governs, the example statute, a list of one statute. -/
namespace Go.Proofs.YtpcdfepndmconaaGreatDoor
open Go.RowKit
end Go.Proofs.YtpcdfepndmconaaGreatDoor
/- The documents' bounds on statutes: FewStatutes. -/
namespace Go.Proofs.YtpcdfepndmconaaGreatDoor
open Go.RowKit
end Go.Proofs.YtpcdfepndmconaaGreatDoor
/- SameOpening. -/
namespace Go.Proofs.YtpcdfepndmconaaGreatDoor
open Go.RowKit
end Go.Proofs.YtpcdfepndmconaaGreatDoor
/- The example of the law: sane. -/
namespace Go.Proofs.YtpcdfepndmconaaGreatDoor
open Go.RowKit
end Go.Proofs.YtpcdfepndmconaaGreatDoor
namespace Go.Proofs.YtpcdfepndmconaaGreatDoor
open Go.RowKit ShaP
def expoB (s:Stp) (n:Int):Bool:=decide (0≤n)&&decide (n < s.Q)
set_option maxRecDepth 100000 in
theorem rexponent_any (v:Value) (s:Stp) (n:Int) (w:World) (h:StpV w v s) :
  Calls Tryz.prog 90 #[v,.int .i64 n] w fun e w'=>e=.returned (.bool (expoB s n))∧Kept [] w w':=by
 obtain ⟨⟨a,c,rfl,hrow⟩,ip,iq,ig,ib,il⟩:=h;obtain ⟨W,hW⟩:∃ W,w.alloc (.cells (stpA s (.slice a s.bases.length c)) 26)=W:=⟨_,rfl⟩;have hb:Blk W w.heap.size 26 (stpA s (.slice a s.bases.length c)):=hW▸Blk.new _ _ _;have hkW:Kept [] w W:=hW▸(Kept.refl _ _).alloc _;have e1:W.cell? ⟨w.heap.size,1,none⟩=some (.int .i64 s.Q):=hb.cell 1;have HW:=Lib.hid hW
 unfold expoB
 clear hb hW hrow ib
 by_cases h0:0≤n
 ·rw [decide_eq_true h0,Bool.true_and]
  have d0:decide (0≤n)=true:=by simpa using h0
  go_enter Tryz.func90,Tryz.ntmps90
  go_upto_region 1 with (fail);rw [HW.out];go_wp2_with fail;go_ret;exact ⟨rfl,hkW⟩
 ·rw [decide_eq_false h0,Bool.false_and]
  have d0:decide (0≤n)=false:=by simpa using h0
  go_enter Tryz.func90,Tryz.ntmps90
  go_upto_region 1 with (fail);rw [HW.out];go_wp2_with fail;go_ret;exact ⟨rfl,hkW⟩
end Go.Proofs.YtpcdfepndmconaaGreatDoor
