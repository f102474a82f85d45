import Derived.Test.YtcidfldeiklcjaaGreatDoorRows2
import Derived.Maps.AppendAt
import Derived.Laws.CopyOwn
import Derived.Deep.RegionLaw
set_option maxRecDepth 100000
set_option maxHeartbeats 32000000
namespace Go.Proofs.YtcidfldeiklcjaaGreatDoor
open Go.RowKit
open Go.Proofs.Tryz
def obl(v:Value):List Nat:=v.ownBlock.toList
theorem fv{v:Value}{k:Nat}(h:v.ownBlock=some k):k∈obl v:=by unfold obl;rw[h];simp
theorem cZ{v:Value}{k:Nat}(h:k∈obl v):v.ownBlock=some k:=by unfold obl at h;simpa using h
theorem Kept.of_obl{w w':World}{v:Value}(h:w.grownBy w' v.ownBlock):Kept (obl v) w w':=Kept.of_grown h fun _ h=>fv h
theorem ak{w:World}{B:Nat}{e:TypeId}{size n:Nat}{v:Value}{xs:List Value}(h:w.ownsRow B e size v n xs):∀k∈obl v,B<=k/\k < w.heap.size:=fun k hk=>h.lt k (cZ hk)
theorem af{w w':World}{S:List Nat}{B:Nat}{e:TypeId}{size n:Nat}{v:Value}{xs:List Value}(h:w.ownsRow B e size v n xs)(k:Kept S w w')(hS:∀z∈obl v,z∉S) :
  w'.ownsRow B e size v n xs:=by
 refine⟨h.1,?_⟩
 rcases h.2 with h1|⟨g',cap,cur,hv,hB,hb,r⟩
 ·exact Or.inl h1
 ·subst hv;exact Or.inr ⟨g',cap,cur,rfl,hB,(k.block g' (Array.getElem?_eq_some_iff.1 hb).1 (hS g' (fv rfl))).trans hb,r⟩
section
variable {P:Program}
theorem gA{w:World}(base:Nat)(t ty e:TypeId)(i:TypeInfo)(size:Nat)(ht:P.underlying t=some (.slice e))(hi:P.info? e=some i)
  (v:Value) (n c:Nat) (xs:List Value) (hown:w.ownsRow base e size v n xs) :
  (Builtin.append_ #[t,t] ty #[v,.slice none 0 c]).run P w=.ok v w:=by
 rcases hown.2 with⟨rfl,rfl⟩|⟨g,cap,cur,rfl,_,_,hnc,_⟩
 ·simp[Builtin.append_,run_underlying ht,sizeOf,typeInfo,hi,Builtin.lenOf,Builtin.firstCells]
 ·simp[Builtin.append_,run_underlying ht,sizeOf,typeInfo,hi,Builtin.lenOf,Builtin.firstCells,hnc,storeCells]
theorem bG{w:World}{o:Oper}{a:Act}{K:Act->World->Prop}{Q:Exit->Act->World->Prop}(s x:Operand)(t:TypeId)
  (ho:o.op=.call { callee:=.builtin .append,args:=#[s,x],argTypes:=#[t,t] })
  (base:Nat) (e:TypeId) (i:TypeInfo) (z:Value) (size bytes:Nat) (ht:P.underlying t=some (.slice e)) (hi:P.info? e=some i) (hz:i.zero=some z)
  (hsize:i.size=size) (hby:i.bytes=bytes) (hzs:z.cells.size=size) (hsz:0 < size)
  (v:Value) (n:Nat) (xs:List Value) (hs:a.eval s=v) (hown:w.ownsRow base e size v n xs)
  (u:Value) (m:Nat) (news:List Value) (hx:a.eval x=u) (hrow:Row w size u m news) (h1:∀u∈news,u.oneCell'=true)
  (h63:n+m<=maxLen) (hbytes:(n+m)*bytes<=140737488355328) (hbase:base<=w.heap.size)
  (h:∀a' c' w',w'.ownsRow base e size (.slice a' (n+m) c') (n+m) (xs++news)->Kept (obl v) w w'->(∀k∈obl (.slice a' (n+m) c'),k∈obl v\/k=w.heap.size)->K (a.put o.dst (.slice a' (n+m) c')) w'):o.wp P a w K Q:=by
 obtain⟨A,_,p,c,rfl,_,C⟩:=hrow
 cases p with
 |none =>
  have E:m=0:=by
   rcases Nat.eq_zero_or_pos m with h|h
   ·exact h
   ·obtain⟨b,off,g,_⟩:=C h
    cases g
  subst E;have y:news=[]:=List.eq_nil_of_length_eq_zero (by simpa using A);subst y;have r:=gA (P:=P) base t o.type e i size ht hi v n c xs hown;obtain⟨a',c',q⟩:=aG hown;subst q
  unfold Oper.wp execOp
  simp only[ho,resolve,invoke,builtin,Sem.run_bind,Sem.run_pure,Result.andThen_ok,List.map_toArray,List.map_cons,List.map_nil,hs,hx,r];exact h a' c' w (by simpa using hown) kr (fun k hk=>Or.inl hk)
 |some p =>
  have d:∀j u,news[j]?=some u->w.cell? (p.add j)=some u:=by
   intro j u B
   rcases Nat.eq_zero_or_pos m with h|h
   ·subst h;have y:news=[]:=List.eq_nil_of_length_eq_zero (by simpa using A);rw[y]at B;simp at B
   ·obtain⟨b,off,g,f⟩:=C h;injection g with g;subst g;rw[cP];exact f j u B
  obtain⟨v',w',r,D,F,_,l⟩:=run_append_own_at (P:=P) w base t o.type e i z size bytes ht hi hz hsize hby hzs hsz v n xs hown p m c news A d h1 h63 hbytes hbase;obtain⟨a',c',q⟩:=aG D;subst q
  unfold Oper.wp execOp
  simp only[ho,resolve,invoke,builtin,Sem.run_bind,Sem.run_pure,Result.andThen_ok,List.map_toArray,List.map_cons,List.map_nil,hs,hx,r];refine h a' c' w' D (Kept.of_obl F) (fun k hk=>?_)
  rcases l with l|l
  ·exact Or.inl (fv (l▸cZ hk))
  ·have:=cZ hk;rw[l]at this;injection this with this;exact Or.inr this.symm
end
theorem fj{w:World}{o:Oper}{a:Act}{K:Act->World->Prop}{Q:Exit->Act->World->Prop}(s x:Operand)
  (ho:o.op=.call { callee:=.builtin .append,args:=#[s,x],argTypes:=#[24,24] })
  (base:Nat) (v:Value) (n:Nat) (xs:List Int) (hs:a.eval s=v) (hown:w.ownsRow base 3 1 v n (ints xs))
  (u:Value) (m:Nat) (l:List Int) (hx:a.eval x=u) (hrow:Row w 1 u m (ints l)) (hsm:n+m<=1000000000) (hbase:base<=w.heap.size)
  (h:∀a' c' w',w'.ownsRow base 3 1 (.slice a' (n+m) c') (n+m) (ints (xs++l))->Kept (obl v) w w'->(∀k∈obl (.slice a' (n+m) c'),k∈obl v\/k=w.heap.size)->K (a.put o.dst (.slice a' (n+m) c')) w'):o.wp prog a w K Q:=by
 obtain⟨e,g,d,c,b⟩:=info_parts kj;refine bG s x 24 ho base 3 e (.int .i64 0) 1 8 underlying24 g d c b rfl (by decide) v n (ints xs) hs hown u m (ints l) hx hrow ?_ (by unfold maxLen;omega) (by omega) hbase ?_
 ·intro u f;obtain⟨y,_,rfl⟩:=List.mem_map.1 f
  rfl
 ·rw[<-show ints (xs++l)=ints xs++ints l by simp[ints]];exact h
theorem aE{w:World}{ops:Array Oper}{rest:List Oper}{o:Oper}{a:Act}{Q:Exit->Act->World->Prop}(hgd:o.guard=none)(s x:Operand)
  (ho:o.op=.call { callee:=.builtin .append,args:=#[s,x],argTypes:=#[24,24] })
  (base:Nat) (v:Value) (n:Nat) (xs:List Int) (hs:a.eval s=v) (hown:w.ownsRow base 3 1 v n (ints xs))
  (u:Value) (m:Nat) (l:List Int) (hx:a.eval x=u) (hrow:Row w 1 u m (ints l)) (hsm:n+m<=1000000000) (hbase:base<=w.heap.size)
  (h:∀a' c' w',w'.ownsRow base 3 1 (.slice a' (n+m) c') (n+m) (ints (xs++l))->Kept (obl v) w w'->(∀k∈obl (.slice a' (n+m) c'),k∈obl v\/k=w.heap.size)->wpList prog ops Q rest (a.put o.dst (.slice a' (n+m) c')) w') :
  wpList prog ops Q (o::rest) a w :=
 wpList_plain hgd fun _ hK=>fj s x ho base v n xs hs hown u m l hx hrow hsm hbase fun a' c' w' h2 h3 h4=>hK _ _ (h a' c' w' h2 h3 h4)
theorem cT{w:World}{ops:Array Oper}{o:Oper}{a:Act}{K:Act->World->Prop}{Q:Exit->Act->World->Prop}{E:Prop}(hgd:o.guard=none)(s x:Operand)
  (ho:o.op=.call { callee:=.builtin .append,args:=#[s,x],argTypes:=#[24,24] })
  (base:Nat) (v:Value) (n:Nat) (xs:List Int) (hs:a.eval s=v) (hown:w.ownsRow base 3 1 v n (ints xs))
  (u:Value) (m:Nat) (l:List Int) (hx:a.eval x=u) (hrow:Row w 1 u m (ints l)) (hsm:n+m<=1000000000) (hbase:base<=w.heap.size)
  (h:∀a' c' w',w'.ownsRow base 3 1 (.slice a' (n+m) c') (n+m) (ints (xs++l))->Kept (obl v) w w'->(∀k∈obl (.slice a' (n+m) c'),k∈obl v\/k=w.heap.size)->K (a.put o.dst (.slice a' (n+m) c')) w') :
  if Region.wanted o (yielded ops a.tmps)=true then Oper.wp prog o a w K Q else E:=by
 rw[if_pos (by simp[Region.wanted,hgd])];exact fj s x ho base v n xs hs hown u m l hx hrow hsm hbase h
theorem Row.lit(w:World)(l:List Int)(hl:l.length<=1000):Row (w.alloc (.cells (ints l).toArray 3)) 1 (.slice (some ⟨w.heap.size,0,none⟩) l.length l.length) l.length (ints l) :=
 aH (Blk.new w 3 (ints l).toArray) (by simp[ints]) (by omega)
theorem ag.one{α:Type}{R:World->List Value->α->Prop}{w:World}{a:Option Addr}{n c:Nat}{l:List α}(h:ag R 1 w (.slice a n c) l)(k:Nat)(hk:k < l.length) :
  ∃b off v,a=some ⟨b,off,none⟩/\w.cell? ⟨b,off+k,none⟩=some v/\R w [v] l[k]:=by
 obtain⟨b,off,rfl,hc⟩:=h.at_ (by omega);obtain⟨cs,h1,h2,h3⟩:=hc k _ (List.getElem?_eq_getElem hk)
 obtain⟨v,rfl⟩:∃v,cs=[v]:=by
  rcases cs with _|⟨v,_|⟨u,t⟩⟩
  ·cases h1
  ·exact⟨v,rfl⟩
  ·simp at h1
 have:=h3 0 v (by omega) rfl;rw[Nat.mul_one,Nat.add_zero]at this;exact⟨b,off,v,rfl,this,h2⟩
open Lib(hid)
def RepE(x:Int)(m:Nat)(w:World)(e:Ending)(w':World):Prop :=
 ∃b,e=.returned (.slice (some ⟨b,0,none⟩) m m)/\w.heap.size<=b/\Blk w' b 3 (List.replicate m (Value.int .i64 x)).toArray/\Kept [] w w'
theorem kS{α:Type}(cur:List α)(k j:Nat)(v:α)(hp:cur.take k=List.replicate k v)(hj:k+j<=cur.length) :
  (splice cur k (List.replicate j v)).length=cur.length/\(splice cur k (List.replicate j v)).take (k+j)=List.replicate (k+j) v:=by
 refine⟨length_splice _ _ _ (by simpa using hj),?_⟩
 unfold splice
 rw[hp,<-List.append_assoc,List.replicate_append_replicate,List.take_append_of_le_length (by simp),List.take_of_length_le (by simp)]
theorem kg(x:Int)(m:Nat)(a:Option Addr)(c:Nat)(w:World)(h:Row w 1 (.slice a 1 c) 1 (ints [x]))(h1:1<=m)(h2:m<=1000) :
  Calls prog 33 #[.slice a 1 c,.int .i64 m] w (RepE x m w):=by
 obtain⟨b,off,rfl,hc⟩:=h.at_ (by omega);have M:=hc 0 _ rfl;obtain⟨i0,hi,R,Q,P⟩:=info_parts kj
 have t:(prog.info? 3).map (·.size)=some 1:=by kernel_rfl
 have MU:=hid (fun W=>Tryz.bits_Mul 1 m (by omega) (by omega) W)
 have q1:1*m / 18446744073709551616=0:=by omega
 have q2:1*m % 18446744073709551616=m:=by omega
 rw[q1,q2]at MU;clear q1 q2 hc;have V:=World.block_lt_of_cell? _ _ M
 have d1:decide ((m:Int) < 0)=false:=by simp
 have d2:decide ((9223372036854775807:Int) < (m:Int))=false:=by simp;omega
 go_enter func33,ntmps33
 go_wp2_with (first
  |(go_at_call 68;refine(MU _).mono ?_;rintro e f ⟨rfl,rfl⟩)
  |(at_make;refine wpList_make_full _ rfl _ _ 24 rfl f.heap.size 3 i0 (.int .i64 0) 1 underlying24 hi R Q _ _ _ _ m rfl rfl rfl rfl ?b1 ?b2 (Nat.le_refl _) ?_))
 case b1=>rw[P];omega
 case b2=>unfold maxLen;omega
 intro N y A;obtain⟨U,hr⟩:=y
 rcases hr with⟨l,_⟩|⟨g,a6,J,l,I,n,a2,a5,B,T⟩
 ·cases l
 injection l with hv1 hv2 hv3;injection hv1 with hv1;injection hv1 with hv1;subst hv3;obtain⟨C,rfl⟩:∃C:List Value,J=C.toArray:=⟨J.toList,by simp⟩
 have G:C.length=m:=by simpa using B
 have q:Below f.heap.size f N:=(Below.refl _ _).grown A (Nat.le_refl _) (by simp);have s:N.cell? ⟨b,off+0,none⟩=some (.int .i64 x):=(q.cell (p:=⟨b,off+0,none⟩) V).trans M;rw[<-hv1]at n I;clear U T B A hv1 hv2;have L:=hid G;clear G M
 have N2:Hid (∀j v,[Value.int .i64 x][j]?=some v->N.cell? ((⟨b,off,none⟩:Addr).add j)=some v):=fun j v hj=>by
  match j,hj with
  |0,hj=>simp at hj;subst hj;exact s
 have N3:Hid (0+[Value.int .i64 x].length<=C.length):=by show 0+1<=C.length;rw[L.out];omega
 have N4:Hid (∀v∈[Value.int .i64 x],v.oneCell'=true):=fun v l=>by obtain rfl:=ms l;rfl
 have N1:Hid ([Value.int .i64 x].length=Nat.min 1 m):=by show 1=min 1 m;omega
 go_wp2_with (with_reducible refine wpList_copy_splice rfl (.tmp 31) (.tmp 32) 24 24 rfl 3 underlying24 t (some ⟨f.heap.size,0,none⟩) (some ⟨b,off,none⟩) m m 1 c rfl rfl f.heap.size 0 C 3 n [x] N1.out (fun _=>⟨rfl,_,rfl,N2.out⟩) N3.out N4.out f.heap.size f q (Nat.le_refl _) ?_);intro w3 HG Z;have O:=kS C 0 1 (Value.int .i64 x) (by simp) (by rw[L.out];omega);obtain⟨C1,o⟩:=nm (splice C 0 [Value.int .i64 x]);rw[o]at HG
 have s1:C1.length=m/\C1.take 1=List.replicate 1 (Value.int .i64 x):=by
  rw[<-o];exact⟨O.1.trans L.out,by simpa using O.2⟩
 have S1:=hid s1;clear O s1 o L n q s I;go_wp2_with fail
 go_loopw [8] (fun i wr=>∃(k:Nat) (D:List Value),1<=k/\k<=m/\i=.int .i64 k/\wr.heap[f.heap.size]?=some (.cells D.toArray 3 (0,0))/\D.length=m/\D.take k=List.replicate k (.int .i64 x)/\Below f.heap.size f wr) (fun i _=>m - (intOf i).toNat)
 case atStart=>exact⟨1,C1,Nat.le_refl _,h1,rfl,HG,S1.out.1,S1.out.2,Z⟩
 case round =>
  obtain⟨k,D,a4,hk,rfl,n,F,E,d⟩:=hrel;have r:=hid (And.intro F E);clear F E
  by_cases hlt:k < m
  ·go_wp2_with fail
   have N1:Hid ((List.replicate (min k (m - k)) (Value.int .i64 x)).length=Nat.min k (m - k)):=by show _=min k (m - k);simp
   have N2:Hid (∀j v,(List.replicate (min k (m - k)) (Value.int .i64 x))[j]?=some v->wr.drew.cell? ((⟨f.heap.size,0,none⟩:Addr).add j)=some v):=fun j v hj=>by
    have z:=(List.getElem?_eq_some_iff.1 hj).1;rw[List.length_replicate]at z;rw[List.getElem?_replicate,if_pos z]at hj
    have h5:(D.take k)[j]?=some v:=by rw[r.out.2,List.getElem?_replicate,if_pos (by omega)];exact hj
    rw[List.getElem?_take,if_pos (by omega)]at h5;have h6:Blk wr f.heap.size 3 D.toArray:=n;have h7:=h6.cell j;rw[List.getElem?_toArray,h5]at h7;rw[Addr.add_lit,Nat.zero_add];exact h7
   have N3:Hid (k+(List.replicate (min k (m - k)) (Value.int .i64 x)).length<=D.length):=by show _<=_;rw[List.length_replicate,r.out.1];omega
   have N4:Hid (∀v∈List.replicate (min k (m - k)) (Value.int .i64 x),v.oneCell'=true):=fun v l=>by rw[(List.mem_replicate.1 l).2];rfl
   have hg':wr.drew.heap[f.heap.size]?=some (.cells D.toArray 3 (0,0)):=n;have X:Below f.heap.size f wr.drew:=⟨d.os,d.tape,d.output,d.size,d.block⟩
   have a3:¬m=k:=by omega
   have a1:IntKind.i64.wrap ((k:Int)+((min k (m - k):Nat):Int))=((k+min k (m - k):Nat):Int):=by rw[IntKind.wrap_i64];omega
   have u:=kS D k (min k (m - k)) (Value.int .i64 x) r.out.2 (by rw[r.out.1];omega);have HS:=hid u;clear u
   go_region_law (refine step_copy_splice rfl (.tmp 41) (.tmp 44) 24 24 rfl 3 underlying24 t (some ⟨f.heap.size,k,none⟩) (some ⟨f.heap.size,0,none⟩) (m - k) (m - k) k m (by simp[Act.eval,Act.put]) (by simp[Act.eval,Act.put]) f.heap.size k D 3 hg' _ N1.out (fun _=>⟨rfl,_,rfl,N2.out⟩) N3.out N4.out f.heap.size f X (Nat.le_refl _) ?_;intro w4 a0 Y)
   simp only[List.getElem_toArray,List.getElem_cons_succ,List.getElem_cons_zero];go_frame;go_wp2
   go_roundw
   case rel=>exact⟨k+min k (m - k),_,by omega,by omega,rfl,a0.out,HS.out.1.trans r.out.1,HS.out.2,Y⟩
   case measure=>simp[intOf];omega
  ·obtain rfl:k=m:=by omega
   go_wp2_with fail;go_ret
   exact⟨_,rfl,Nat.le_refl _,by
    have:=r.2;rw[List.take_of_length_le (by rw[r.out.1];omega)]at this
    rw[<-this];exact n,⟨d.os,d.tape,d.output,d.size,fun k hk _=>d.block k hk⟩⟩
end Go.Proofs.YtcidfldeiklcjaaGreatDoor
namespace Go.Proofs.YtcidfldeiklcjaaGreatDoor.Bf
def far:Int:=1152921504606846976
abbrev Gf:=Nat->Nat->Int
def wt(g:Gf):List Nat->Int
 |a::b::l=>g a b+wt g (b::l)
 |_=>0
def du(g:Gf):List Nat->Prop
 |a::b::l=>g a b < far/\du g (b::l)
 |_=>True
structure Walk (g:Gf) (n a b:Nat) (l:List Nat):Prop where
 head:l.head?=some a
 last:l.getLast?=some b
 lt:∀x∈l,x < n
 steps:du g l
def Feas(g:Gf)(n:Nat)(t:Nat->Int):Prop:=∀a b,a < n->b < n->g a b < far->t b<=t a+g a b
variable {g:Gf} {n:Nat}
theorem cf(x:Nat):∀(l m:List Nat),wt g (l++x::m)=wt g (l++[x])+wt g (x::m)
 | [],m=>by simp[wt]
 | [a],m=>by simp[wt]
 |a::b::l,m=>by
  have ih:=cf x (b::l) m;simp only[List.cons_append]at ih ⊢;rw[wt,wt,ih];omega
theorem bf(x:Nat):∀(l m:List Nat),du g (l++x::m)↔du g (l++[x])/\du g (x::m)
 | [],m=>by simp[du]
 | [a],m=>by simp[du]
 |a::b::l,m=>by
  have ih:=bf x (b::l) m;simp only[List.cons_append]at ih ⊢;rw[du,du,ih]
  constructor
  ·rintro⟨h1,h2,h3⟩;exact⟨⟨h1,h2⟩,h3⟩
  ·rintro⟨⟨h1,h2⟩,h3⟩;exact⟨h1,h2,h3⟩
theorem gM{a:Nat}(h:a < n):Walk g n a a [a]:=⟨rfl,rfl,by simpa using h,trivial⟩
theorem eB{a b c:Nat}{l:List Nat}(h:Walk g n a b l)(hc:c < n)(he:g b c < far):Walk g n a c (l++[c])/\wt g (l++[c])=wt g l+g b c:=by
 obtain⟨m,rfl⟩:=List.getLast?_eq_some_iff.1 h.last;have hs:=h.steps
 have e1:m++[b]++[c]=m++b::[c]:=by simp
 refine⟨⟨?_,by simp,fun x hx=>?_,?_⟩,?_⟩
 ·have:=h.head
  cases m <;> simpa using this
 ·rcases List.mem_append.1 hx with hx|hx
  ·exact h.lt x hx
  ·rw[List.mem_singleton.1 hx];exact hc
 ·rw[e1,bf];exact⟨hs,he,trivial⟩
 ·rw[e1,cf]
  simp[wt]
theorem fL{t:Nat->Int}(hf:Feas g n t):∀(l:List Nat) (a b:Nat),Walk g n a b l->t b<=t a+wt g l
 | [],a,b,h=>by have:=h.head;simp at this
 | [x],a,b,h=>by
  have h1:=h.head;have h2:=h.last;simp at h1 h2;subst h1;subst h2
  simp[wt]
 |x::y::l,a,b,h=>by
  have h1:=h.head;simp at h1;subst h1;have hs:=h.steps;have ih:=fL hf (y::l) y b ⟨rfl,by simpa using h.last,fun z hz=>h.lt z (List.mem_cons_of_mem _ hz),hs.2⟩;have:=hf x y (h.lt x (by simp)) (h.lt y (by simp)) hs.1;rw[wt];omega
theorem io:∀(n:Nat) (l:List Nat),l.Nodup->(∀x∈l,x < n)->l.length<=n
 |0,[],_,_=>Nat.le_refl _
 |0,x::l,_,h=>absurd (h x (by simp)) (by omega)
 |n+1,l,hd,h=>by
  have ih:=io n (l.erase n) (hd.erase n) (fun x hx=>by
   have h1:=h x (List.mem_of_mem_erase hx)
   have h2:x≠n:=fun e=>by subst e;exact(List.Nodup.not_mem_erase hd) hx
   omega)
  rw[List.length_erase]at ih
  split at ih <;> omega
theorem fU:∀l:List Nat,¬l.Nodup->∃x p q r,l=p++x::(q++x::r)
 | [],h=>absurd List.nodup_nil h
 |a::l,h=>by
  by_cases ha:a∈l
  ·obtain⟨q,r,rfl⟩:=List.append_of_mem ha;exact⟨a,[],q,r,rfl⟩
  ·have:¬l.Nodup:=fun hn=>h (List.nodup_cons.2 ⟨ha,hn⟩);obtain⟨x,p,q,r,rfl⟩:=fU l this;exact⟨x,a::p,q,r,rfl⟩
theorem xW{t:Nat->Int}(hf:Feas g n t):∀(k:Nat) (l:List Nat) (a b:Nat),l.length=k->Walk g n a b l->∃m,m.length<=n/\Walk g n a b m/\wt g m<=wt g l:=by
 intro k
 induction k using Nat.strongRecOn with
 |_ k ih =>
  intro l a b u h
  by_cases hl:l.length<=n
  ·exact⟨l,hl,h,Int.le_refl _⟩
  ·obtain⟨x,p,q,r,rfl⟩:=fU l fun hn=>hl (io n l hn h.lt);have i:=h.steps;rw[bf]at i;have d:=i.2;rw[<-List.cons_append,bf]at d;have f:Walk g n x x (x::q++[x]):=⟨rfl,by rw[List.getLast?_append];simp,fun z c=>h.lt z (by simp at c ⊢;rcases c with c|c|c <;> simp[c]),d.1⟩;have A:=fL hf _ _ _ f
   have s:Walk g n a b (p++x::r):=by
    refine⟨?_,?_,fun z c=>h.lt z (by simp at c ⊢;rcases c with c|c|c <;> simp[c]),?_⟩
    ·have:=h.head
     cases p <;> simpa using this
    ·have:=h.last;simp only[List.getLast?_append,List.getLast?_cons]at this ⊢
     cases hr:r.getLast? with
     |none=>rw[hr]at this;simpa using this
     |some y=>rw[hr]at this;simpa using this
    ·rw[bf];exact⟨i.1,d.2⟩
   have o:wt g (p++x::(q++x::r))=wt g (p++[x])+(wt g (x::q++[x])+wt g (x::r)):=by
    have e:=cf (g:=g) x (x::q) r;rw[cf,<-e,List.cons_append]
   have j:wt g (p++x::r)=wt g (p++[x])+wt g (x::r):=cf x p r;obtain⟨m,w,v,B⟩:=ih _ (by subst u;simp;omega) (p++x::r) a b rfl s;exact⟨m,w,v,by omega⟩
def upd(o:Nat->Int)(b:Nat)(x:Int):Nat->Int:=fun v=>if v=b then x else o v
def mr(g:Gf)(n s:Nat)(o:Nat->Int):Prop:=∀v,v < n->o v=far\/(o v < far/\∃l,Walk g n s v l/\o v=wt g l)
def Reach(g:Gf)(n s k:Nat)(o:Nat->Int):Prop:=∀v l,Walk g n s v l->l.length<=k->o v<=wt g l
structure Part (g:Gf) (n:Nat) (o0 o:Nat->Int) (a b:Nat):Prop where
 le:∀v,o v<=o0 v
 did:∀u v,u < n->v < n->(u < a\/(u=a/\v < b))->g u v < far->o0 u < far->o v<=o0 u+g u v
variable {s:Nat} {o o0:Nat->Int}
theorem pm(hs:s < n):mr g n s (upd (fun _=>far) s 0):=fun v hv=>by
 by_cases e:v=s
 ·subst e;exact Or.inr ⟨by simp[upd,far],[v],gM hv,by simp[upd,wt]⟩
 ·exact Or.inl (by simp[upd,e])
theorem pL:Reach g n s 1 (upd (fun _=>far) s 0):=fun v l h hl=>by
 match l,h,hl with
 | [x],h,_ =>
  have h1:=h.head;have h2:=h.last;simp at h1 h2;subst h1;subst h2
  simp[upd,wt]
 | [],h,_=>have:=h.head;simp at this
 |_::_::_,_,hl=>simp at hl
theorem pq(hs:mr g n s o){a b:Nat}(ha:a < n)(hb:b < n)(he:g a b < far)(hoa:o a < far)(hlt:o a+g a b < o b):mr g n s (upd o b (o a+g a b)):=fun v hv=>by
 by_cases e:v=b
 ·subst e
  rcases hs a ha with h|⟨_,l,hl,hw⟩
  ·omega
  ·obtain⟨h1,h2⟩:=eB hl hb he;refine Or.inr ⟨?_,l++[v],h1,?_⟩
   ·rcases hs v hv with h|⟨h,_⟩ <;> simp[upd] <;> omega
   ·simp[upd];omega
 ·have:=hs v hv
  simpa [upd,e]using this
theorem wd{t:Nat->Int}(hf:Feas g n t)(hs:mr g n s o)(hr:Reach g n s n o){a b:Nat}(ha:a < n)(hb:b < n)(he:g a b < far)(hoa:o a < far):o b<=o a+g a b:=by
 rcases hs a ha with h|⟨_,l,hl,hw⟩
 ·omega
 ·obtain⟨h1,h2⟩:=eB hl hb he;obtain⟨m,h3,h4,h5⟩:=xW hf _ _ _ _ rfl h1;have:=hr b m h4 h3;omega
theorem rq:Part g n o o 0 0:=⟨fun _=>Int.le_refl _,fun u v _ _ h=>by omega⟩
theorem vP{a:Nat}(h:Part g n o0 o a n):Part g n o0 o (a+1) 0:=⟨h.le,fun u v hu hv hd=>h.did u v hu hv (by omega)⟩
theorem tO{a b:Nat}(h:Part g n o0 o a b)(hskip:¬(g a b < far/\o a < far/\o a+g a b < o b)):Part g n o0 o a (b+1):=⟨h.le,fun u v hu hv hd he h0=>by
 by_cases e:u < a\/(u=a/\v < b)
 ·exact h.did u v hu hv e he h0
 ·obtain⟨rfl,rfl⟩:u=a/\v=b:=by omega
  have:=h.le u
  have h1:o u < far:=by omega
  have:¬o u+g u v < o v:=fun hx=>hskip ⟨he,h1,hx⟩
  omega⟩
theorem ru{a b:Nat}(h:Part g n o0 o a b)(hlt:o a+g a b < o b):Part g n o0 (upd o b (o a+g a b)) a (b+1):=by
 have hle:∀v,upd o b (o a+g a b) v<=o v:=fun v=>by unfold upd;split <;> (try subst v) <;> omega
 refine⟨fun v=>Int.le_trans (hle v) (h.le v),fun u v hu hv hd he h0=>?_⟩
 by_cases e:u < a\/(u=a/\v < b)
 ·exact Int.le_trans (hle v) (h.did u v hu hv e he h0)
 ·obtain⟨rfl,rfl⟩:u=a/\v=b:=by omega
  have:=h.le u
  simp[upd];omega
theorem rg{k:Nat}(hr:Reach g n s k o0)(hp:Part g n o0 o n 0)(hw:∀v l,Walk g n s v l->l.length<=n->wt g l < far)(hk:k < n)(h1:1<=k):Reach g n s (k+1) o:=by
 intro v l c i
 by_cases h:l.length<=k
 ·exact Int.le_trans (hp.le v) (hr v l c h)
 ·obtain⟨m,rfl⟩:=List.getLast?_eq_some_iff.1 c.last
  have r:m.length=k:=by simp at i h;omega
  have f:m≠[]:=by intro e;subst e;simp at r;omega
  obtain⟨m',u,rfl⟩:∃m' u,m=m'++[u]:=⟨m.dropLast,m.getLast f,(List.dropLast_concat_getLast f).symm⟩;have b:=c.steps
  have p:m'++[u]++[v]=m'++u::[v]:=by simp
  rw[p,bf]at b;have j:u < n:=c.lt u (by simp);have q:v < n:=c.lt v (by simp);have a:Walk g n s u (m'++[u]):=⟨by have:=c.head;cases m' <;> simpa using this,by simp,fun x d=>c.lt x (by simp at d ⊢;rcases d with d|d <;> simp[d]),b.1⟩;have z:=hr u _ a (by omega);have y:=hw u _ a (by omega);have w:=hp.did u v j q (Or.inl j) b.2.1 (by omega)
  have t:wt g (m'++[u]++[v])=wt g (m'++[u])+g u v:=by rw[p,cf];simp[wt]
  omega
def Fix(g:Gf)(n:Nat)(o:Nat->Int):Prop:=∀u v,u < n->v < n->g u v < far->o u < far->o v<=o u+g u v
theorem zL(hp:Part g n o o n 0):Fix g n o:=fun u v hu hv he h0=>hp.did u v hu hv (Or.inl hu) he h0
structure Top (g:Gf) (n s:Nat) (o:Nat->Int):Prop where
 sound:mr g n s o
 fix:Fix g n o
 all:∀v,v < n->o v < far
 zero:o s<=0
theorem Top.feas(h:Top g n s o):Feas g n o:=fun a b ha hb he=>h.fix a b ha hb he (h.all a ha)
theorem Top.is_zero(h:Top g n s o)(hs:s < n):o s=0:=by
 rcases h.sound s hs with h1|⟨_,l,h1,h2⟩
 ·have:=h.all s hs;omega
 ·have:=fL h.feas l s s h1;have:=h.zero;omega
theorem Top.greatest(h:Top g n s o){t:Nat->Int}(hf:Feas g n t)(ht:t s=0){v:Nat}(hv:v < n):t v<=o v:=by
 rcases h.sound v hv with h1|⟨_,l,h1,h2⟩
 ·have:=h.all v hv;omega
 ·have:=fL hf l s v h1;omega
theorem Top.one{o':Nat->Int}(h:Top g n s o)(h':Top g n s o')(hs:s < n){v:Nat}(hv:v < n):o v=o' v:=by
 have h1:=h.greatest h'.feas (h'.is_zero hs) hv;have h2:=h'.greatest h.feas (h.is_zero hs) hv;omega
def turn(g:Gf):Gf:=fun a b=>g b a
theorem jx{t:Nat->Int}:Feas (turn g) n t↔Feas g n fun v=>-t v:=by
 constructor
 ·intro h a b ha hb he;have:=h b a hb ha he;unfold turn at this;simp only;omega
 ·intro h a b ha hb he;have:=h b a hb ha he;unfold turn;simp only at this;omega
end Go.Proofs.YtcidfldeiklcjaaGreatDoor.Bf
namespace Go.Proofs.YtcidfldeiklcjaaGreatDoor.Bf
variable {g:Gf} {n:Nat}
def Neg(g:Gf)(n k a:Nat):Prop:=∃l,Walk g n a a l/\l.length=k+1/\wt g l < 0
theorem eA{a b x:Nat}{p q:List Nat}(h:Walk g n a b (p++x::q)):Walk g n a x (p++[x])/\Walk g n x b (x::q)/\wt g (p++x::q)=wt g (p++[x])+wt g (x::q):=by
 have hs:=h.steps;rw[bf]at hs;refine⟨⟨?_,by simp,fun z hz=>h.lt z (by simp at hz ⊢;rcases hz with hz|hz <;> simp[hz]),hs.1⟩,⟨rfl,?_,fun z hz=>h.lt z (by simp at hz ⊢;rcases hz with hz|hz <;> simp[hz]),hs.2⟩,cf x p q⟩
 ·have:=h.head
  cases p <;> simpa using this
 ·have:=h.last;simp only[List.getLast?_append,List.getLast?_cons]at this ⊢
  cases hr:q.getLast? with
  |none=>rw[hr]at this;simpa using this
  |some y=>rw[hr]at this;simpa using this
theorem jd{a b x:Nat}{p q:List Nat}(h1:Walk g n a x (p++[x]))(h2:Walk g n x b (x::q)):Walk g n a b (p++x::q)/\wt g (p++x::q)=wt g (p++[x])+wt g (x::q):=by
 refine⟨⟨?_,?_,fun z hz=>?_,?_⟩,cf x p q⟩
 ·have:=h1.head
  cases p <;> simpa using this
 ·have:=h2.last;simp only[List.getLast?_append,List.getLast?_cons]at this ⊢
  cases hr:q.getLast? with
  |none=>rw[hr]at this;simpa using this
  |some y=>rw[hr]at this;simpa using this
 ·rcases List.mem_append.1 hz with hz|hz
  ·exact h1.lt z (by simp[hz])
  ·exact h2.lt z hz
 ·rw[bf];exact⟨h1.steps,h2.steps⟩
theorem zu:∀(k:Nat) (l:List Nat) (a b:Nat),l.length=k->Walk g n a b l->(∃m,m.length<=n/\Walk g n a b m/\wt g m<=wt g l)\/∃j x,1<=j/\j+1<=l.length/\Neg g n j x:=by
 intro k
 induction k using Nat.strongRecOn with
 |_ k ih =>
  intro l a b c h
  by_cases hl:l.length<=n
  ·exact Or.inl ⟨l,hl,h,Int.le_refl _⟩
  ·obtain⟨x,p,q,r,rfl⟩:=fU l fun hn=>hl (io n l hn h.lt);obtain⟨s,o,u⟩:=eA h;obtain⟨i,f,e⟩:=eA (p:=x::q) (x:=x) (q:=r) (by simpa using o)
   by_cases hc:wt g (x::q++[x]) < 0
   ·exact Or.inr ⟨q.length+1,x,by omega,by simp;omega,x::q++[x],i,by simp,hc⟩
   ·obtain⟨d,t⟩:=jd s f;rw[List.cons_append]at e
    rcases ih _ (by subst c;simp;omega) (p++x::r) a b rfl d with⟨m,g1,g2,g3⟩|⟨j,y,g1,g2,g3⟩
    ·exact Or.inl ⟨m,g1,g2,by omega⟩
    ·exact Or.inr ⟨j,y,g1,by simp at g2 ⊢;omega,g3⟩
theorem ng{k a:Nat}{c:List Nat}(h:Walk g n a a (c++[a]))(hl:c.length=k)(hw:wt g (c++[a]) < 0)(hmin:∀j x,1<=j->j < k->¬Neg g n j x):c.Nodup:=by
 refine Decidable.byContradiction fun hn=>?_;obtain⟨x,p,q,r,rfl⟩:=fU c hn
 have e:p++x::(q++x::r)++[a]=p++x::(q++x::(r++[a])):=by simp
 rw[e]at h hw;obtain⟨h1,h2,h3⟩:=eA h;obtain⟨h4,h5,h6⟩:=eA (p:=x::q) (x:=x) (q:=r++[a]) (by simpa using h2);rw[List.cons_append]at h6;simp at hl;have h0:¬wt g (x::q++[x]) < 0:=fun hc=>hmin (q.length+1) x (by omega) (by omega) ⟨_,h4,by simp,hc⟩;obtain⟨h7,h8⟩:=jd h1 h5;exact hmin (p.length+r.length+1) a (by omega) (by omega) ⟨_,h7,by simp;omega,by omega⟩
theorem nf{k a:Nat}(hk:1<=k)(h:Neg g n k a):∃j x,1<=j/\j<=n/\Neg g n j x:=by
 induction k using Nat.strongRecOn generalizing a with
 |_ k ih =>
  by_cases hkn:k<=n
  ·exact⟨k,a,hk,hkn,h⟩
  ·obtain⟨l,h1,h2,h3⟩:=h;obtain⟨c,rfl⟩:=List.getLast?_eq_some_iff.1 h1.last;simp at h2;refine Classical.byContradiction fun hno=>?_;have hnd:=ng h1 h2 h3 fun j x hj1 hj2 hj=>hno (ih j hj2 hj1 hj);have:=io n c hnd fun x hx=>h1.lt x (by simp[hx]);omega
def Back(g:Gf)(n k:Nat)(M:Gf):Prop:=∀a b,a < n->b < n->(M a b=far/\∀l,Walk g n a b l->l.length≠k+1) \/
 (M a b < far/\(∃l,Walk g n a b l/\l.length=k+1/\wt g l=M a b)/\∀l,Walk g n a b l->l.length=k+1->M a b<=wt g l)
theorem nN:Back g n 0 (fun a b=>if a=b then 0 else far):=by
 intro a b ha hb
 by_cases e:a=b
 ·subst e;refine Or.inr ⟨by simp[far],⟨[a],gM ha,rfl,by simp[wt]⟩,fun l _ hl=>?_⟩
  match l,hl with
  | [x],_=>simp[wt]
 ·refine Or.inl ⟨by simp[e],fun l h hl=>?_⟩
  match l,h,hl with
  | [x],h,_ =>
   have h1:=h.head;have h2:=h.last;simp at h1 h2;exact e (h1.symm.trans h2)
theorem bW{a b x:Nat}{l:List Nat}(h:Walk g n a b (a::x::l)):a < n/\x < n/\g a x < far/\Walk g n x b (x::l)/\wt g (a::x::l)=g a x+wt g (x::l) := ⟨h.lt a (by simp),h.lt x (by simp),h.steps.1,⟨rfl,by simpa using h.last,fun z hz=>h.lt z (List.mem_cons_of_mem _ hz),h.steps.2⟩,rfl⟩
theorem sZ{a b x:Nat}{l:List Nat}(ha:a < n)(he:g a x < far)(h:Walk g n x b (x::l)):Walk g n a b (a::x::l) := ⟨rfl,by simpa using h.last,fun z hz=>by rcases List.mem_cons.1 hz with rfl|hz;exact ha;exact h.lt z hz,⟨he,h.steps⟩⟩
theorem cI{a b:Nat}{l:List Nat}(h:Walk g n a b l):∃m,l=a::m:=by
 have:=h.head
 cases l with
 |nil=>simp at this
 |cons x m=>simp at this;subst this;exact⟨m,rfl⟩
def iW(g:Gf)(n k:Nat)(a b m:Nat)(x:Int):Prop:=(x=far/\∀y l,y < m->Walk g n a b (a::y::l)->l.length≠k) \/
 (x < far/\(∃y l,Walk g n a b (a::y::l)/\l.length=k/\wt g (a::y::l)=x)/\∀y l,y < m->Walk g n a b (a::y::l)->l.length=k->x<=wt g (a::y::l))
theorem rA(k a b:Nat):iW g n k a b 0 far:=Or.inl ⟨rfl,fun y l hy=>by omega⟩
theorem tR{k a b m:Nat}{x:Int}{M:Gf}(hM:Back g n k M)(hm:m < n)(hb:b < n)(h:iW g n k a b m x)(hs:far<=g a m\/far<=M m b):iW g n k a b (m+1) x:=by
 have no:∀l,Walk g n a b (a::m::l)->l.length≠k:=by
  intro l hl hk;obtain⟨_,_,h3,h4,_⟩:=bW hl
  rcases hs with hs|hs
  ·omega
  ·rcases hM m b hm hb with⟨_,h5⟩|⟨h5,_⟩
   ·exact h5 _ h4 (by simp[hk])
   ·omega
 rcases h with⟨h1,h2⟩|⟨h1,h2,h3⟩
 ·refine Or.inl ⟨h1,fun y l hy hl=>?_⟩
  by_cases e:y=m
  ·subst e;exact no l hl
  ·exact h2 y l (by omega) hl
 ·refine Or.inr ⟨h1,h2,fun y l hy hl hk=>?_⟩
  by_cases e:y=m
  ·subst e;exact absurd hk (no l hl)
  ·exact h3 y l (by omega) hl hk
theorem tQ{k a b m:Nat}{x:Int}{M:Gf}(hM:Back g n k M)(ha:a < n)(hm:m < n)(hb:b < n)(h:iW g n k a b m x)(h1:g a m < far)(h2:M m b < far)(hsum:g a m+M m b < far) :
  iW g n k a b (m+1) (min x (g a m+M m b)):=by
 rcases hM m b hm hb with⟨B,_⟩|⟨_,⟨l,o,f,s⟩,r⟩
 ·omega
 obtain⟨t,rfl⟩:=cI o;have j:=sZ ha h1 o
 have z:wt g (a::m::t)=g a m+M m b:=by rw[wt,s]
 simp at f
 have p:∀l,Walk g n a b (a::m::l)->l.length=k->g a m+M m b<=wt g (a::m::l):=by
  intro l c d;obtain⟨_,_,_,u,A⟩:=bW c;have:=r _ u (by simp[d]);omega
 rcases h with⟨q,i⟩|⟨q,⟨y,l,i,w,C⟩,v⟩
 ·subst q;refine Or.inr ⟨by omega,⟨m,t,j,f,by omega⟩,fun y l hy c d=>?_⟩
  by_cases e:y=m
  ·subst e;have:=p l c d;omega
  ·exact absurd d (i y l (by omega) c)
 ·refine Or.inr ⟨by omega,?_,fun y l hy c d=>?_⟩
  ·by_cases hc:x<=g a m+M m b
   ·exact⟨y,l,i,w,by omega⟩
   ·exact⟨m,t,j,f,by omega⟩
  ·by_cases e:y=m
   ·subst e;have:=p l c d;omega
   ·have:=v y l (by omega) c d;omega
theorem tS{k:Nat}{N:Gf}(h:∀a b,a < n->b < n->iW g n k a b n (N a b)):Back g n (k+1) N:=by
 intro a b ha hb
 rcases h a b ha hb with⟨h1,h2⟩|⟨h1,⟨y,l,h2,h3,h4⟩,h5⟩
 ·refine Or.inl ⟨h1,fun l hl hk=>?_⟩;obtain⟨t,rfl⟩:=cI hl
  match t,hl,hk with
  | [],_,hk=>simp at hk
  |y::t,hl,hk=>exact h2 y t (bW hl).2.1 hl (by simpa using hk)
 ·refine Or.inr ⟨h1,⟨_,h2,by simp[h3],h4⟩,fun l hl hk=>?_⟩;obtain⟨t,rfl⟩:=cI hl
  match t,hl,hk with
  | [],_,hk=>simp at hk
  |y::t,hl,hk=>exact h5 y t (bW hl).2.1 hl (by simpa using hk)
theorem iM{k a:Nat}{M:Gf}(hM:Back g n k M)(ha:a < n):M a a < 0↔Neg g n k a:=by
 rcases hM a a ha ha with⟨h1,h2⟩|⟨h1,⟨l,h2,h3,h4⟩,h5⟩
 ·constructor
  ·intro h;rw[h1]at h;unfold far at h;omega
  ·rintro⟨l,h3,h4,_⟩;exact absurd h4 (h2 l h3)
 ·constructor
  ·intro h;exact⟨l,h2,h3,by omega⟩
  ·rintro⟨l,h6,h7,h8⟩;have:=h5 l h6 h7;omega
def ey(g:Gf)(n:Nat)(c:List Nat):Prop:=∃a t,c=a::t/\Walk g n a a (c++[a])/\wt g (c++[a]) < 0
def After(o c:List Nat):Prop:=(∃r,c=o++r)\/∃p x y q r,o=p++x::q/\c=p++y::r/\x < y
theorem dP{c:List Nat}(h:ey g n c):∃a t,c=a::t/\Neg g n c.length a:=by
 obtain⟨a,t,rfl,h1,h2⟩:=h;exact⟨a,t,rfl,_,h1,by simp,h2⟩
structure Path (g:Gf) (n k first:Nat) (o:List Nat) (at_:Nat) (sum:Int) (left:Nat):Prop where
 walk:Walk g n first at_ o
 wt:wt g o=sum
 len:o.length+left=k
 goes:∃l,Walk g n at_ first l/\l.length=left+2/\sum+Bf.wt g l < 0
 least:∀c,ey g n c->c.length=k->After o c
def Cond(g:Gf)(M:Gf)(first at_:Nat)(sum:Int)(b:Nat):Prop:=g at_ b < far/\M b first < far/\sum+g at_ b+M b first < 0
theorem lI{k first:Nat}(hk:1<=k)(hf:first < n)(h:Neg g n k first)(hmin:∀x,x < first->¬Neg g n k x):Path g n k first [first] first 0 (k - 1):=by
 obtain⟨l,h1,h2,h3⟩:=h;refine⟨gM hf,by simp[Bf.wt],by simp;omega,⟨l,h1,by omega,by omega⟩,fun c hc hl=>?_⟩;obtain⟨a,t,rfl,h4⟩:=dP hc;rw[hl]at h4
 rcases Nat.lt_trichotomy a first with h|h|h
 ·exact absurd h4 (hmin a h)
 ·subst h;exact Or.inl ⟨t,rfl⟩
 ·exact Or.inr ⟨[],first,a,[],t,rfl,rfl,h⟩
theorem mY{k first at_ left:Nat}{o:List Nat}{sum:Int}{M:Gf}(h:Path g n k first o at_ sum (left+1))(hM:Back g n (left+1) M)(hf:first < n):∃b,b < n/\Cond g M first at_ sum b:=by
 obtain⟨l,h1,h2,h3⟩:=h.goes;obtain⟨t,rfl⟩:=cI h1
 match t,h1,h2,h3 with
 | [],_,h2,_=>simp at h2
 |b::t,h1,h2,h3 =>
  obtain⟨_,hb,he,hw,hwt⟩:=bW h1;refine⟨b,hb,he,?_⟩
  rcases hM b first hb hf with⟨_,h4⟩|⟨h4,_,h5⟩
  ·exact absurd (by simpa using h2) (h4 _ hw)
  ·have:=h5 _ hw (by simpa using h2);exact⟨h4,by omega⟩
theorem mX{k first at_ left b:Nat}{o:List Nat}{sum:Int}{M:Gf}(h:Path g n k first o at_ sum (left+1))(hM:Back g n (left+1) M)(hf:first < n)(hb:b < n)(hc:Cond g M first at_ sum b)
  (hmin:∀x,x < b->¬Cond g M first at_ sum x):Path g n k first (o++[b]) b (sum+g at_ b) left:=by
 obtain⟨O,N⟩:=eB h.walk hb hc.1;refine⟨O,by rw[N,h.wt],by have:=h.len;simp;omega,?_,fun c hcyc hl=>?_⟩
 ·rcases hM b first hb hf with⟨i,_⟩|⟨_,⟨l,f,L,v⟩,_⟩
  ·have:=hc.2.1;omega
  ·exact⟨l,f,by omega,by rw[v];have:=hc.2.2;omega⟩
 ·rcases h.least c hcyc hl with⟨r,rfl⟩|⟨p,x,y,q,r,rfl,rfl,j⟩
  ·have e:=h.len
   match r,hcyc,hl with
   | [],_,hl=>simp at hl;omega
   |y::r,hcyc,hl =>
    obtain⟨a,t,D,i,f⟩:=hcyc
    have B:a=first:=by
     have C:=h.walk.head
     cases o with
     |nil=>simp at C
     |cons z o=>simp at D C;omega
    rw[B]at i f;clear D B;obtain⟨m,rfl⟩:=List.getLast?_eq_some_iff.1 h.walk.last
    have P:m++[at_]++y::r++[first]=m++at_::(y::r++[first]):=by simp
    rw[P]at i f;obtain⟨L,v,J⟩:=eA i;obtain⟨_,E,G,A,F⟩:=bW (l:=r++[first]) (by simpa using v);have w:=h.wt;rw[List.cons_append]at J f
    have s:Cond g M first at_ sum y:=by
     refine⟨G,?_⟩;simp at hl e
     rcases hM y first E hf with⟨_,u⟩|⟨u,_,I⟩
     ·exact absurd (by simp;omega) (u _ A)
     ·have:=I _ A (by simp;omega);exact⟨u,by omega⟩
    rcases Nat.lt_trichotomy b y with d|d|d
    ·exact Or.inr ⟨m++[at_],b,y,[],r,rfl,rfl,d⟩
    ·subst d;exact Or.inl ⟨r,by simp⟩
    ·exact absurd s (hmin y d)
  ·exact Or.inr ⟨p,x,y,q++[b],r,by simp,rfl,j⟩
theorem pT{k first at_:Nat}{o:List Nat}{sum:Int}(h:Path g n k first o at_ sum 0)(hmin:∀j x,1<=j->j < k->¬Neg g n j x) :
  o.length=k/\ey g n o/\o.Nodup/\∀c,ey g n c->c.length=k->c=o\/∃p x y q r,o=p++x::q/\c=p++y::r/\x < y:=by
 have v:=h.len;obtain⟨l,a,b,d⟩:=h.goes;obtain⟨t,rfl⟩:=cI a;obtain⟨m,u⟩:=List.getLast?_eq_some_iff.1 a.last
 match t,a,b,d,u with
 | [y],a,b,d,u =>
  have e:y=first:=by have:=a.last;simpa using this
  subst e;obtain⟨_,e,A,_,f⟩:=bW a;obtain⟨w,C⟩:=eB h.walk e A;obtain⟨t,z⟩:=cI h.walk;have i:=h.wt
  have s:wt g (o++[y]) < 0:=by rw[f]at d;simp[wt]at d;omega
  refine⟨by omega,⟨y,t,z,w,s⟩,ng w (by omega) s hmin,fun c hc hl=>?_⟩
  rcases h.least c hc hl with⟨r,rfl⟩|B
  ·have:r=[]:=List.eq_nil_of_length_eq_zero (by simp at hl;omega);subst this;exact Or.inl (by simp)
  ·exact Or.inr B
 | [],a,b,_,_=>simp at b
 |_::_::_,_,b,_,_=>simp at b
end Go.Proofs.YtcidfldeiklcjaaGreatDoor.Bf
