import Derived.Test.YtcidfldeiklcjaaGreatDoorIns
import Derived.Lib.AppendZerosOnto
set_option maxRecDepth 100000
set_option maxHeartbeats 32000000
namespace Go.Proofs.YtcidfldeiklcjaaGreatDoor
open Go.RowKit Tm
open Go.Proofs.Tryz
open Lib(hid)
theorem fc:(prog.info? 52).map (fun i=>(i.zero,i.size,i.bytes))=some (some (.agg #[.int .i64 0,.int .i64 0,.int .i64 0,.int .i64 0,(),.string ⟨#[]⟩,.int .i64 0,.int .i64 0]),8,88):=by kernel_rfl
def bN:Value:=.agg #[.int .i64 0,.int .i64 0,.int .i64 0,.int .i64 0,(),.string ⟨#[]⟩,.int .i64 0,.int .i64 0]
def zl8(m:Nat):List Value:=(Builtin.zeroCells bN.cells m).toList
theorem xP(m:Nat):(zl8 m).length=m*8:=by simp[zl8,Builtin.zeroCells,bN,Value.cells]
theorem xO(m:Nat):∀v∈zl8 m,v.oneCell'=true:=by
 intro v hv
 unfold zl8 at hv
 rw[Array.mem_toList_iff]at hv
 unfold Builtin.zeroCells at hv
 rw[Array.mem_map]at hv;obtain⟨i,_,rfl⟩:=hv
 have:∀j,j < 8->(bN.cells[j]!).oneCell'=true:=by decide
 exact this (i % bN.cells.size) (Nat.mod_lt _ (by decide))
theorem rV(w:World)(b k m c:Nat)(hm:0 < m)(hc:∀j,j < m*8->(w.cell? ⟨b,k+j,none⟩).isSome=true)(hf:∀j,w.frozen? ⟨b,j,none⟩=false)(ty:TypeId) :
  (Builtin.clear_ #[27] ty #[.slice (some ⟨b,k,none⟩) m c]).run prog w=.ok (.tuple #[]) (w.setCells b k (zl8 m)):=by
 have hz:∀w,(zeroValue 52).run prog w=.ok bN w:=zeroValue52;have hst:=run_storeCells_cells (P:=prog) b k (zl8 m) 0 w (fun j hj=>by rw[Nat.add_zero];exact hc j (by rw[xP]at hj;exact hj)) (fun j hj=>hf _) (xO m);simp only[Nat.add_zero]at hst;obtain⟨q,rfl⟩:∃q,m=q+1:=⟨m - 1,by omega⟩
 unfold zl8 at hst ⊢
 simp[Builtin.clear_,run_underlying underlying27,hz,hst]
theorem nS{P:Program}{ops:Array Oper}{rest:List Oper}{o:Oper}{a:Act}{Q:Exit->Act->World->Prop}{w w':World}(hg:o.guard=none)(s:Operand)(t:TypeId)
  (ho:o.op=.call { callee:=.builtin .clear,args:=#[s],argTypes:=#[t] }) (u:Value) (hs:a.eval s=u)
  (hrun:(Builtin.clear_ #[t] o.type #[u]).run P w=.ok (.tuple #[]) w') (hK:wpList P ops Q rest (a.put o.dst (.tuple #[])) w'):wpList P ops Q (o::rest) a w:=by
 refine wpList_plain hg fun K' hK'=>?_
 unfold Oper.wp
 simp[execOp,ho,resolve,invoke,builtin,hs,hrun,Result.andThen]
 exact hK' _ _ hK
theorem ew(b:Nat):∀(o:Nat) (l:List Value) (w:World),Kept [b] w (w.setCells b o l)
 |_,[],w=>kr
 |o,v::l,w=>(kr.setCell (p:=⟨b,o,none⟩) (Or.inl (by simp)) v).trans (ew b (o+1) l _)
theorem EC.cleared{w:World}{rb n k:Nat}{f:Nat->EV}(h:EC w rb n f)(L:List Value)(hk:k<=n):EC (w.setCells rb (k*8) L) rb k f := ⟨fun i hi j v hv=>by
  have hj:j < 8:=by have:=(List.getElem?_eq_some_iff.1 hv).1;simpa [entC]using this
  rw[World.cell?_setCells_out rb L (k*8) w ⟨rb,i*8+j,none⟩ (fun _ _=>Or.inl (by simp;omega))]
  exact h.cell i (by omega) j v hv,fun j=>by rw[World.frozen?_setCells];exact h.fz j,Nat.lt_of_lt_of_le h.lt (ew rb (k*8) L w).size⟩
def cQ(k:Nat)(f:Nat->EV):Prop:=∀a b,a < b->b < k->ltE (f a).1 (f b).1
def MemE(k m:Nat)(f g:Nat->EV):Prop:=∀e,(∃i,i < k/\(f i).1=e)↔(∃i,i < m/\(g i).1=e)
theorem cQ.snoc{k:Nat}{f:Nat->EV}(h:cQ (k+1) f)(hl:ltE (f k).1 (f (k+1)).1):cQ (k+2) f:=fun a b hab hb=>by
 by_cases e:b=k+1
 ·subst e
  by_cases e2:a=k
  ·subst e2;exact hl
  ·exact dH (h a k (by omega) (by omega)) hl
 ·exact h a b hab (by omega)
structure CpI (n K:Nat) (f0 f:Nat->EV) (k k2:Nat):Prop where
 hk:1<=k
 hk2:1<=k2
 hlt:k+1<=K+k2
 hn:K+k2<=n
 rest:∀i,K+k2<=i+1->i < n->f i=f0 i
 strict:cQ k f
 mem:MemE k (K+k2) f f0
 last:(f (k - 1)).1=(f0 (K+k2 - 1)).1
 vals:∀i,i < n->∃j,j < n/\f i=f0 j
theorem CpI.start{n K:Nat}{f0:Nat->EV}(hK:1<=K)(hn:K < n)(hs:cQ K f0)(he:(f0 K).1=(f0 (K - 1)).1):CpI n K f0 f0 K 1 := ⟨hK,Nat.le_refl _,by omega,by omega,fun i _ _=>rfl,hs,fun e=>⟨fun⟨i,h1,h2⟩=>⟨i,by omega,h2⟩,fun⟨i,h1,h2⟩=>by
  by_cases e2:i=K
  ·exact⟨K - 1,by omega,by rw[<-he,<-e2];exact h2⟩
  ·exact⟨i,by omega,h2⟩⟩,by rw[show K+1 - 1=K by omega,he],fun i hi=>⟨i,hi,rfl⟩⟩
theorem CpI.skip{n K k k2:Nat}{f0 f:Nat->EV}(h:CpI n K f0 f k k2)(hl:K+k2 < n)(he:(f0 (K+k2)).1=(f0 (K+k2 - 1)).1):CpI n K f0 f k (k2+1) := ⟨h.hk,by omega,by have:=h.hlt;omega,by omega,fun i hi hin=>h.rest i (by omega) hin,h.strict,fun e=>(h.mem e).trans ⟨fun⟨i,h1,h2⟩=>⟨i,by omega,h2⟩,fun⟨i,h1,h2⟩=>by
  by_cases e2:i=K+k2
  ·exact⟨K+k2 - 1,by have:=h.hk2;omega,by rw[<-he,<-e2];exact h2⟩
  ·exact⟨i,by omega,h2⟩⟩,by rw[h.last,show K+(k2+1) - 1=K+k2 by omega,he],h.vals⟩
theorem CpI.take{n K k k2:Nat}{f0 f:Nat->EV}(h:CpI n K f0 f k k2)(hl:K+k2 < n)(hs:ltE (f0 (K+k2 - 1)).1 (f0 (K+k2)).1):CpI n K f0 (updE f k (f (K+k2))) (k+1) (k2+1):=by
 have p:=h.hlt;have r:=h.hk;have o:=h.rest (K+k2) (by omega) hl
 have g:updE f k (f (K+k2)) k=f0 (K+k2):=by unfold updE;rw[if_pos rfl,o]
 have c:∀i,i≠k->updE f k (f (K+k2)) i=f i:=fun i hi=>by unfold updE;rw[if_neg hi]
 refine⟨by omega,by omega,by omega,by omega,fun i hi hin=>by rw[c i (by omega)];exact h.rest i (by omega) hin,fun a b hab hb=>?_,fun e=>?_,by rw[show k+1 - 1=k by omega,g,show K+(k2+1) - 1=K+k2 by omega],fun i hi=>?_⟩
 ·by_cases e:b=k
  ·subst e;rw[g,c a (by omega)]
   by_cases e2:a=b - 1
   ·subst e2;rw[h.last];exact hs
   ·have l:=h.strict a (b - 1) (by omega) (by omega);rw[h.last]at l;exact dH l hs
  ·rw[c a (by omega),c b e];exact h.strict a b hab (by omega)
 ·constructor
  ·rintro⟨i,l,d⟩
   by_cases e2:i=k
   ·subst e2;rw[g]at d;exact⟨K+k2,by omega,d⟩
   ·rw[c i e2]at d;obtain⟨j,q,m⟩:=(h.mem e).1 ⟨i,by omega,d⟩;exact⟨j,by omega,m⟩
  ·rintro⟨i,l,d⟩
   by_cases e2:i=K+k2
   ·subst e2;exact⟨k,by omega,by rw[g];exact d⟩
   ·obtain⟨j,q,m⟩:=(h.mem e).2 ⟨i,by omega,d⟩;exact⟨j,by omega,by rw[c j (by omega)];exact m⟩
 ·by_cases e:i=k
  ·subst e;exact⟨K+k2,hl,g⟩
  ·rw[c i e];exact h.vals i hi
theorem iv{n:Nat}{f:Nat->EV}(hs:df n f)(hI:∀k,k < n->EntI (f k).1){a b:Nat}(hab:a < b)(hb:b < n)(hne:(f b).1≠(f a).1):ltE (f a).1 (f b).1:=by
 rcases ltE_tri (hI a (by omega)) (hI b hb)with h|h|h
 ·exact h
 ·exact absurd h.symm hne
 ·exact absurd h (hs a b hab hb)
def CpE(w:World)(rb n cap:Nat)(f0:Nat->EV)(e:Ending)(w':World):Prop:=∃(m:Nat) (f:Nat->EV),e=.returned (.slice (some ⟨rb,0,none⟩) m cap)/\m<=n/\(1<=n->1<=m)/\cQ m f/\MemE m n f f0/\(∀i,i < m->∃j,j < n/\f i=f0 j)/\EC w' rb m f/\Kept [rb] w w'
theorem yF(a b:Ent)(ua ub:Value)(w:World)(ha:EntA w (.agg (entF a ua)) a)(hb:EntA w (.agg (entF b ub)) b)(ia:EntI a)(ib:EntI b)(hE:Env w) :
  Calls prog 45 #[.agg (entF a ua),.agg (entF b ub)] w fun en w'=>en=.returned (.bool (decide (cmpE a b=0)))/\Kept [] w w':=by
 obtain⟨A,h,f⟩:=ha;obtain⟨z,g,e⟩:=hb;obtain⟨m,l,rfl,_,_⟩:=f.form;obtain⟨k,j,rfl,_,_⟩:=e.form
 obtain rfl:ua=.slice m a.nums.length l:=by
  injection h with h1;have:=congrArg (fun x:Array Value=>x[4]?) h1
  simpa [entF,entC]using this
 obtain rfl:ub=.slice k b.nums.length j:=by
  injection g with h1;have:=congrArg (fun x:Array Value=>x[4]?) h1
  simpa [entF,entC]using this
 obtain⟨W,i⟩:=nm ((w.alloc (.cells (entC a (.slice m a.nums.length l)).toArray 52)).alloc (.cells (entC b (.slice k b.nums.length j)).toArray 52));have r:=bp i;have q:=bz i;have d:=kb (S:=[]) i
 have t:Hid (Calls prog 43 #[.agg #[a.gate,a.no,a.time,a.kind,.slice m a.nums.length l,a.text,a.c,a.s],.agg #[b.gate,b.no,b.time,b.kind,.slice k b.nums.length j,b.text,b.c,b.s]] W fun en w2=>en=.returned (.int .i64 (cmpE a b))/\Kept [] W w2) :=
  mp _ _ a b W ⟨_,rfl,f.kept d⟩ ⟨_,rfl,e.kept d⟩ ia ib (hE.kept0 d)
 obtain⟨T,R,Q,P,O,N,M,L⟩:=bc8 r rfl;obtain⟨J,I,G,F,E,D,C,B⟩:=bc8 q rfl
 generalize n:cmpE a b=cv at t ⊢
 have y:=hid i;have o:=hid d;clear i r q d f e ia ib hE n h g
 show Calls _ _ #[.agg #[a.gate,a.no,a.time,a.kind,.slice m a.nums.length l,a.text,a.c,a.s],.agg #[b.gate,b.no,b.time,b.kind,.slice k b.nums.length j,b.text,b.c,b.s]] _ _
 go_enter func45,ntmps45
 go_upto_region 1 with(fail)
 erw[y.out]
 go_wp2_with (go_at_call 43;with_reducible refine t.out.mono ?_)
 first|(rintro v u rfl p)|(rintro v u ⟨rfl,p⟩)
 go_wp2_with fail;go_ret;exact⟨rfl,o.trans p⟩
theorem qE(rb n cap:Nat)(f0:Nat->EV)(w:World)(hc:EC w rb n f0)(hn:ae [rb] (dw n f0) w)(hs:df n f0)(hI:∀k,k < n->EntI (f0 k).1)(hrb:NG<=rb)(hE:Env w)(hl:n<=1000)(hcap:n<=cap) :
  Calls prog 44 #[.slice (some ⟨rb,0,none⟩) n cap,.func (.func 45) #[] #[]] w (CpE w rb n cap f0):=by
 have a3:Hid (∀wr,Kept [rb] w wr->dw n f0 wr):=fun wr k=>hn [rb] wr k (fun z hz _=>hz)
 have HQ:Hid (∀wr a b ea ua eb ub,Kept [rb] w wr->a < n->b < n->f0 a=(ea,ua)->f0 b=(eb,ub)->∀x:KW wr,Calls prog 45 #[.agg (entF ea ua),.agg (entF eb ub)] x.val fun en w2=>en=.returned (.bool (decide (cmpE ea eb=0)))/\Kept [] x.val w2):=fun wr a b ea ua eb ub hk ha hb T R x=>by
  have kk:Kept [rb] w x.val:=hk.then_ x.property (by simp);have hr:=a3 x.val kk;have r1:=hr a ha;have r2:=hr b hb;have i1:=hI a ha;have i2:=hI b hb;rw[T]at r1 i1;rw[R]at r2 i2;exact yF ea eb ua ub x.val ⟨ua,rfl,r1⟩ ⟨ub,rfl,r2⟩ i1 i2 (hE.kept kk (by simpa using hrb))
 have HI:=hid hI;have b2:=hid hs;have HC:=hid hc
 by_cases R:n < 2
 ·have d0:decide ((n:Int) < 2)=true:=decide_eq_true (by omega);have d1:decide (n < 2)=true:=decide_eq_true R;clear hc hn hs hI hE
  go_enter func44,ntmps44
  go_wp2_with fail;go_ret;exact⟨n,f0,rfl,Nat.le_refl _,fun h=>h,fun a b hab hb=>by omega,fun e=>Iff.rfl,fun i hi=>⟨i,hi,rfl⟩,HC.out,kr⟩
 have d0:decide ((n:Int) < 2)=false:=decide_eq_false (by omega);have d1:decide (n < 2)=false:=decide_eq_false R;clear hc hn hs hI hE
 go_enter func44,ntmps44
 go_wp2_with fail;clear d0 d1
 go_loopw [5] (fun vk wr=>∃k:Nat,1<=k/\k<=n/\vk=k/\cQ k f0/\Kept [] w wr) (fun vk _=>n - (intOf vk).toNat)
 case atStart=>exact⟨1,Nat.le_refl _,by omega,rfl,fun a b hab hb=>by omega,kr⟩
 case round =>
  obtain⟨K,ba,c6,rfl,an,av⟩:=hrel;have a7:=hid an;have L:=hid av;clear an av
  by_cases hlt:K < n
  rotate_left
  ·have b9:Hid (K=n):=hid (by omega)
   have hlt':¬(K:Int) < (n:Int):=by omega
   go_wp2_with fail;go_ret;exact⟨n,f0,rfl,Nat.le_refl _,fun h=>h,by have:=a7.out;rwa [b9.out]at this,fun e=>Iff.rfl,fun i hi=>⟨i,hi,rfl⟩,HC.out.kept L.out (by simp),L.out.mono (by simp)⟩
  ·obtain⟨q,hq⟩:∃q,K=q+1:=⟨K - 1,by omega⟩
   have X:q < n:=by omega
   have hw:IntKind.i64.wrap ((K:Int) - 1)=(q:Int):=by rw[IntKind.wrap_i64];omega
   obtain⟨D,uj,a0⟩:∃e u,f0 K=(e,u):=⟨_,_,rfl⟩;obtain⟨C,um,Z⟩:∃e u,f0 q=(e,u):=⟨_,_,rfl⟩;have CL:=hid (HQ.out wr K q D uj C um (L.out.mono (by simp)) hlt X a0 Z);have I:=a3.out wr (L.out.mono (by simp));have y:=I K hlt;have v:=I q X;have o:=(HC.out.kept L.out (by simp)).cell K hlt;have l:=(HC.out.kept L.out (by simp)).cell q X;rw[a0]at y o;rw[Z]at v l
   simp only at y v o l
   obtain⟨ja,jc,rfl,_,_⟩:=y.form;obtain⟨ma,mc,rfl,_,_⟩:=v.form;have b4:=hid hq;have ah:=hid a0;have ad:=hid Z
   have c9:(K:Int) < (n:Int):=by omega
   have bx:(q:Int) < (n:Int):=by omega
   have p0:∀x:KW wr,x.val.cell? ⟨rb,K*8,none⟩=some (.int .i64 D.gate):=fun x=>x.cell (o 0 _ rfl);have p1:∀x:KW wr,x.val.cell? ⟨rb,K*8+1,none⟩=some (.int .i64 D.no):=fun x=>x.cell (o 1 _ rfl);have p2:∀x:KW wr,x.val.cell? ⟨rb,K*8+2,none⟩=some (.int .i64 D.time):=fun x=>x.cell (o 2 _ rfl);have p3:∀x:KW wr,x.val.cell? ⟨rb,K*8+3,none⟩=some (.int .i64 D.kind):=fun x=>x.cell (o 3 _ rfl);have p4:∀x:KW wr,x.val.cell? ⟨rb,K*8+4,none⟩=some (.slice ja D.nums.length jc):=fun x=>x.cell (o 4 _ rfl);have p5:∀x:KW wr,x.val.cell? ⟨rb,K*8+5,none⟩=some (.string ⟨D.text.toArray⟩):=fun x=>x.cell (o 5 _ rfl);have p6:∀x:KW wr,x.val.cell? ⟨rb,K*8+6,none⟩=some (.int .i64 D.c):=fun x=>x.cell (o 6 _ rfl);have p7:∀x:KW wr,x.val.cell? ⟨rb,K*8+7,none⟩=some (.int .i64 D.s):=fun x=>x.cell (o 7 _ rfl);have q0:∀x:KW wr,x.val.cell? ⟨rb,q*8,none⟩=some (.int .i64 C.gate):=fun x=>x.cell (l 0 _ rfl);have q1:∀x:KW wr,x.val.cell? ⟨rb,q*8+1,none⟩=some (.int .i64 C.no):=fun x=>x.cell (l 1 _ rfl);have q2:∀x:KW wr,x.val.cell? ⟨rb,q*8+2,none⟩=some (.int .i64 C.time):=fun x=>x.cell (l 2 _ rfl);have q3:∀x:KW wr,x.val.cell? ⟨rb,q*8+3,none⟩=some (.int .i64 C.kind):=fun x=>x.cell (l 3 _ rfl);have q4:∀x:KW wr,x.val.cell? ⟨rb,q*8+4,none⟩=some (.slice ma C.nums.length mc):=fun x=>x.cell (l 4 _ rfl);have q5:∀x:KW wr,x.val.cell? ⟨rb,q*8+5,none⟩=some (.string ⟨C.text.toArray⟩):=fun x=>x.cell (l 5 _ rfl);have q6:∀x:KW wr,x.val.cell? ⟨rb,q*8+6,none⟩=some (.int .i64 C.c):=fun x=>x.cell (l 6 _ rfl)
   have q7:∀x:KW wr,x.val.cell? ⟨rb,q*8+7,none⟩=some (.int .i64 C.s):=fun x=>x.cell (l 7 _ rfl);clear hq a0 Z I y v o l;go_upto_region 6 with(fail);refine ax wr kr (by kernel_rfl) (by kernel_rfl) ?_
   repeat (go_big_quiet_step (first|(go_at_call 45;exact aA (CL _))))
   refine wpQuiet_nil ?_;rintro p ⟨⟨_,J⟩,rfl⟩;have ac:=hid (L.trans J)
   have A:Hid (EntI D/\EntI C):=by
    have T:=HI K hlt;have R:=HI q X;rw[ah.out]at T;rw[ad.out]at R;exact⟨T,R⟩
   clear p0 p1 p2 p3 p4 p5 p6 p7 q0 q1 q2 q3 q4 q5 q6 q7 CL J
   by_cases hz:cmpE D C=0
   rotate_left
   ·have hd:decide (cmpE D C=0)=false:=decide_eq_false hz
    have bd:Hid (cQ (K+1) f0):=by
     have a6:D≠C:=fun e=>hz ((gi A.1 A.2).2 e);have hq:=b4.out;subst hq;exact cQ.snoc a7.out (iv b2.out HI.out (by omega) hlt (by rw[ah.out,ad.out];exact a6))
    obtain⟨t,G⟩:=nm (decide (cmpE D C=0));rw[G];obtain rfl:t=false:=G.symm.trans hd;clear hz hd G;go_wp2_with fail;refine⟨⟨K+1,by omega,by omega,by go_num,bd.out,ac.out⟩,by simp[intOf];omega⟩
   ·have hd:decide (cmpE D C=0)=true:=decide_eq_true hz;have bh:Hid (D=C):=(gi A.1 A.2).1 hz
    have bl:Hid (CpI n K f0 f0 K 1):=by
     have hq:=b4.out;refine CpI.start ba hlt a7 ?_;rw[show K - 1=q by omega,ah.out,ad.out];exact bh
    obtain⟨t,G⟩:=nm (decide (cmpE D C=0));rw[G];obtain rfl:t=true:=G.symm.trans hd;clear hz hd G
    have c5:¬cap=K:=by omega
    have c7:K<=cap:=by omega
    have bs:(K:Int)<=(cap:Int):=by omega
    go_wp2_with fail
    go_loopw [5,7] (fun v5 v7 wr=>∃(k d:Nat) (f:Nat->EV),v5=k/\v7=d/\CpI n K f0 f k d/\EC wr rb n f/\Kept [rb] w wr) (fun _ v7 _=>n - (intOf v7).toNat)
    case atStart=>exact⟨K,1,f0,rfl,rfl,bl.out,HC.out.kept ac.out (by simp),ac.out.mono (by simp)⟩
    case round =>
     obtain⟨k,d,f,rfl,rfl,N,b1,ap⟩:=hrel;have E:=hid N;have O:=hid b1;have Q:=hid ap;have e1:=N.hk;have e2:=N.hk2;have e3:=N.hlt;have e4:=N.hn;clear N b1 ap
     by_cases hl2:d < n - K
     ·obtain⟨r,hr⟩:∃r,d=r+1:=⟨d - 1,by omega⟩
      have bt:IntKind.i64.wrap ((d:Int) - 1)=(r:Int):=by rw[IntKind.wrap_i64];omega
      have B:K+d < n:=by omega
      have P:K+r < n:=by omega
      have hl2':r < n - K:=by omega
      have r1:=E.out.rest (K+d) (by omega) B;have r0:=E.out.rest (K+r) (by omega) P;obtain⟨g,vj,a2⟩:∃e u,f0 (K+d)=(e,u):=⟨_,_,rfl⟩;obtain⟨F,vm,a1⟩:∃e u,f0 (K+r)=(e,u):=⟨_,_,rfl⟩;have CL:=hid (HQ wr (K+d) (K+r) g vj F vm Q B P a2 a1);have I:=a3 wr Q;have y:=I (K+d) B;have v:=I (K+r) P;have o:=O.cell (K+d) B;have l:=O.cell (K+r) P;rw[a2]at y r1;rw[a1]at v r0;rw[r1,Nat.add_mul]at o;rw[r0,Nat.add_mul]at l
      simp only at y v o l
      obtain⟨na,nc,rfl,_,_⟩:=y.form;obtain⟨la,lc,rfl,_,_⟩:=v.form;have a9:=hid hr;have am:=hid a2;have al:=hid a1;have bc:=hid r1;have bo:=hid o
      have bq:(d:Int) < ((n - K:Nat):Int):=by omega
      have bv:(r:Int) < ((n - K:Nat):Int):=by omega
      have p0:∀x:KW wr,x.val.cell? ⟨rb,K*8+d*8,none⟩=some (.int .i64 g.gate):=fun x=>x.cell (o 0 _ rfl);have p1:∀x:KW wr,x.val.cell? ⟨rb,K*8+d*8+1,none⟩=some (.int .i64 g.no):=fun x=>x.cell (o 1 _ rfl);have p2:∀x:KW wr,x.val.cell? ⟨rb,K*8+d*8+2,none⟩=some (.int .i64 g.time):=fun x=>x.cell (o 2 _ rfl);have p3:∀x:KW wr,x.val.cell? ⟨rb,K*8+d*8+3,none⟩=some (.int .i64 g.kind):=fun x=>x.cell (o 3 _ rfl);have p4:∀x:KW wr,x.val.cell? ⟨rb,K*8+d*8+4,none⟩=some (.slice na g.nums.length nc):=fun x=>x.cell (o 4 _ rfl);have p5:∀x:KW wr,x.val.cell? ⟨rb,K*8+d*8+5,none⟩=some (.string ⟨g.text.toArray⟩):=fun x=>x.cell (o 5 _ rfl);have p6:∀x:KW wr,x.val.cell? ⟨rb,K*8+d*8+6,none⟩=some (.int .i64 g.c):=fun x=>x.cell (o 6 _ rfl);have p7:∀x:KW wr,x.val.cell? ⟨rb,K*8+d*8+7,none⟩=some (.int .i64 g.s):=fun x=>x.cell (o 7 _ rfl);have q0:∀x:KW wr,x.val.cell? ⟨rb,K*8+r*8,none⟩=some (.int .i64 F.gate):=fun x=>x.cell (l 0 _ rfl);have q1:∀x:KW wr,x.val.cell? ⟨rb,K*8+r*8+1,none⟩=some (.int .i64 F.no):=fun x=>x.cell (l 1 _ rfl);have q2:∀x:KW wr,x.val.cell? ⟨rb,K*8+r*8+2,none⟩=some (.int .i64 F.time):=fun x=>x.cell (l 2 _ rfl);have q3:∀x:KW wr,x.val.cell? ⟨rb,K*8+r*8+3,none⟩=some (.int .i64 F.kind):=fun x=>x.cell (l 3 _ rfl);have q4:∀x:KW wr,x.val.cell? ⟨rb,K*8+r*8+4,none⟩=some (.slice la F.nums.length lc):=fun x=>x.cell (l 4 _ rfl);have q5:∀x:KW wr,x.val.cell? ⟨rb,K*8+r*8+5,none⟩=some (.string ⟨F.text.toArray⟩):=fun x=>x.cell (l 5 _ rfl);have q6:∀x:KW wr,x.val.cell? ⟨rb,K*8+r*8+6,none⟩=some (.int .i64 F.c):=fun x=>x.cell (l 6 _ rfl)
      have q7:∀x:KW wr,x.val.cell? ⟨rb,K*8+r*8+7,none⟩=some (.int .i64 F.s):=fun x=>x.cell (l 7 _ rfl);clear hr a2 a1 I y v o l r1 r0;go_upto_region 11 with(fail);refine ax wr kr (by kernel_rfl) (by kernel_rfl) ?_
      repeat (go_big_quiet_step (first|(go_at_call 45;exact aA (CL _))))
      refine wpQuiet_nil ?_;rintro p ⟨⟨_,J⟩,rfl⟩;have M:=hid (O.out.kept J (by simp));have a4:=hid (Q.out.then_ J (by simp))
      have A:Hid (EntI g/\EntI F):=by
       have T:=HI (K+d) B;have R:=HI (K+r) P;rw[am.out]at T;rw[al.out]at R;exact⟨T,R⟩
      have HK5':=hid J;clear p0 p1 p2 p3 p4 p5 p6 p7 q0 q1 q2 q3 q4 q5 q6 q7 CL J
      by_cases hz:cmpE g F=0
      ·have hd:decide (cmpE g F=0)=true:=decide_eq_true hz
       have aa:Hid (CpI n K f0 f k (d+1)):=by
        refine E.skip B ?_;rw[show K+d - 1=K+r by have:=a9.out;omega,am.out,al.out];exact(gi A.1 A.2).1 hz
       obtain⟨t,G⟩:=nm (decide (cmpE g F=0));rw[G];obtain rfl:t=true:=G.symm.trans hd;clear hz hd G;go_wp2_with fail;refine⟨⟨k,d+1,f,rfl,by go_num,aa.out,M.out,a4.out⟩,by simp[intOf];omega⟩
      ·have hd:decide (cmpE g F=0)=false:=decide_eq_false hz
       have aa:Hid (CpI n K f0 (updE f k (f (K+d))) (k+1) (d+1)):=by
        refine E.take B ?_;have a6:g≠F:=fun e=>hz ((gi A.1 A.2).2 e);rw[show K+d - 1=K+r by have:=a9.out;omega];exact iv b2.out HI.out (by have:=a9.out;omega) B (by rw[am.out,al.out];exact a6)
       obtain⟨t,G⟩:=nm (decide (cmpE g F=0));rw[G];obtain rfl:t=false:=G.symm.trans hd
       have Y:k < n:=by omega
       have b6:(k:Int) < (n:Int):=by omega
       have o:=bo.out;have l:=M.cell k Y;have c3:=M.fz
       have b5:∃a m c,(f k).2=.slice a m c:=by
        obtain⟨j,hj,e⟩:=E.vals k Y;obtain⟨a,c,h,_,_⟩:=(a3 wr Q j hj).form;exact⟨a,_,c,by rw[e];exact h⟩
       obtain⟨xa,xm,xc,a5⟩:=b5;obtain⟨ek,uk,b0⟩:∃e u,f k=(e,u):=⟨_,_,rfl⟩;rw[b0]at l a5
       simp only at l a5
       subst a5
       have b3:Hid (EC (put8 p rb (k*8) g (.slice na g.nums.length nc)) rb n (updE f k (f (K+d)))):=by
        have:=M.put Y g (.slice na g.nums.length nc);rw[bc.out];exact this
       have U:=HK5'.out;have p0:p.cell? ⟨rb,K*8+d*8,none⟩=some (.int .i64 g.gate):=Kept.cellOf (o 0 _ rfl) _ U;have q0:p.cell? ⟨rb,k*8,none⟩=some (.int .i64 ek.gate):=l 0 _ rfl;have y0:p.frozen? ⟨rb,k*8,none⟩=false:=c3 _;have p1:p.cell? ⟨rb,K*8+d*8+1,none⟩=some (.int .i64 g.no):=Kept.cellOf (o 1 _ rfl) _ U;have q1:p.cell? ⟨rb,k*8+1,none⟩=some (.int .i64 ek.no):=l 1 _ rfl;have y1:p.frozen? ⟨rb,k*8+1,none⟩=false:=c3 _;have p2:p.cell? ⟨rb,K*8+d*8+2,none⟩=some (.int .i64 g.time):=Kept.cellOf (o 2 _ rfl) _ U;have q2:p.cell? ⟨rb,k*8+2,none⟩=some (.int .i64 ek.time):=l 2 _ rfl;have y2:p.frozen? ⟨rb,k*8+2,none⟩=false:=c3 _;have p3:p.cell? ⟨rb,K*8+d*8+3,none⟩=some (.int .i64 g.kind):=Kept.cellOf (o 3 _ rfl) _ U;have q3:p.cell? ⟨rb,k*8+3,none⟩=some (.int .i64 ek.kind):=l 3 _ rfl;have y3:p.frozen? ⟨rb,k*8+3,none⟩=false:=c3 _;have p4:p.cell? ⟨rb,K*8+d*8+4,none⟩=some (.slice na g.nums.length nc):=Kept.cellOf (o 4 _ rfl) _ U;have q4:p.cell? ⟨rb,k*8+4,none⟩=some (.slice xa xm xc):=l 4 _ rfl;have y4:p.frozen? ⟨rb,k*8+4,none⟩=false:=c3 _;have p5:p.cell? ⟨rb,K*8+d*8+5,none⟩=some (.string ⟨g.text.toArray⟩):=Kept.cellOf (o 5 _ rfl) _ U;have q5:p.cell? ⟨rb,k*8+5,none⟩=some (.string ⟨ek.text.toArray⟩):=l 5 _ rfl;have y5:p.frozen? ⟨rb,k*8+5,none⟩=false:=c3 _;have p6:p.cell? ⟨rb,K*8+d*8+6,none⟩=some (.int .i64 g.c):=Kept.cellOf (o 6 _ rfl) _ U;have q6:p.cell? ⟨rb,k*8+6,none⟩=some (.int .i64 ek.c):=l 6 _ rfl;have y6:p.frozen? ⟨rb,k*8+6,none⟩=false:=c3 _
       have p7:p.cell? ⟨rb,K*8+d*8+7,none⟩=some (.int .i64 g.s):=Kept.cellOf (o 7 _ rfl) _ U;have q7:p.cell? ⟨rb,k*8+7,none⟩=some (.int .i64 ek.s):=l 7 _ rfl;have y7:p.frozen? ⟨rb,k*8+7,none⟩=false:=c3 _;clear hz hd G o l c3 b0 U;go_upto_region 13 with(fail);obtain⟨w6,V⟩:=nm (put8 p rb (k*8) g (.slice na g.nums.length nc));have bb:=hid (V▸b3.out);have ab:Hid (Kept [rb] w w6):=hid (V▸a4.out.trans (jl _ _ _));rw[show(((((((p.setCell ⟨rb,k*8,none⟩ g.gate).setCell ⟨rb,k*8+1,none⟩ g.no).setCell ⟨rb,k*8+2,none⟩ g.time).setCell ⟨rb,k*8+3,none⟩ g.kind).setCell ⟨rb,k*8+4,none⟩ (.slice na g.nums.length nc)).setCell ⟨rb,k*8+5,none⟩ g.text).setCell ⟨rb,k*8+6,none⟩ g.c).setCell ⟨rb,k*8+7,none⟩ g.s=w6 from V];clear V p0 p1 p2 p3 p4 p5 p6 p7 q0 q1 q2 q3 q4 q5 q6 q7 y0 y1 y2 y3 y4 y5 y6 y7 b3;go_wp2_with fail;refine⟨⟨k+1,d+1,_,by go_num,by go_num,aa.out,bb.out,ab.out⟩,by simp[intOf];omega⟩
     ·have b7:Hid (K+d=n):=hid (by omega)
      have Y:k < n:=by omega
      have c4:¬cap=k:=by omega
      have c0:k<=cap:=by omega
      have hl2':¬(d:Int) < ((n - K:Nat):Int):=by omega
      have ao:∀j,j < (n - k)*8->(wr.cell? ⟨rb,k*8+j,none⟩).isSome=true:=fun j hj=>by
       have T:=O.out.some_ (i:=k+j / 8) (by omega) (j % 8) (Nat.mod_lt _ (by omega));rw[show(k+j / 8)*8+j % 8=k*8+j by omega]at T;exact T
      have bm:=hid (rV wr rb (k*8) (n - k) (cap - k) (by omega) ao O.out.fz);have bk:=hid (O.out.cleared (k:=k) (zl8 (n - k)) (by omega));have ab:=hid (Q.trans (ew rb (k*8) (zl8 (n - k)) wr));clear ao;go_wp2_with (refine nS rfl (.tmp 61) 27 rfl _ rfl (bm _) ?_)
      have b6:(k:Int)<=(n:Int):=by omega
      go_wp2_with fail;go_ret;have hm:=E.mem;rw[b7.out]at hm;exact⟨k,f,rfl,by omega,fun _=>e1,E.out.strict,hm,fun i hi=>E.out.vals i (by omega),bk.out,ab.out⟩
theorem jb{P:Program}{ops:Array Oper}{rest:List Oper}{o:Oper}{a:Act}{Q:Exit->Act->World->Prop}{w w':World}(hg:o.guard=none)(s x:Operand)(t k:TypeId)
  (ho:o.op=.call { callee:=.builtin .append,args:=#[s,x],argTypes:=#[t,k] }) (u y v:Value) (hs:a.eval s=u) (hx:a.eval x=y)
  (hrun:(Builtin.append_ #[t,k] o.type #[u,y]).run P w=.ok v w') (hK:wpList P ops Q rest (a.put o.dst v) w'):wpList P ops Q (o::rest) a w:=by
 refine wpList_plain hg fun K' hK'=>?_
 unfold Oper.wp
 simp[execOp,ho,resolve,invoke,builtin,hs,hx,hrun,Result.andThen]
 exact hK' _ _ hK
def GrwE(w:World)(e:Ending)(w':World):Prop:=∃v,e=.returned v/\w'.ownsRow w.heap.size 52 8 v 0 []/\Kept [] w w'/\∃a c,v=.slice a 0 c
theorem ur(N:Nat)(w:World)(hN:N<=1000):Calls prog 70 #[(),N] w (GrwE w):=by
 by_cases h1:N=0
 ·subst h1
  go_enter func70,ntmps70
  go_wp2_with fail;go_ret;exact⟨_,rfl,World.ownsRow_nil _ _ _ _,kr,_,_,rfl⟩
 obtain⟨l,o,i,h,c⟩:=info_parts fc;have p:=grownCap_ge w N 0 52;have m:=grownCap_le_maxLen w N 0 52 (by unfold maxLen;omega)
 have a:=Lib.run_append_grow_zeros w 27 3 27 52 l bN .i64 .i64 underlying27 underlying3 o i none 0 0 [] (run_firstCells_none (w:=w.drew) l.size 0 0 0) N (by omega) (by rw[h];omega) (by omega) (by omega)
  (by rw[c];omega) (growslice_fits (by omega) (by rw[c];omega))
 simp only[Nat.zero_add]at a
 generalize j:grownCap w N 0 52=G at a p m
 unfold maxLen at m
 obtain⟨f,b⟩:=nm ((#[]++Builtin.zeroCells bN.cells N++Builtin.zeroCells bN.cells (G - N):Array Value))
 have d:f.size=G*8:=by
  rw[<-b]
  simp[Builtin.zeroCells,bN,Value.cells]
  omega
 have hrun':∀k,(Builtin.append_ #[27,3] k #[(),N]).run prog w=.ok (.slice (some ⟨w.heap.size,0,none⟩) N G) (w.drew.alloc (.cells f 52)):=by
  intro k;rw[<-b];exact a
 have e:(w.drew.alloc (.cells f 52)).ownsRow w.heap.size 52 8 (.slice (some ⟨w.heap.size,0,none⟩) 0 G) 0 [] := ⟨rfl,Or.inr ⟨w.heap.size,G,f,rfl,Nat.le_refl _,heap_alloc_new w.drew _,by omega,by unfold maxLen;omega,d,by simp⟩⟩
 have n:Kept [] w (w.drew.alloc (.cells f 52)):=kr.drew.alloc _
 have t:¬(N:Int) < 0:=by omega
 have s:0 < (N:Int):=by omega
 have r:IntKind.i64.wrap (N:Int)=N:=by rw[IntKind.wrap_i64];omega
 have q:0 < N:=by omega
 clear a b d j h1
 go_enter func70,ntmps70
 have g:=hid hrun';clear hrun';go_wp2_with (at_builtin;refine jb rfl _ _ 27 3 rfl _ _ _ rfl rfl (g _) ?_);go_ret;exact⟨_,rfl,e,n,_,_,rfl⟩
def CteE(l:List Ent)(w:World)(e:Ending)(w':World):Prop:=∃v,e=.returned v/\aU w' v l/\Kept [] w w'
theorem qD(l:List Ent)(va vl:Value)(w:World)(hn:l.length<=100)(hl:Row w 1 vl 2 [va,()])(ha:aU w va l) :
  Calls prog 39 #[vl] w (CteE l w):=by
 obtain⟨g,Q,P,F,E⟩:=ha;obtain⟨al,cl,rfl,_,_⟩:=hl.form;obtain⟨aa,Z,rfl,_,Y⟩:=E.form;obtain⟨bl,ol,rfl,q⟩:=hl.at_ (by omega);have T:=hid (Kept.cellOf (by have:=q 0 _ rfl;simpa using this));have R:=hid (Kept.cellOf (q 1 _ rfl));have H4:=hid E
 have L:Hid (∀w',Kept [] w w'->ep EntR 8 g l w'):=fun w' k=>⟨Q,P,fun i a r=>by obtain⟨c,D,B⟩:=F i a r;exact⟨c,D,B.kept k⟩⟩
 have I:Hid (∀u∈g.flatten,u.oneCell'=true):=fun u y=>by
  obtain⟨c,D,y⟩:=List.mem_flatten.1 y;obtain⟨i,r,rfl⟩:=List.mem_iff_getElem.1 D;obtain⟨c2,f,v,rfl,B⟩:=F i _ (List.getElem?_eq_getElem (by omega));rw[List.getElem?_eq_getElem r]at f;injection f with f;rw[f]at y;obtain⟨a,c,rfl,_,_⟩:=B.form;simp only[entC,List.mem_cons,List.not_mem_nil,or_false]at y
  rcases y with rfl|rfl|rfl|rfl|rfl|rfl|rfl|rfl <;> rfl
 have w3:IntKind.i64.wrap (l.length:Int)=(l.length:Int):=by rw[IntKind.wrap_i64];omega
 obtain⟨O,r,x,t,s⟩:=info_parts fc;clear hl Q P F E q
 go_enter func39,ntmps39
 go_wp2_with fail
 go_loop [3,5,11] (fun g _ vi=>∃k m:Nat,k<=2/\vi=k/\g=m/\m=(if k=0 then 0 else l.length)) (fun _ _ vi=>2 - (intOf vi).toNat)
 case atStart=>exact⟨0,0,by omega,rfl,rfl,rfl⟩
 case round =>
  obtain⟨k,m,X,rfl,rfl,o⟩:=hrel
  rcases(by omega:k=0\/k=1\/k=2)with rfl|rfl|rfl
  ·obtain rfl:m=0:=o;have N:=T.out w kr;go_wp2_with fail
   go_round
   case rel=>exact⟨1,l.length,by omega,rfl,by simp,rfl⟩
   case measure=>simp[intOf]
  ·obtain rfl:m=l.length:=o;have M:=R.out w kr
   have V:¬(l.length:Int) < 0:=by omega
   go_wp2_with fail
   go_round
   case rel=>exact⟨2,l.length,by omega,rfl,by simp,rfl⟩
   case measure=>simp[intOf]
  ·obtain rfl:m=l.length:=o;go_wp2_with (go_at_call 70;refine(ur l.length _ (by omega)).mono ?_);rintro e w1 ⟨gv,rfl,b,C,ga,gc,rfl⟩;go_wp2_with fail
   go_loopw [6,8,27] (fun vd _ vi wr=>∃k m:Nat,k<=2/\vi=k/\m=(if k=0 then 0 else l.length)/\Hid (wr.ownsRow w.heap.size 52 8 vd m (if k=0 then[]else g.flatten))/\Kept [] w wr) (fun _ _ vi _=>2 - (intOf vi).toNat)
   case atStart=>exact⟨0,0,by omega,rfl,rfl,b,C⟩
   case round =>
    obtain⟨k,m,X,rfl,o,J,d⟩:=hrel;have U:=d.size
    rcases(by omega:k=0\/k=1\/k=2)with rfl|rfl|rfl
    ·obtain rfl:m=0:=o;have N:=T.out wr d;have b:wr.ownsRow w.heap.size 52 8 _ 0 []:=J.out;go_wp2_with (at_builtin;refine wpList_plain rfl fun K' hK'=>bG _ _ 27 rfl w.heap.size 52 O bN 8 88 underlying27 r x t s rfl (by decide) _ 0 [] rfl b (.slice aa l.length Z) l.length g.flatten rfl (H4.out.kept d) I.out (by unfold maxLen;omega) (by omega) (by omega) fun a3 c3 w3' hown3 hg3 hl3=>hK' _ _ ?_);have p:Kept [] w w3':=d.fresh hg3 (fun z hz=>(ak b z hz).1);clear hg3 N b;go_wp2_with fail
     go_roundw
     case rel=>exact⟨1,0+l.length,by omega,rfl,by simp,(by show World.ownsRow _ _ _ _ _ _ _;simpa using hown3),p⟩
     case measure=>simp[intOf]
    ·obtain rfl:m=l.length:=o;have M:=R.out wr d;have b:wr.ownsRow w.heap.size 52 8 _ l.length g.flatten:=J.out;have n:Row wr 8 () 0 []:=⟨rfl,by omega,none,0,rfl,by omega,fun h=>by omega⟩;go_wp2_with (at_builtin;refine wpList_plain rfl fun K' hK'=>bG _ _ 27 rfl w.heap.size 52 O bN 8 88 underlying27 r x t s rfl (by decide) _ l.length g.flatten rfl b () 0 [] rfl n (by simp) (by unfold maxLen;omega) (by omega) (by omega) fun a3 c3 w3' hown3 hg3 hl3=>hK' _ _ ?_);have p:Kept [] w w3':=d.fresh hg3 (fun z hz=>(ak b z hz).1);clear hg3 M b n;go_wp2_with fail
     go_roundw
     case rel=>exact⟨2,l.length+0,by omega,rfl,by simp,(by show World.ownsRow _ _ _ _ _ _ _;simpa using hown3),p⟩
     case measure=>simp[intOf]
    ·obtain rfl:m=l.length:=o;have b:=J.out;rw[if_neg (by decide)]at b;obtain⟨a,c,rfl⟩:=aG b;have A:=L wr d;have j:aU wr (.slice a l.length c) l:=ag.of_own b A.1 A.2.1 A.2.2 (by omega);have G:=hid j;clear b j A;go_wp2_with fail;go_ret;exact⟨_,rfl,G,d⟩
end Go.Proofs.YtcidfldeiklcjaaGreatDoor
namespace Go.Proofs.YtcidfldeiklcjaaGreatDoor.Dt
open Tape Wire
def pssE(p:Pss):List UInt8:=Wire.kO p.name++(Wire.intE p.pub++(Wire.zp p.attrs++Wire.yX p.guests))
def ph(h:List Int)(q:List UInt8)(rv:List Int)(ps:List Pss):List UInt8:=Wire.yX h++(Wire.kO q++(Wire.yX rv++(Wire.intE ps.length++ps.flatMap pssE)))
def rdP(r:Rd):Pss × Rd :=
 (⟨(Wire.text r).1,(Wire.ar 59 (-9223372036854775808) (Wire.text r).2).1,(Wire.texts (Wire.ar 59 (-9223372036854775808) (Wire.text r).2).2).1,
  (Wire.nums (Wire.texts (Wire.ar 59 (-9223372036854775808) (Wire.text r).2).2).2).1⟩,(Wire.nums (Wire.texts (Wire.ar 59 (-9223372036854775808) (Wire.text r).2).2).2).2)
def cL:Nat->Rd->List Pss->List Pss × Rd
 |0,r,acc=>(acc,r)
 |n+1,r,acc=>if r.rest.isEmpty then(acc,r)else cL n (rdP r).2 (acc++[(rdP r).1])
def r1(s:List UInt8):Rd:=(Wire.nums ⟨s,false⟩).2
def hd(s:List UInt8):List Int:=(Wire.nums ⟨s,false⟩).1
def r2(s:List UInt8):Rd:=(Wire.text (r1 s)).2
def qn(s:List UInt8):List UInt8:=(Wire.text (r1 s)).1
def r3(s:List UInt8):Rd:=(Wire.nums (r2 s)).2
def rv(s:List UInt8):List Int:=(Wire.nums (r2 s)).1
def r4(s:List UInt8):Rd:=(Wire.ar 59 0 (r3 s)).2
def ps(s:List UInt8):List Pss:=(cL (Wire.ar 59 0 (r3 s)).1.toNat (r4 s) []).1
def r5(s:List UInt8):Rd:=(cL (Wire.ar 59 0 (r3 s)).1.toNat (r4 s) []).2
def endB(r:Rd):Bool:=!r.bad&&r.rest.isEmpty
def okT(s:List UInt8):Bool:=(endB (r5 s)&&decide ((hd s).length=5))&&decide (ph (hd s) (qn s) (rv s) (ps s)=s)
def xr(s:List UInt8):Int:=if okT s then(hd s).getD 2 0 else 0
end Go.Proofs.YtcidfldeiklcjaaGreatDoor.Dt
namespace Go.Proofs.YtcidfldeiklcjaaGreatDoor
open Go.RowKit
open Go.Proofs.Tryz
open Lib(hid)
theorem nU(l:List (List UInt8))(x:List UInt8)(h:x∈l):x.length<=(l.flatMap Wire.kO).length/\(Wire.kO x).length<=(l.flatMap Wire.kO).length:=by
 induction l with
 |nil=>cases h
 |cons a l ih =>
  have h1:x.length<=(Wire.kO x).length:=by simp only[Wire.kO,List.length_append];omega
  rw[List.flatMap_cons,List.length_append]
  rcases List.mem_cons.1 h with rfl|h
  ·omega
  ·have:=ih h;omega
theorem qP(l:List (List UInt8))(k:Nat):((l.take k).flatMap Wire.kO).length<=(l.flatMap Wire.kO).length:=by
 conv=>rhs;rw[<-List.take_append_drop k l]
 rw[List.flatMap_append,List.length_append];omega
theorem zA(b:Nat)(r:Wire.Rd){n:Int}{r1:Wire.Rd}(hq:Wire.ar 59 0 r=(n,r1))(w:World)(h:RdAt w b r)(hE:Env w)(hs:Fits r) :
  Calls prog 127 #[.pointer (some ⟨b,0,none⟩)] w fun en w' =>
   en=.returned n/\RdAt w' b r1/\Kept [b] w w':=by
 have H:=hid hq;clear hq
 go_enter func127,ntmps127
 go_wp2_with (go_at_call 171;refine(cW b r 59 _ H.out _ h hE hs).mono ?_);rintro e w1 ⟨rfl,h1,hk1⟩;go_wp2;go_ret;exact⟨rfl,h1,hk1⟩
theorem sq(b:Nat)(r:Wire.Rd)(w:World)(h:RdAt w b r) :
  Calls prog 128 #[.pointer (some ⟨b,0,none⟩)] w fun en w'=>en=.returned r.rest.length/\w=w':=by
 have c0:=h.c0
 go_enter func128,ntmps128
 go_wp2;go_ret;exact⟨by simp,rfl⟩
theorem sw(n:Int)(w:World)(hn:Wire.I64 n)(h0:0<=n)(hE:Env w) :
  Calls prog 57 #[n] w fun e w'=>e=.returned (.string ⟨(Wire.intE n).toArray⟩)/\Kept [] w w':=by
 have H:=hid (oD n w hn hE)
 have d0:decide (n < 0)=false:=by simp;omega
 go_enter func57,ntmps57
 go_wp2_with (go_at_call 93;refine H.out.mono ?_);rintro e w1 ⟨rfl,hk⟩;go_wp2;go_ret;exact⟨rfl,hk⟩
def yT(w0:World)(b:Nat)(l:List (List UInt8))(i:Value)(wr:World):Prop :=
 ∃k:Nat,k<=l.length/\i=k/\Lib.IsBuilder TB 5 w0.heap.size b (Lib.byteCells (Lib.itoa l.length++[91]++(l.take k).flatMap Wire.kO)) wr/\Kept [] w0 wr
theorem jW(v:Value)(l:List (List UInt8))(w:World)(hv:Row w 1 v l.length (strs l))(hE:Env w)(hl:l.length<=100000000)(hf:(l.flatMap Wire.kO).length<=100000000) :
  Calls prog 212 #[v,.func (.func 85) #[] #[]] w fun e w'=>e=.returned (.string ⟨(Wire.zp l).toArray⟩)/\Kept [] w w':=by
 have t:=hv;obtain⟨_,L,a,c,rfl,_,_⟩:=t;have T:=Wire.iE l.length ⟨by omega,by omega⟩;have M:=bcat
 go_enter func212,ntmps212
 go_wp2_with (first
  |(go_at_call 139;refine(dQ l.length _ ⟨by omega,by omega⟩ (by exact hE.alloc _)).mono ?_;rintro e s ⟨rfl,A⟩))
 have z:Kept [] w s:=((Kept.refl [] w).alloc _).trans A;have u:=A.size;rw[World.size_alloc]at u
 have E:Lib.IsBuilder TB 5 w.heap.size w.heap.size [] s :=
  Or.inl ⟨Nat.le_refl _,(),(A.block _ (by simp) (by simp)).trans (heap_alloc_new w _),World.ownsRow_nil _ _ _ _,by simp[Value.ownBlock]⟩
 have d:=cE w.heap.size w.heap.size [] ⟨(Lib.itoa l.length++[91]).toArray⟩ s E (by simp[ByteArray.size];omega) (by omega);have U:=hid d;clear d;go_wp2_with (go_at_call 179;refine U.mono ?_);rintro e Q ⟨rfl,D,q⟩;have y:Kept [] w Q:=z.then_below q;go_wp2_with fail
 go_loopw [7,15] (fun _ i wr=>yT w w.heap.size l i wr) (fun _ i _=>l.length - (intOf i).toNat)
 case atStart=>exact⟨0,Nat.zero_le _,rfl,Or.inr (by simpa [Lib.strCells_toArray]using D),y⟩
 case round =>
  obtain⟨k,R,rfl,g,b⟩:=hrel;have hE':=hE.kept0 b;have j:=hv.kept b
  by_cases hlt:k < l.length
  ·obtain⟨bb,off,rfl,N⟩:=j.at_ (by omega);have Y:=N k _ (pi hlt);have Z:=nU l l[k] (List.getElem_mem hlt);have n:=qP l k;have J:=hid (List.take_succ_eq_append_getElem hlt);have m:=b.size;have V:=hid (fm l[k] wr (by omega) hE');clear N
   go_wp2_with (first
    |(go_at_call 85;refine V.mono ?_))
   rintro e r ⟨rfl,f⟩
   have C:Lib.IsBuilder TB 5 w.heap.size w.heap.size (Lib.byteCells (Lib.itoa l.length++[91]++(l.take k).flatMap Wire.kO)) r:=by
    rcases g with g|g
    ·exact Or.inl (dF g f)
    ·exact Or.inr (dF g f)
   have d:=cE w.heap.size w.heap.size _ ⟨(Wire.kO l[k]).toArray⟩ r C
    (by rw[Lib.byteCells_length];simp only[ByteArray.size,List.size_toArray,List.length_append,List.length_singleton];omega) (by have:=f.size;omega)
   have I:=hid d;clear d;go_wp2_with (go_at_call 179;refine I.mono ?_);rintro e P ⟨rfl,B,o⟩;have x:Kept [] w P:=(b.trans f).then_below o;go_wp2
   go_roundw
   case rel =>
    refine⟨k+1,by omega,by go_num,?_,x⟩;refine Or.inr ?_
    have G:Lib.itoa l.length++[91]++(l.take (k+1)).flatMap Wire.kO=(Lib.itoa l.length++[91]++(l.take k).flatMap Wire.kO)++Wire.kO l[k]:=by
     rw[J.out,List.flatMap_append];simp only[List.flatMap_cons,List.flatMap_nil,List.append_nil,List.append_assoc]
    rw[G,Lib.byteCells_append,<-Lib.strCells_toArray (Wire.kO l[k])];exact B
   case measure=>simp[intOf];omega
  ·obtain rfl:k=l.length:=by omega
   rw[List.take_length]at g;have n:=hf;have m:=b.size
   generalize O:l.flatMap Wire.kO=F at g n
   have J:=hid O;clear O;have h:=Tryz.Builder_String_any w.heap.size w.heap.size _ wr g m;have X:=hid h;clear h;go_wp2_with (go_at_call 180;refine X.mono ?_);rintro e r ⟨rfl,p⟩;go_wp2;go_ret;refine⟨?_,b.then_below p⟩
   have G:Wire.zp l=Lib.itoa l.length++91::(F++[93]):=by
    unfold Wire.zp Wire.listE
    rw[J.out]
    simp
   rw[G]
   simp
theorem qN(v:Value)(l:List (List UInt8))(w:World)(hv:Row w 1 v l.length (strs l))(hE:Env w)(hl:l.length<=100000000)(hf:(l.flatMap Wire.kO).length<=100000000) :
  Calls prog 175 #[v] w fun e w'=>e=.returned (.string ⟨(Wire.zp l).toArray⟩)/\Kept [] w w':=by
 have H:=hid (jW v l w hv hE hl hf)
 go_enter func175,ntmps175
 go_wp2_with (go_at_call 212;refine H.out.mono ?_);rintro e w1 ⟨rfl,hk⟩;go_wp2;go_ret;exact⟨rfl,hk⟩
end Go.Proofs.YtcidfldeiklcjaaGreatDoor
