/- saneAccount: what is told of each operation of its region 5. -/
import Derived.Test.YtpcmamoomaddoaaGreatDoorSnq
import Derived.Test.YtpcmamoomaddoaaGreatDoorAcp
import Derived.Deep.RegionHeld3
import Derived.OrdersHeld
/- JOINED: Snm Inv Sni -/
/- saneAccount: what Account hands back, row by row; a store into a block of empty slices changes none of it. -/
namespace Go.Proofs.YtpcmamoomaddoaaGreatDoor
open Go.RowKit
def nilS:Value:=.slice none 0 0
theorem nilB_of {w:World} {b:Nat} {T:TypeId} (h:Blk w b T #[.slice none 0 0,.slice none 0 0,.slice none 0 0]) (i:Nat) (v:Value) (hv:w.cell? ⟨b,i,none⟩=some v):v=nilS:=by
 rw [h.cell i] at hv;have:=Array.mem_of_getElem? hv;simp at this;exact this
section
variable {w w':World} {b:Nat} {T:TypeId}
theorem Row.store {size n:Nat} {v:Value} {l:List Value} (h:Row w size v n l) (hb:Blk w b T #[.slice none 0 0,.slice none 0 0,.slice none 0 0]) (k:Kept [b] w w') (hl:∀ x∈l,x≠nilS):Row w' size v n l:=by
 obtain ⟨h1,h2,a,c,hv,hcc,hc⟩:=h;refine ⟨h1,h2,a,c,hv,hcc,fun hn=>?_⟩;obtain ⟨b',off,ha,hcell⟩:=hc hn;refine ⟨b',off,ha,fun j u hu=>?_⟩;have h3:=hcell j u hu;have hne:b'≠b:=fun e=>hl u (List.mem_of_getElem? hu) (nilB_of hb (off+j) u (e▸h3));exact (k.cell (World.block_lt_of_cell? w _ h3) (by simpa using hne)).trans h3
/-- what Account hands back at the example -/
def SanC (w:World) (cs:List Value):Prop:=∃ vm vu v0 t0 xa xc t1 qa qc,cs=[.slice qa 1 qc,vm,vu]∧Row w 3 vm 2 [v0,t0,.int .i64 (-1),.slice xa 1 xc,t1,.int .i64 (-1)]∧Row w 4 vu 1 [.int .i64 0,.int .i64 0,.int .i64 0,.int .i64 (-1)] ∧
 Row w 2 v0 1 [.string ⟨ageB.toArray⟩,.int .i64 17]∧Row w 1 t0 1 (ints [1])∧Row w 1 t1 1 (ints [2])
theorem SanC.kept {cs:List Value} (h:SanC w cs) (k:Kept [] w w'):SanC w' cs:=by
 obtain ⟨vm,vu,v0,t0,xa,xc,t1,qa,qc,h0,h1,h2,h3,h4,h6⟩:=h;exact ⟨vm,vu,v0,t0,xa,xc,t1,qa,qc,h0,h1.kept k,h2.kept k,h3.kept k,h4.kept k,h6.kept k⟩
theorem row_ne {size n:Nat} {v:Value} {l:List Value} (h:Row w size v (n+1) l):v≠nilS:=by
 obtain ⟨a,c,rfl,_,_⟩:=h.form
 unfold nilS
 simp
theorem SanC.store {cs:List Value} (h:SanC w cs) (hb:Blk w b T #[.slice none 0 0,.slice none 0 0,.slice none 0 0]) (k:Kept [b] w w'):SanC w' cs:=by
 obtain ⟨vm,vu,v0,t0,xa,xc,t1,qa,qc,h0,h1,h2,h3,h4,h6⟩:=h;have n0:=row_ne h3;have n1:=row_ne h4;have n2:=row_ne h6;refine ⟨vm,vu,v0,t0,xa,xc,t1,qa,qc,h0,h1.store hb k ?_,h2.store hb k ?_,h3.store hb k ?_,h4.store hb k ?_,h6.store hb k ?_⟩
 ·intro x hx;simp only [List.mem_cons,List.not_mem_nil,or_false] at hx
  rcases hx with rfl|rfl|rfl|rfl|rfl|rfl <;> first|assumption|simp [nilS]
 all_goals (intro x hx;simp [ints] at hx;rcases hx with rfl|rfl <;> simp [nilS])
theorem nums_store {v:Value} (h:Row w 1 v 2 (ints [4,9])) (hb:Blk w b T #[.slice none 0 0,.slice none 0 0,.slice none 0 0]) (k:Kept [b] w w'):Row w' 1 v 2 (ints [4,9]) :=
 h.store hb k fun x hx=>by
  simp [ints] at hx
  rcases hx with rfl|rfl <;> simp [nilS]
theorem san_of {cs:List Value} (h:CrR w cs ⟨[predSan],[⟨[(ageB,17)],[1],-1⟩,⟨[(ageB,20)],[2],-1⟩],[⟨0,0,0,-1⟩]⟩):SanC w cs:=by
 obtain ⟨vq,vm,vu,rfl,hq,hm,hu⟩:=h;obtain ⟨qa,qc,rfl,_,_⟩:=RowOf.form hq;obtain ⟨ms,hml,hmc,hme,hmr⟩:=hm;obtain ⟨us,hul,huc,hue,hur⟩:=hu;obtain ⟨c0,hc0,vb0,vt0,e0,b0,r0⟩:=hme 0 _ rfl;obtain ⟨c1,hc1,vb1,vt1,e1,b1,r1⟩:=hme 1 _ rfl;obtain ⟨d0,hd0,f0⟩:=hue 0 _ rfl
 obtain rfl:ms=[c0,c1]:=by
  match ms,hml with
  | [x,y],_=>simp at hc0 hc1;subst hc0 hc1;rfl
 obtain rfl:us=[d0]:=by
  match us,hul with
  | [x],_=>simp at hd0;subst hd0;rfl
 subst e0 e1;have f0':d0=[.int .i64 0,.int .i64 0,.int .i64 0,.int .i64 (-1)]:=f0;subst f0';obtain ⟨bs,hbl,hbc,hbe,hbr⟩:=b0;obtain ⟨g0,hg0,k0⟩:=hbe 0 _ rfl
 obtain rfl:bs=[g0]:=by
  match bs,hbl with
  | [x],_=>simp at hg0;subst hg0;rfl
 have k0':g0=[.string ⟨ageB.toArray⟩,.int .i64 17]:=k0;subst k0';obtain ⟨xa,xc,rfl,_,_⟩:=RowOf.form b1;exact ⟨vm,vu,vb0,vt0,xa,xc,vt1,qa,qc,rfl,hmr,hur,hbr,r0,r1⟩
end
end Go.Proofs.YtpcmamoomaddoaaGreatDoor
/- A region in whatever order, walked once: each operation is shown by itself, from what is told of those that it waits for. -/
namespace Go.Proofs.YtpcmamoomaddoaaGreatDoor
open Go.RowKit
section
variable {P:Program} {ops:Array Oper} {Q:Exit→Act→World→Prop} {md:Region.Mode}
def leftIn (ops:Array Oper) (listed:Array Bool):Nat:=((List.range ops.size).filter fun i=>!listed.getD i true).length
theorem filter_less {p p':Nat→Bool} (h:∀ x,p' x=true→p x=true):∀ {l:List Nat},(l.filter p').length≤(l.filter p).length
 | []=>by simp
 | x::l=>by
  have:=filter_less h (l:=l);rw [List.filter_cons,List.filter_cons]
  by_cases h1:p' x=true
  ·rw [if_pos h1,if_pos (h x h1)];simpa using this
  ·rw [if_neg h1]
   split
   ·rw [List.length_cons];omega
   ·exact this
theorem filter_lt {p p':Nat→Bool} (h:∀ x,p' x=true→p x=true) {i:Nat} (h1:p i=true) (h2:p' i=false):∀ {l:List Nat},i∈l→(l.filter p').length < (l.filter p).length
 | x::l,hi=>by
  rw [List.filter_cons,List.filter_cons]
  rcases List.mem_cons.1 hi with rfl|hi
  ·have:=filter_less h (l:=l);rw [if_neg (by simp [h2]),if_pos h1,List.length_cons];omega
  ·have:=filter_lt h h1 h2 hi
   by_cases h3:p' x=true
   ·rw [if_pos h3,if_pos (h x h3)];simpa using this
   ·rw [if_neg h3]
    split
    ·rw [List.length_cons];omega
    ·exact this
theorem getD_set_self {listed:Array Bool} {i:Nat} {d:Bool} (h:listed.getD i true=false):(listed.setIfInBounds i true).getD i d=true:=by
 have hlt:i < listed.size:=by
  rcases Nat.lt_or_ge i listed.size with h'|h'
  ·exact h'
  ·simp [Array.getElem?_eq_none h'] at h
 simp [hlt]
theorem left_lt {listed:Array Bool} {i:Nat} (hi:i∈Region.ready md ops listed):leftIn ops (listed.setIfInBounds i true) < leftIn ops listed:=by
 obtain ⟨h0,o,ho,_⟩:=mem_ready.1 hi;refine filter_lt (i:=i) (fun x hx=>?_) (by rw [h0];rfl) (by rw [getD_set_self h0];rfl) (List.mem_range.2 (Array.getElem?_eq_some_iff.1 ho).1)
 by_cases hix:i=x
 ·subst hix;rw [h0];rfl
 ·rwa [getD_set_ne true hix] at hx
/-- Each step from a state in I leads to I. -/
theorem wpAny_inv {I:Array Bool→Act→World→Prop}
  (hstep:∀ (i:Nat) (listed:Array Bool) (a:Act) (w:World),i∈Region.ready md ops listed→I listed a w→wpOp P ops Q i (I (listed.setIfInBounds i true)) a w)
  (hend:∀ listed a w,Region.ready md ops listed=[]→I listed a w→Q .normal a w) :
  ∀ (fuel:Nat) (listed:Array Bool) (a:Act) (w:World),leftIn ops listed≤fuel→I listed a w→wpAny P md ops Q fuel listed a w
 | 0,listed,a,w,hf,hI=>by
  have hr:Region.ready md ops listed=[]:=by
   apply List.eq_nil_iff_forall_not_mem.2
   intro i hi;have:=left_lt hi;omega
  exact ⟨hr,hend _ _ _ hr hI⟩
 | fuel+1,listed,a,w,hf,hI =>
  ⟨fun hr=>hend _ _ _ hr hI,fun i hi=>wpOp_mono (fun a' w' h'=>wpAny_inv hstep hend fuel _ a' w' (by have:=left_lt hi;omega) h') (hstep i listed a w hi hI)⟩
def dstOf (ops:Array Oper) (i:Nat):Option Tmp:=(ops[i]?).bind (·.dst)
/-- the state with the values of those that have come up, in the order of the text -/
def fill (ops:Array Oper) (a0:Act) (vs:Nat→Value) (listed:Nat→Bool):Nat→Act
 | 0=>a0
 | n+1=>if listed n then (fill ops a0 vs listed n).put (dstOf ops n) (vs n) else fill ops a0 vs listed n
def updV {α:Type} (f:Nat→α) (i:Nat) (v:α) (j:Nat):α:=if j=i then v else f j
theorem updV_self {α:Type} {f:Nat→α} {i:Nat} {v:α}:updV f i v i=v:=if_pos rfl
theorem updV_ne {α:Type} {f:Nat→α} {i j:Nat} {v:α} (h:j≠i):updV f i v j=f j:=if_neg h
theorem put_size (a:Act) (d:Option Tmp) (v:Value):(a.put d v).tmps.size=a.tmps.size:=by cases d <;> simp [Act.put]
theorem fill_size {a0:Act} {vs:Nat→Value} {listed:Nat→Bool}:∀ n,(fill ops a0 vs listed n).tmps.size=a0.tmps.size
 | 0=>rfl
 | n+1=>by
  rw [fill]
  split
  ·rw [put_size];exact fill_size n
  ·exact fill_size n
theorem fill_congr {a0:Act} {vs vs':Nat→Value} {l l':Nat→Bool}:∀ {n:Nat},(∀ j,j < n→l j=l' j)→(∀ j,j < n→l j=true→vs j=vs' j)→fill ops a0 vs l n=fill ops a0 vs' l' n
 | 0,_,_=>rfl
 | n+1,h1,h2=>by
  rw [fill,fill,h1 n (by omega),fill_congr (n:=n) (fun j hj=>h1 j (by omega)) (fun j hj=>h2 j (by omega))]
  by_cases h:l n=true
  ·rw [h2 n (by omega) h]
  ·rw [if_neg (by rw [←h1 n (by omega)];exact h),if_neg (by rw [←h1 n (by omega)];exact h)]
def Apart (ops:Array Oper):Prop:=∀ i j d,i≠j→dstOf ops i=some d→dstOf ops j≠some d
theorem fill_put (hd:Apart ops) {a0:Act} {vs:Nat→Value} {l:Nat→Bool} {i:Nat} {v:Value} (hl:l i=false):∀ {n:Nat},i < n →
  (fill ops a0 vs l n).put (dstOf ops i) v=fill ops a0 (updV vs i v) (updV l i true) n
 | n+1,hi=>by
  rw [fill,fill]
  by_cases hin:i=n
  ·subst hin;rw [updV_self,updV_self,if_pos rfl,if_neg (by simp [hl])]
   congr 1
   exact fill_congr (fun j hj=>(updV_ne (by omega)).symm) (fun j hj _=>(updV_ne (by omega)).symm)
  ·have ih:=fill_put hd (a0:=a0) (vs:=vs) (l:=l) (v:=v) hl (n:=n) (by omega);rw [updV_ne (f:=l) (fun e=>hin e.symm),updV_ne (f:=vs) (fun e=>hin e.symm)]
   by_cases h:l n=true
   ·rw [if_pos h,if_pos h,←ih];exact Act.put_comm _ _ _ fun d h1=>hd n i d (fun e=>hin e.symm) h1
   ·rw [if_neg h,if_neg h];exact ih
theorem fill_look (hd:Apart ops) {a0:Act} {vs:Nat→Value} {l:Nat→Bool} {o:Oper} {n:Nat} (hs:∀ cs b,o.op≠.select cs b)
  (hl:∀ j,j < n→l j=false→∀ d,dstOf ops j=some d→d∉o.looksAt ops):∀ k,k≤n →
  execOp (fill ops a0 vs (fun j=>l j || decide (j < k)) n).eval o=execOp (fill ops a0 vs l n).eval o ∧
  Region.wanted o (yielded ops (fill ops a0 vs (fun j=>l j || decide (j < k)) n).tmps)=Region.wanted o (yielded ops (fill ops a0 vs l n).tmps)
 | 0,_=>by
  rw [show (fun j=>l j || decide (j < 0))=l from funext fun j=>by simp];exact ⟨rfl,rfl⟩
 | k+1,hk=>by
  have ih:=fill_look hd (a0:=a0) (vs:=vs) hs hl k (by omega)
  by_cases h:l k=true
  ·rw [show (fun j=>l j || decide (j < k+1))=(fun j=>l j || decide (j < k)) from funext fun j=>by
    by_cases hjk:j=k
    ·subst hjk;simp [h]
    ·have:(j < k+1)=(j < k):=by simp;omega
     simp only [this]]
   exact ih
  ·have h0:l k=false:=by simpa using h
   have h2:(fun j=>l j || decide (j < k)) k=false:=by simp [h0]
   have hkn:k < n:=by omega
   have h3:=fill_put hd (a0:=a0) (vs:=vs) (l:=fun j=>l j || decide (j < k)) (v:=vs k) h2 (n:=n) hkn
   rw [show updV vs k (vs k)=vs from funext fun j=>by unfold updV;split <;> simp_all,
    show updV (fun j=>l j || decide (j < k)) k true=(fun j=>l j || decide (j < k+1)) from funext fun j=>by
     unfold updV
     split
     ·next e=>subst e;simp
     ·have:(j < k+1)=(j < k):=by simp;omega
      simp only [this]] at h3
   rw [←h3,execOp_put (ops:=ops) o hs _ _ _ (hl k (by omega) h0),wanted_put (ops:=ops) o _ _ _ (hl k (by omega) h0)];exact ih
/-- all have come up -/
def full (ops:Array Oper) (a0:Act) (vs:Nat→Value):Act:=fill ops a0 vs (fun _=>true) ops.size
theorem fill_look_all (hd:Apart ops) {a0:Act} {vs:Nat→Value} {l:Nat→Bool} {o:Oper} (hs:∀ cs b,o.op≠.select cs b)
  (hl:∀ j,j < ops.size→l j=false→∀ d,dstOf ops j=some d→d∉o.looksAt ops) :
  execOp (full ops a0 vs).eval o=execOp (fill ops a0 vs l ops.size).eval o ∧
  Region.wanted o (yielded ops (full ops a0 vs).tmps)=Region.wanted o (yielded ops (fill ops a0 vs l ops.size).tmps):=by
 have h:=fill_look hd (a0:=a0) (vs:=vs) hs hl ops.size (Nat.le_refl _);rw [show fill ops a0 vs (fun j=>l j || decide (j < ops.size)) ops.size=full ops a0 vs from fill_congr (fun j hj=>by simp [hj]) (fun j hj _=>rfl)] at h;exact h
theorem put_same {a a':Act} {d:Option Tmp} {u v:Value} (h:a.put d u=a.put d v) (hs:a'.tmps.size=a.tmps.size):a'.put d u=a'.put d v:=by
 cases d with
 | none=>rfl
 | some d =>
  simp only [Act.put,Act.mk.injEq,and_true] at h ⊢
  rcases Nat.lt_or_ge d a.tmps.size with hd|hd
  ·have h1:=congrArg (fun x=>x[d]?) h
   simp [hd] at h1
   rw [h1]
  ·rw [Array.setIfInBounds_eq_of_size_le (by omega),Array.setIfInBounds_eq_of_size_le (by omega)]
theorem wpOp_swap {i:Nat} {o:Oper} (ho:ops[i]?=some o) {a a':Act} {w:World} {Z:Value→World→Prop} (he:execOp a.eval o=execOp a'.eval o)
  (hw:Region.wanted o (yielded ops a.tmps)=Region.wanted o (yielded ops a'.tmps)) (hs:a'.tmps.size=a.tmps.size) (hQ:∀ c w,Q (.panic c) a w→Q (.panic c) a' w)
  (h:wpOp P ops Q i (fun b w'=>∃ v,b=a.put o.dst v∧Z v w') a w):wpOp P ops Q i (fun b w'=>∃ v,b=a'.put o.dst v∧Z v w') a' w:=by
 unfold wpOp at *
 simp only [ho] at *;rw [hw] at h
 have turn:∀ {u:Value} {w':World},(∃ v,a.put o.dst u=a.put o.dst v∧Z v w')→∃ v,a'.put o.dst u=a'.put o.dst v∧Z v w':=fun ⟨v,h1,h2⟩=>⟨v,put_same h1 hs,h2⟩
 split
 ·rename_i hw';simp only [hw',if_true] at h
  rcases h with h|⟨hasks,hlets⟩
  case inr=>exact .inr ⟨by unfold Oper.asks at *;rw [he] at hasks;exact hasks,hlets⟩
  refine .inl ?_
  unfold Oper.wp at *
  rw [he] at h
  generalize (execOp a'.eval o).run P w=r at *
  cases r with
  | ok n w' =>
   cases n <;> simp only [Oper.upon] at h ⊢
   case value u=>exact turn h
   case skip=>exact turn h
   case defer d =>
    obtain ⟨v,h1,_⟩:=h;have h2:=congrArg (fun b=>b.defers.length) h1
    cases hd:o.dst <;> simp [Act.put,hd] at h2
   case enter f args =>
    refine Calls.mono h fun e w'' he=>?_
    cases e with
    | returned u=>exact turn he
    | panicked c=>exact hQ _ _ he
    | outgrown=>exact he
   case row row args=>exact Rows.mono h fun u w'' he=>turn he
  | halt x w' =>
   cases x <;> simp only [Oper.upon] at h ⊢
   case panic u=>exact hQ _ _ h
 ·rename_i hw';simp only [hw'] at h;exact turn h
/-- what an operation looks at and another one makes, it waits for -/
def waitsAll (md:Region.Mode) (ops:Array Oper):Bool :=
 (List.range ops.size).all fun i=>match ops[i]? with
  | some o=>(List.range ops.size).all fun j=>match dstOf ops j with
   | some d=>!(o.looksAt ops).contains d || o.after.any fun e=>Region.binds md e&&(e.on==j)
   | none=>true
  | none=>true
def apartAll (ops:Array Oper):Bool :=
 (List.range ops.size).all fun i=>(List.range ops.size).all fun j=>(i==j) || (match dstOf ops i with|some d=>!(dstOf ops j==some d)|none=>true)
def downAll (md:Region.Mode) (ops:Array Oper):Bool :=
 (List.range ops.size).all fun i=>match ops[i]? with|some o=>o.after.all fun e=>!Region.binds md e || decide (e.on < i)|none=>true
theorem apart_of (h:apartAll ops=true):Apart ops:=fun i j d hij hi hj=>by
 have hin:∀ {k d},dstOf ops k=some d→k < ops.size:=fun {k d} hk=>by
  unfold dstOf at hk
  cases ho:ops[k]? with
  | none=>rw [ho] at hk;cases hk
  | some o=>exact (Array.getElem?_eq_some_iff.1 ho).1
 have h1:=List.all_eq_true.1 (List.all_eq_true.1 h i (List.mem_range.2 (hin hi))) j (List.mem_range.2 (hin hj));rw [hi,hj] at h1
 simp [hij] at h1
theorem all_of_ready (h:downAll md ops=true) {listed:Array Bool} (hr:Region.ready md ops listed=[]) (hz:listed.size=ops.size):∀ i,i < ops.size→listed.getD i false=true:=fun i=>by
 induction i using Nat.strongRecOn with
 | _ i ih =>
  intro hi
  cases hl:listed.getD i false with
  | true=>rfl
  | false =>
   have hm:i∈Region.ready md ops listed:=by
    refine mem_ready.2 ⟨?_,ops[i],by simp [hi],fun e he hb=>?_⟩
    ·have:i < listed.size:=by omega
     simpa [this] using hl
    ·have h1:=List.all_eq_true.1 h i (List.mem_range.2 hi);rw [show ops[i]?=some ops[i] by simp [hi]] at h1;have h2:=Array.all_eq_true_iff_forall_mem.1 h1 e he;rw [hb] at h2
     have h3:e.on < i:=by simpa using h2
     exact ih e.on h3 (by omega)
   rw [hr] at hm
   cases hm
def lst (listed:Array Bool) (j:Nat):Bool:=listed.getD j false
theorem lst_set {listed:Array Bool} {i:Nat} (h:listed.getD i true=false):lst (listed.setIfInBounds i true)=updV (lst listed) i true:=funext fun j=>by
 unfold lst updV
 split
 ·next e=>subst e;exact getD_set_self h
 ·next e=>exact getD_set_ne false (fun e'=>e e'.symm)
/-- A region in whatever order: whatever comes up leads from Inv to Inv. -/
theorem wp_region_inv {id:Nat} {a0:Act} {w:World} (Inv:(Nat→Bool)→(Nat→Value)→World→Prop) (hm:P.follows .mixedOrders=true)
  (hchk:(Region.noSelect ops&&waitsAll .any ops&&apartAll ops&&downAll .any ops)=true)
  (hQ:∀ c a d v w,Q (.panic c) (Act.put a d v) w→Q (.panic c) a w) (hQ':∀ c a d v w,Q (.panic c) a w→Q (.panic c) (Act.put a d v) w)
  (hS:Inv (fun _=>false) (fun _=>undef) w.drew)
  (hop:∀ i o l vs w,ops[i]?=some o→l i=false→(∀ e∈o.after,Region.binds .any e=true→l e.on=true)→Inv l vs w →
   ∀ K:Act→World→Prop,Shut (∀ v w',Inv (updV l i true) (updV vs i v) w'→K ((full ops a0 vs).put o.dst v) w')→wpOp P ops Q i K (full ops a0 vs) w)
  (hend:∀ l vs w,(∀ i,i < ops.size→l i=true)→Inv l vs w→Q .normal (full ops a0 vs) w):(Code.region id ops true).wp P Q a0 w:=by
 simp only [Bool.and_eq_true] at hchk;obtain ⟨⟨⟨c1,c2⟩,c3⟩,c4⟩:=hchk;have hd:=apart_of c3
 have hpan:∀ {vs:Nat→Value} {l:Nat→Bool} (n:Nat) {c w},Q (.panic c) (fill ops a0 vs l n) w→Q (.panic c) a0 w:=fun {vs l} n=>by
  induction n with
  | zero=>exact fun h=>h
  | succ n ih =>
   intro c w h;rw [fill] at h
   split at h
   ·exact ih (hQ _ _ _ _ _ h)
   ·exact ih h
 have hpan':∀ {vs:Nat→Value} {l:Nat→Bool} (n:Nat) {c w},Q (.panic c) a0 w→Q (.panic c) (fill ops a0 vs l n) w:=fun {vs l} n=>by
  induction n with
  | zero=>exact fun h=>h
  | succ n ih =>
   intro c w h;rw [fill]
   split
   ·exact hQ' _ _ _ _ _ (ih h)
   ·exact ih h
 refine wp_region_any hm (wpAny_inv (I:=fun listed a w=>listed.size=ops.size∧∃ vs,a=fill ops a0 vs (lst listed) ops.size∧Inv (lst listed) vs w) ?_ ?_ _ _ _ _ ?_ ?_)
 ·rintro i listed a w hi ⟨hz,vs,rfl,hI⟩;obtain ⟨h0,o,ho,hall⟩:=mem_ready.1 hi;have hlt:i < ops.size:=(Array.getElem?_eq_some_iff.1 ho).1
  have h0':lst listed i=false:=by
   have:i < listed.size:=by omega
   unfold lst
   simpa [this] using h0
  have hl:∀ j,j < ops.size→lst listed j=false→∀ d,dstOf ops j=some d→d∉o.looksAt ops:=fun j hj hlj d hjd hmem=>by
   have h1:=List.all_eq_true.1 c2 i (List.mem_range.2 hlt);rw [ho] at h1;have h2:=List.all_eq_true.1 h1 j (List.mem_range.2 hj);rw [hjd] at h2;simp only [Bool.or_eq_true,Bool.not_eq_true',Array.any_eq_true',Bool.and_eq_true,beq_iff_eq] at h2
   rcases h2 with h2|⟨e,he,hb,rfl⟩
   ·rw [List.contains_iff_mem.2 hmem] at h2
    cases h2
   ·have:=hall e he hb
    unfold lst at hlj
    rw [this] at hlj
    cases hlj
  obtain ⟨he,hw⟩:=fill_look_all hd (a0:=a0) (vs:=vs) (l:=lst listed) (o:=o) (fun cs b=>Region.noSelect_spec c1 i o cs b ho) hl;have hmain:=hop i o (lst listed) vs w ho h0' hall hI (fun b w'=>∃ v,b=(full ops a0 vs).put o.dst v∧Inv (updV (lst listed) i true) (updV vs i v) w') (fun v w' h1=>⟨v,rfl,h1⟩);refine wpOp_mono (fun b w'=>?_) (wpOp_swap ho he hw (by unfold full;rw [fill_size,fill_size]) (fun c w h=>hpan' _ (hpan _ h)) hmain);rintro ⟨v,rfl,h1⟩;refine ⟨by rw [Array.size_setIfInBounds];exact hz,updV vs i v,?_,by rw [lst_set h0];exact h1⟩;have:=fill_put hd (a0:=a0) (vs:=vs) (l:=lst listed) (v:=v) h0' hlt;rw [show dstOf ops i=o.dst by unfold dstOf;rw [ho];rfl] at this;rw [this,lst_set h0]
 ·rintro listed a w hr ⟨hz,vs,rfl,hI⟩;have hall:=all_of_ready c4 hr hz;have:=hend (lst listed) vs w hall hI;rw [show fill ops a0 vs (lst listed) ops.size=full ops a0 vs from fill_congr (fun j hj=>hall j hj) (fun _ _ _=>rfl)];exact this
 ·unfold leftIn
  refine Nat.le_trans (List.length_filter_le _ _) ?_
  simp
 ·have h0:lst (Array.replicate ops.size false)=fun _=>false:=funext fun j=>by
   unfold lst
   by_cases hj:j < ops.size
   ·simp [hj]
   ·simp [hj]
  refine ⟨by simp,fun _=>undef,?_,by rw [h0];exact hS⟩;rw [h0]
  have:∀ n,fill ops a0 (fun _=>undef) (fun _=>false) n=a0:=fun n=>by
   induction n with
   | zero=>rfl
   | succ n ih=>rw [fill,if_neg (by simp),ih]
  rw [this]
/-- all values put, operation by operation -/
def fullL:List Oper→Nat→(Nat→Value)→Act→Act
 | [],_,_,a=>a
 | o::r,n,vs,a=>fullL r (n+1) vs (a.put o.dst (vs n))
theorem fullL_snoc (o:Oper) (vs:Nat→Value):∀ (l:List Oper) (n:Nat) (a:Act),fullL (l++[o]) n vs a=(fullL l n vs a).put o.dst (vs (n+l.length))
 | [],n,a=>rfl
 | x::l,n,a=>by
  rw [List.cons_append,fullL,fullL,fullL_snoc o vs l,List.length_cons]
  congr 2
  omega
theorem full_eq (l:List Oper) (a0:Act) (vs:Nat→Value):full l.toArray a0 vs=fullL l 0 vs a0:=by
 have h:∀ n,n≤l.length→fill l.toArray a0 vs (fun _=>true) n=fullL (l.take n) 0 vs a0:=fun n=>by
  induction n with
  | zero=>intro _;rfl
  | succ n ih =>
   intro hn
   have h1:n < l.length:=by omega
   rw [fill,if_pos rfl,ih (by omega),List.take_succ_eq_append_getElem h1,fullL_snoc,List.length_take,Nat.zero_add,Nat.min_eq_left (by omega)]
   unfold dstOf
   simp [h1]
 unfold full
 rw [List.size_toArray,h _ (Nat.le_refl _),List.take_length]
theorem dep_of {after:Array Edge} {l:Nat→Bool} (h:∀ e∈after,Region.binds .any e=true→l e.on=true) (j:Nat) (hb:(after.any fun e=>Region.binds .any e&&(e.on==j))=true):l j=true:=by
 obtain ⟨e,he,h1⟩:=Array.any_eq_true'.1 hb;rw [Bool.and_eq_true,beq_iff_eq] at h1;rw [←h1.2];exact h e he h1.1
theorem wp_region_inv_list {ops:List Oper} {id:Nat} {a0:Act} {w:World} (Inv:(Nat→Bool)→(Nat→Value)→World→Prop) (F:(Nat→Value)→Act) (hm:P.follows .mixedOrders=true)
  (hchk:(Region.noSelect ops.toArray&&waitsAll .any ops.toArray&&apartAll ops.toArray&&downAll .any ops.toArray)=true)
  (hQ:∀ c a d v w,Q (.panic c) (Act.put a d v) w→Q (.panic c) a w) (hQ':∀ c a d v w,Q (.panic c) a w→Q (.panic c) (Act.put a d v) w)
  (hF:∀ vs,fullL ops 0 vs a0=F vs)
  (hS:Inv (fun _=>false) (fun _=>undef) w.drew)
  (hop:∀ i o l vs w,ops[i]?=some o→l i=false→(∀ e∈o.after,Region.binds .any e=true→l e.on=true)→Inv l vs w →
   ∀ K:Act→World→Prop,(∀ v w',Inv (updV l i true) (updV vs i v) w'→K ((F vs).put o.dst v) w')→if Region.wanted o (yielded ops.toArray (F vs).tmps)=true then Oper.wp P o (F vs) w K Q else K ((F vs).put o.dst undef) w)
  (hend:∀ l vs w,(∀ i,i < ops.length→l i=true)→Inv l vs w→Q .normal (F vs) w):(Code.region id ops.toArray true).wp P Q a0 w:=by
 have hF':∀ vs,full ops.toArray a0 vs=F vs:=fun vs=>(full_eq ops a0 vs).trans (hF vs);refine wp_region_inv Inv hm hchk hQ hQ' hS (fun i o l vs w ho hl hd hI K hK=>?_) (fun l vs w hl hI=>by rw [hF'];exact hend l vs w (fun i hi=>hl i (by simpa using hi)) hI);rw [hF'] at hK ⊢;exact wpOp_step ho fun K' hK'=>hop i o l vs w (by simpa using ho) hl hd hI K' fun v w' h=>hK' _ _ (hK v w' h)
end
end Go.Proofs.YtpcmamoomaddoaaGreatDoor
namespace Go.Proofs.YtpcmamoomaddoaaGreatDoor
open Go.RowKit
def IsI (w:World) (v:Value) (a b:Int):Prop:=∃ ad,v=.agg #[.int .i64 0,.slice ad 2 2,.int .i64 0,.int .i64 0,.int .i64 0,.int .i64 0,.int .i64 0]∧Row w 1 (.slice ad 2 2) 2 (ints [a,b])
theorem IsI.kept {w w':World} {v:Value} {a b:Int} (h:IsI w v a b) (k:Kept [] w w'):IsI w' v a b:=by
 obtain ⟨ad,h1,h2⟩:=h;exact ⟨ad,h1,h2.kept k⟩
def issL:List Iss:=[issSan 9 20,issSan 4 17,issSan 9 20]
def R5 (W:World) (TV SV:Value) (l:Nat→Bool) (vs:Nat→Value) (w:World):Nat→Prop
 | 0=>l 15=false→∃ a,vs 0=.agg #[.string ⟨#[105,100]⟩,.int .i64 4,.slice a 1 1,.slice none 0 0]∧Row w 1 (.slice a 1 1) 1 (strs [[97,103,101]])
 | 1=>l 15=false→RowOf PssR 4 w (vs 1) [keySan]
 | 2=>l 15=false→IsI w (vs 2) 9 20
 | 3=>l 15=false→IsI w (vs 3) 4 17
 | 4=>l 15=false→IsI w (vs 4) 9 20
 | 5=>l 15=false→RowOf IssR 7 w (vs 5) issL
 | 6=>vs 6=TV
 | 7=>vs 7=SV
 | 8=>l 15=false→RowOf SgtR 18 w (vs 8) [sgtSan]
 | 9=>l 15=false→∃ cs vn,vs 9=.tuple #[.agg (List.toArray cs),vn,.int .i64 0]∧SanC w cs∧Row w 1 vn 2 (ints [4,9])
 | 10=>∃ cs vn,vs 10=.tuple #[.agg (List.toArray cs),vn,.int .i64 0]∧SanC w cs∧Row w 1 vn 2 (ints [4,9])
 | 11=>∃ cs,vs 11=.agg (List.toArray cs)∧SanC w cs
 | 12=>Row w 1 (vs 12) 2 (ints [4,9])
 | 13=>vs 13=.int .i64 0
 | 14=>∃ b,vs 14=.pointer (some ⟨b,0,none⟩)∧W.heap.size≤b∧(l 15=false→Blk w b 67 #[.slice none 0 0,.slice none 0 0,.slice none 0 0])
 | 15=>(∀ k,k < 15→k≠12→k≠13→l k=true)∧∃ b cs,vs 14=.pointer (some ⟨b,0,none⟩)∧vs 11=.agg (List.toArray cs)∧Blk w b 67 cs.toArray
 | 16=>Row w 1 (vs 16) 2 (ints [4,9])
 | 17=>vs 17=.int .i64 0
 | _=>True
def San5 (W:World) (TV SV:Value) (l:Nat→Bool) (vs:Nat→Value) (w:World):Prop:=Kept [] W w∧∀ j,l j=true→R5 W TV SV l vs w j
section
variable {W w w':World} {TV SV:Value} {l:Nat→Bool} {vs:Nat→Value}
theorem updV_true {i j:Nat} (h:l j=true):updV l i true j=true:=by
 unfold updV
 split
 ·rfl
 ·exact h
theorem San5.step {i:Nat} {v:Value} (h:San5 W TV SV l vs w) (hi:l i=false) (h15:i≠15) (k:Kept [] w w') (hR:R5 W TV SV (updV l i true) (updV vs i v) w' i):San5 W TV SV (updV l i true) (updV vs i v) w':=by
 refine ⟨h.1.trans k,fun j hj=>?_⟩
 by_cases hji:j=i
 ·subst hji;exact hR
 ·have hlj:l j=true:=by rwa [updV_ne hji] at hj
  have e15:updV l i true 15=l 15:=updV_ne (Ne.symm h15);have ev:updV vs i v j=vs j:=updV_ne hji;have:=h.2 j hlj
  match j,this,ev with
  | 0,this,ev=>simp only [R5,e15,ev] at this ⊢;intro h0;obtain ⟨a,e1,e2⟩:=this h0;exact ⟨a,e1,e2.kept k⟩
  | 1,this,ev=>simp only [R5,e15,ev] at this ⊢;intro h0;exact (this h0).kept (fun _ _ x=>PssR.kept x k) k
  | 2,this,ev=>simp only [R5,e15,ev] at this ⊢;intro h0;exact (this h0).kept k
  | 3,this,ev=>simp only [R5,e15,ev] at this ⊢;intro h0;exact (this h0).kept k
  | 4,this,ev=>simp only [R5,e15,ev] at this ⊢;intro h0;exact (this h0).kept k
  | 5,this,ev=>simp only [R5,e15,ev] at this ⊢;intro h0;exact (this h0).kept (fun _ _ x=>IssR.kept x k) k
  | 6,this,ev=>simp only [R5,ev] at this ⊢;exact this
  | 7,this,ev=>simp only [R5,ev] at this ⊢;exact this
  | 8,this,ev=>simp only [R5,e15,ev] at this ⊢;intro h0;exact (this h0).kept (fun _ _ x=>SgtR.kept x k) k
  | 9,this,ev=>simp only [R5,e15,ev] at this ⊢;intro h0;obtain ⟨cs,vn,e1,e2,e3⟩:=this h0;exact ⟨cs,vn,e1,e2.kept k,e3.kept k⟩
  | 10,this,ev=>simp only [R5,ev] at this ⊢;obtain ⟨cs,vn,e1,e2,e3⟩:=this;exact ⟨cs,vn,e1,e2.kept k,e3.kept k⟩
  | 11,this,ev=>simp only [R5,ev] at this ⊢;obtain ⟨cs,e1,e2⟩:=this;exact ⟨cs,e1,e2.kept k⟩
  | 12,this,ev=>simp only [R5,ev] at this ⊢;exact this.kept k
  | 13,this,ev=>simp only [R5,ev] at this ⊢;exact this
  | 14,this,ev=>simp only [R5,e15,ev] at this ⊢;obtain ⟨b,e1,e2,e3⟩:=this;exact ⟨b,e1,e2,fun h0=>(e3 h0).kept k (by simp)⟩
  | 15,this,ev =>
   simp only [R5] at this ⊢;obtain ⟨hall,b,cs,e1,e2,e3⟩:=this;refine ⟨fun k h1 h2 h3=>updV_true (hall k h1 h2 h3),b,cs,?_,?_,e3.kept k (by simp)⟩
   ·rw [updV_ne (fun e=>by rw [←e,hall 14 (by decide) (by decide) (by decide)] at hi;cases hi)];exact e1
   ·rw [updV_ne (fun e=>by rw [←e,hall 11 (by decide) (by decide) (by decide)] at hi;cases hi)];exact e2
  | 16,this,ev=>simp only [R5,ev] at this ⊢;exact this.kept k
  | 17,this,ev=>simp only [R5,ev] at this ⊢;exact this
  | _+18,_,_=>trivial
theorem San5.store {v:Value} {b:Nat} {cs:List Value} (h:San5 W TV SV l vs w) (hall:∀ k,k < 15→k≠12→k≠13→l k=true) (e14:vs 14=.pointer (some ⟨b,0,none⟩)) (hbW:W.heap.size≤b) (hb:Blk w b 67 #[.slice none 0 0,.slice none 0 0,.slice none 0 0])
  (e11:vs 11=.agg (List.toArray cs)) (hcs:Blk w' b 67 cs.toArray) (k:Kept [b] w w'):San5 W TV SV (updV l 15 true) (updV vs 15 v) w':=by
 refine ⟨h.1.fresh k (by simpa using hbW),fun j hj=>?_⟩;have e15:updV l 15 true 15=true:=updV_self
 by_cases hji:j=15
 ·subst hji;simp only [R5];exact ⟨fun k h1 h2 h3=>updV_true (hall k h1 h2 h3),b,cs,by rw [updV_ne (by decide)];exact e14,by rw [updV_ne (by decide)];exact e11,hcs⟩
 ·have hlj:l j=true:=by rwa [updV_ne hji] at hj
  have ev:updV vs 15 v j=vs j:=updV_ne hji;have:=h.2 j hlj
  match j,this,ev with
  | 0,this,ev=>simp only [R5,e15];intro h0;cases h0
  | 1,this,ev=>simp only [R5,e15];intro h0;cases h0
  | 2,this,ev=>simp only [R5,e15];intro h0;cases h0
  | 3,this,ev=>simp only [R5,e15];intro h0;cases h0
  | 4,this,ev=>simp only [R5,e15];intro h0;cases h0
  | 5,this,ev=>simp only [R5,e15];intro h0;cases h0
  | 6,this,ev=>simp only [R5,ev] at this ⊢;exact this
  | 7,this,ev=>simp only [R5,ev] at this ⊢;exact this
  | 8,this,ev=>simp only [R5,e15];intro h0;cases h0
  | 9,this,ev=>simp only [R5,e15];intro h0;cases h0
  | 10,this,ev=>simp only [R5,ev] at this ⊢;obtain ⟨ds,vn,e1,e2,e3⟩:=this;exact ⟨ds,vn,e1,e2.store hb k,nums_store e3 hb k⟩
  | 11,this,ev=>simp only [R5,ev] at this ⊢;obtain ⟨ds,e1,e2⟩:=this;exact ⟨ds,e1,e2.store hb k⟩
  | 12,this,ev=>simp only [R5,ev] at this ⊢;exact nums_store this hb k
  | 13,this,ev=>simp only [R5,ev] at this ⊢;exact this
  | 14,this,ev=>simp only [R5,e15,ev] at this ⊢;obtain ⟨b',e1,e2,_⟩:=this;exact ⟨b',e1,e2,fun h0=>by cases h0⟩
  | 16,this,ev=>simp only [R5,ev] at this ⊢;exact nums_store this hb k
  | 17,this,ev=>simp only [R5,ev] at this ⊢;exact this
  | _+18,_,_=>trivial
theorem San5.not15 {i:Nat} (h:San5 W TV SV l vs w) (hi:l i=false) (h1:i < 15) (h2:i≠12) (h3:i≠13):l 15=false:=by
 cases h15:l 15 with
 | false=>rfl
 | true =>
  have:=h.2 15 h15;simp only [R5] at this;rw [this.1 i h1 h2 h3] at hi
  cases hi
theorem San5.done (h:San5 W TV SV l vs w) (hl:∀ i,i < 18→l i=true):Kept [] W w∧∃ b cs,vs 14=.pointer (some ⟨b,0,none⟩)∧W.heap.size≤b∧Blk w b 67 cs.toArray∧SanC w cs∧Row w 1 (vs 16) 2 (ints [4,9])∧vs 17=.int .i64 0:=by
 have h14:=h.2 14 (hl 14 (by decide));have h15:=h.2 15 (hl 15 (by decide));have h11:=h.2 11 (hl 11 (by decide));have h16:=h.2 16 (hl 16 (by decide));have h17:=h.2 17 (hl 17 (by decide));simp only [R5] at h14 h15 h11 h16 h17;obtain ⟨b,e1,e2,_⟩:=h14;obtain ⟨_,b',cs,e3,e4,e5⟩:=h15;obtain ⟨cs',e6,e7⟩:=h11;rw [e1] at e3;rw [e4] at e6;injection e3 with e3;injection e3 with e3;injection e3 with e3;subst e3;injection e6 with e6
 have e6':cs=cs':=by simpa using e6
 subst e6';exact ⟨h.1,b,cs,e1,e2,e5,e7,h16,h17⟩
end
end Go.Proofs.YtpcmamoomaddoaaGreatDoor
