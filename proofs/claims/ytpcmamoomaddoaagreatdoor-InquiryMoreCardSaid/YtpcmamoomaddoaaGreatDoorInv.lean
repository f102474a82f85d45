import Derived.Test.YtpcmamoomaddoaaGreatDoorAdd
import Derived.Laws.CopyRow
import Derived.Laws.IdiomCopy
set_option maxRecDepth 100000
set_option maxHeartbeats 32000000
namespace Go.Proofs.YtpcmamoomaddoaaGreatDoor
open Go.RowKit
open Go.Proofs.Tryz
open Lib(hid)
theorem sO(n:Nat)(w:World)(h:n<=100000) :
  (Instr.makeSlice 23 (.int .i64 (n:Int)) (.int .i64 (n:Int))).run prog w=.ok (.slice (some ⟨w.heap.size,0,none⟩) n n) (w.alloc (.cells (ints (List.replicate n 0)).toArray 3)):=by
 obtain⟨i0,hi,hz0,hz1,hz2⟩:=info_parts mV;have:=run_makeSlice (P:=prog) w 23 3 i0 (.int .i64 0) underlying23 hi hz0 .i64 .i64 (n:Int) (n:Int) (by omega) (by omega) (by rw[hz1];simp;omega) (by rw[hz2];omega) (by omega);rw[hz1]at this;simp only[Int.toNat_natCast,Value.cells]at this;rw[this,xG]
theorem qy:(prog.info? 3).map (·.size)=some 1:=by kernel_rfl
/-- the first k of n -/
def repL(v:Int)(n k:Nat):List Int:=List.replicate k v++List.replicate (n - k) 0
theorem ux{w:World}{b n k m:Nat}{v:Int}(hb:Blk w b 3 (ints (repL v n k)).toArray)(hk:k<=n)(hm:m=min k (n - k))(t u ty:TypeId)(c1 c2:Nat)(hu:prog.underlying t=some (.slice 3)) :
  ∃w',(Builtin.copy_ #[t,u] ty #[.slice (some ⟨b,k,none⟩) (n - k) c1,.slice (some ⟨b,0,none⟩) k c2]).run prog w=.ok (.int .i64 (m:Int)) w'/\Kept [b] w w'/\Blk w' b 3 (ints (repL v n (k+m))).toArray:=by
 have a:(ints (List.replicate m v)).length=m:=by simp[ints]
 have d:=run_copy_row (P:=prog) w t u ty 3 b k (n - k) c1 ⟨b,0,none⟩ k c2 (ints (repL v n k)).toArray 3 (ints (List.replicate m v)) hu qy hb (by rw[a];exact hm) (fun j x hj=>by
   rw[iv,Nat.zero_add,hb.cell j]
   have f:j < m:=by have:=(List.getElem?_eq_some_iff.1 hj).1;omega
   have c:j < k:=by omega
   simp[ints,f]at hj
   simp[ints,repL,List.getElem?_append,c,hj]) (by simp[ints,repL];omega) (fun x hx=>by
   obtain⟨y,_,rfl⟩:=List.mem_map.1 hx
   rfl)
 rw[a]at d;refine⟨_,d,⟨rfl,rfl,rfl,by simp[World.setRow],fun z hz hm=>?_⟩,?_⟩
 ·unfold World.setRow
  simp only[List.mem_singleton]at hm
  simp[Array.getElem?_modify,Ne.symm hm]
 ·have e:(ints (repL v n k)).take k++ints (List.replicate m v)++(ints (repL v n k)).drop (k+m)=ints (repL v n (k+m)):=by
   unfold repL ints
   rw[<-List.map_take,<-List.map_drop,<-List.map_append,<-List.map_append];refine congrArg _ ?_;rw[List.take_append_of_le_length (by simp),List.take_of_length_le (by simp),List.drop_append,List.drop_eq_nil_of_le (by simp),List.nil_append,List.length_replicate,List.drop_replicate,List.replicate_append_replicate];refine congrArg _ (congrArg (fun x=>List.replicate x 0) ?_);omega
  have c:=setRow_heap w b (ints (repL v n k)).toArray ((ints (repL v n k)).take k++ints (List.replicate m v)++(ints (repL v n k)).drop (k+m)).toArray 3 (0,0) hb;rw[e]at c;rw[show(ints (repL v n k)).toArray.toList=ints (repL v n k)from rfl,e];exact c
theorem wj{w:World}{xb n:Nat}{v:Int}(hx:Blk w xb 3 #[.int .i64 v])(hn:n<=100000):Calls prog 224 #[.slice (some ⟨xb,0,none⟩) 1 1,.int .i64 (n:Int)] w fun e w' =>
  Kept [] w w'/\∃b,e=.returned (.slice (some ⟨b,0,none⟩) n n)/\w.heap.size<=b/\Blk w' b 3 (ints (List.replicate n v)).toArray:=by
 have f:Calls prog 253 #[.int .u64 1,.int .u64 (n:Int)] w fun e w'=>e=.returned (.tuple #[.int .u64 0,.int .u64 (n:Int)])/\w'=w:=by
  refine(Tryz.bits_Mul 1 n (by decide) (by omega) w).mono fun e w' ⟨D,hw⟩=>⟨?_,hw⟩
  rw[D,Nat.one_mul,Nat.div_eq_of_lt (by omega),Nat.mod_eq_of_lt (by omega)]
  rfl
 have C:=hid f;obtain⟨W,B⟩:∃W,w.alloc (.cells (ints (List.replicate n 0)).toArray 3)=W:=⟨_,rfl⟩;have l:=sO n w hn;rw[B]at l
 have c:Blk W w.heap.size 3 (ints (repL v n 0)).toArray:=by
  have:Blk W w.heap.size 3 (ints (List.replicate n 0)).toArray:=B▸Blk.new _ _ _
  simpa [repL]using this
 have d:Kept [] w W:=B▸(Kept.refl _ _).alloc _
 have a7:(0:Int)<=(n:Int):=by omega
 have a6:(n:Int) < 18446744073709551616:=by omega
 have a5:¬(9223372036854775807:Int) < (n:Int):=by omega
 have a2:IntKind.u64.wrap (n:Int)=(n:Int):=Mul64.wrapN n (by omega)
 have a3:¬(n:Int) < 0:=by omega
 have Y:=hid c;have Q:=hid d;have HX:=hid hx;obtain⟨b,M⟩:∃b,w.heap.size=b:=⟨_,rfl⟩
 have G:W.heap.size=w.heap.size+1:=by rw[<-B,World.size_alloc]
 have r:Blk W xb 3 #[.int .i64 v]:=hx.kept d (by simp);rw[M]at l c
 obtain⟨m,F,L,A,k1,y,s⟩:∃(m:Nat) (F:World),(Builtin.copy_ #[23,23] 3 #[.slice (some ⟨b,0,none⟩) n n,.slice (some ⟨xb,0,none⟩) 1 1]).run prog W=.ok (.int .i64 (m:Int)) F/\Blk F b 3 (ints (repL v n m)).toArray/\Kept [b] W F/\(0 < m\/n=0)/\m<=n:=by
  rcases Nat.eq_zero_or_pos n with E|E
  ·subst E;exact⟨0,W,run_copy_none W 23 23 3 3 _ _ 0 0 1 1 underlying23 qy rfl,c,Kept.refl _ _,Or.inr rfl,Nat.le_refl _⟩
  ·have hr:=run_copy_row (P:=prog) W 23 23 3 3 b 0 n n ⟨xb,0,none⟩ 1 1 (ints (repL v n 0)).toArray 3 [.int .i64 v] underlying23 qy c (by
    show 1=min 1 n
    omega) (fun j x hj=>by
    match j,hj with
    |0,hj=>injection hj with hj;subst hj;exact r.cell 0
    |j+1,hj=>simp at hj) (by simp[ints,repL];omega) (fun x hx=>by rw[List.mem_singleton.1 hx];rfl)
   refine⟨1,_,hr,?_,⟨rfl,rfl,rfl,by simp[World.setRow],fun z hz y=>?_⟩,Or.inl (by omega),E⟩
   ·have h2:=setRow_heap W b (ints (repL v n 0)).toArray ((ints (repL v n 0)).take 0++[Value.int .i64 v]++(ints (repL v n 0)).drop (0+1)).toArray 3 (0,0) c
    have D:(ints (repL v n 0)).take 0++[Value.int .i64 v]++(ints (repL v n 0)).drop (0+1)=ints (repL v n 1):=by simp[ints,repL]
    rw[D]at h2
    show(W.setRow b ((ints (repL v n 0)).take 0++[Value.int .i64 v]++(ints (repL v n 0)).drop (0+1)).toArray).heap[b]?=_
    rw[D];exact h2
   ·unfold World.setRow
    simp only[List.mem_singleton]at y
    simp[Array.getElem?_modify,Ne.symm y]
 have X:=hid A;have U:=hid (d.fresh k1 (by simp;omega));have O:=hid y;have HB:=hid M;clear c d B f A k1 y M G r hx Y Q
 go_enter func224,ntmps224
 go_wp2_with (first|(go_at_call 253;with_reducible refine C.out.mono ?_;rintro e w' ⟨rfl,hw'⟩;have hw':=hw'.symm;subst hw')|(simp only));have N:=hid s;clear L l s
 go_loopw [8] (fun u wi=>∃k:Nat,u=.int .i64 (k:Int)/\k<=n/\(0 < k\/n=0)/\Kept [] w wi/\Blk wi b 3 (ints (repL v n k)).toArray) (fun u _=>n - (intOf u).toNat)
 case atStart=>exact⟨m,rfl,N.out,O.out,U.out,X.out⟩
 case round =>
  obtain⟨k,rfl,I,a8,o,p⟩:=hrel
  by_cases hlt:k < n
  ·have hlt':(k:Int) < (n:Int):=by omega
   have E:0 < k:=by omega
   obtain⟨W2,hc,Z,q⟩:=ux p.drew I rfl 23 23 3 (n - k) n underlying23;go_upto_region 9 with(fail);obtain⟨g,t⟩:∃g,min k (n - k)=g:=⟨_,rfl⟩;rw[t]at hc q
   have a0:0 < g:=by omega
   have J:k+g<=n:=by omega
   have R:=hid o;have V:=hid q;have T:=hid Z
   have hkn':(k:Int)<=(n:Int):=by omega
   have a4:¬n=k:=by omega
   have a1:IntKind.i64.wrap ((k:Int)+(g:Int))=(k:Int)+(g:Int):=by rw[IntKind.wrap_i64];omega
   clear q Z o p t;refine ar [9] (fun w'=>True) (by kernel_rfl) trivial (fun hH=>?_);refine ah [9] (i:=0) (v:=?tv0) rfl (by kernel_rfl) (by kernel_rfl) (by kernel_rfl) (by kernel_rfl) (fun _ _ _ h=>h) (Or.inl ⟨by rfl,?ty0⟩) hH ?tr0
   case ty0=>intro w' a;(try dsimp only at a);go_simp;first|done|with_reducible rfl
   (try simp only[Act.put,List.setIfInBounds_toArray,List.set_cons_zero,List.set_cons_succ])
   refine ah [9] (i:=1) (v:=?tv1) rfl (by kernel_rfl) (by kernel_rfl) (by kernel_rfl) (by kernel_rfl) (fun _ _ _ h=>h) (Or.inl ⟨by rfl,?ty1⟩) hH ?tr1
   case ty1=>intro w' a;(try dsimp only at a);go_simp;first|done|with_reducible rfl
   (try simp only[Act.put,List.setIfInBounds_toArray,List.set_cons_zero,List.set_cons_succ])
   refine ah [9] (i:=2) (v:=?tv2) rfl (by kernel_rfl) (by kernel_rfl) (by kernel_rfl) (by kernel_rfl) (fun _ _ _ h=>h) (Or.inl ⟨by rfl,?ty2⟩) hH ?tr2
   case ty2=>intro w' a;(try dsimp only at a);go_simp;first|done|with_reducible rfl
   (try simp only[Act.put,List.setIfInBounds_toArray,List.set_cons_zero,List.set_cons_succ])
   refine ah [9] (i:=3) (v:=?tv3) rfl (by kernel_rfl) (by kernel_rfl) (by kernel_rfl) (by kernel_rfl) (fun _ _ _ h=>h) (Or.inl ⟨by rfl,?ty3⟩) hH ?tr3
   case ty3=>intro w' a;(try dsimp only at a);go_simp;first|done|with_reducible rfl
   (try simp only[Act.put,List.setIfInBounds_toArray,List.set_cons_zero,List.set_cons_succ])
   refine ah [9] (i:=4) (v:=?tv4) rfl (by kernel_rfl) (by kernel_rfl) (by kernel_rfl) (by kernel_rfl) (fun _ _ _ h=>h) (Or.inl ⟨by rfl,?ty4⟩) hH ?tr4
   case ty4=>intro w' a;(try dsimp only at a);go_simp;first|done|with_reducible rfl
   (try simp only[Act.put,List.setIfInBounds_toArray,List.set_cons_zero,List.set_cons_succ])
   refine ah [9] (i:=5) (v:=?tv5) rfl (by kernel_rfl) (by kernel_rfl) (by kernel_rfl) (by kernel_rfl) (fun _ _ _ h=>h) (Or.inl ⟨by rfl,?ty5⟩) hH ?tr5
   case ty5=>intro w' a;(try dsimp only at a);go_simp;first|done|with_reducible rfl
   (try simp only[Act.put,List.setIfInBounds_toArray,List.set_cons_zero,List.set_cons_succ])
   refine ah [9] (i:=6) (v:=?tv6) rfl (by kernel_rfl) (by kernel_rfl) (by kernel_rfl) (by kernel_rfl) (fun _ _ _ h=>h) (Or.inl ⟨by rfl,?ty6⟩) hH ?tr6
   case ty6=>intro w' a;(try dsimp only at a);go_simp;first|done|with_reducible rfl
   (try simp only[Act.put,List.setIfInBounds_toArray,List.set_cons_zero,List.set_cons_succ])
   refine ai (rs:=[7]) (by kernel_rfl) (by simp) ?_;refine ae.cons rfl (fun K hK=>?_) ae.nil;go_simp;refine hK.out _ _ trivial (fun hH=>?_);clear hK K
   (try simp only[Act.put,List.setIfInBounds_toArray,List.set_cons_zero,List.set_cons_succ])
   refine ah [9] (i:=8) (v:=?tv8) rfl (by kernel_rfl) (by kernel_rfl) (by kernel_rfl) (by kernel_rfl) (fun _ _ _ h=>h) (Or.inl ⟨by rfl,?ty8⟩) hH ?tr8
   case ty8=>intro w' a;(try dsimp only at a);go_simp;first|done|with_reducible rfl
   (try simp only[Act.put,List.setIfInBounds_toArray,List.set_cons_zero,List.set_cons_succ])
   refine ai (rs:=[9]) (by kernel_rfl) (by simp) ?_;refine ae.last rfl (by kernel_rfl) (fun K hK=>?_);go_simp;refine hK.out _ _ ?_;clear hK K
   (try simp only[Act.put,List.setIfInBounds_toArray,List.set_cons_zero,List.set_cons_succ])
   refine ak (by kernel_rfl) ?_ _;go_wp2_with fail
   go_roundw
   case rel=>exact⟨k+g,by simp,J,Or.inl (by omega),R.out.drew.fresh T.out (by have:=HB.out;simp;omega),V.out⟩
   case measure=>simp[intOf];omega
  ·obtain rfl:k=n:=by omega
   go_wp2_with fail;go_ret;refine⟨o,b,rfl,by rw[HB.out];exact Nat.le_refl _,?_⟩
   simpa [repL]using p
end Go.Proofs.YtpcmamoomaddoaaGreatDoor
namespace Go.Proofs.YtpcmamoomaddoaaGreatDoor
open Go.RowKit
section
variable {P:Program} {ops:Array Oper} {Q:Exit->Act->World->Prop} {md:Region.Mode}
def mT(ops:Array Oper)(listed:Array Bool):Nat:=((List.range ops.size).filter fun i=>!listed.getD i true).length
theorem jg{p p':Nat->Bool}(h:∀x,p' x=true->p x=true):∀ {l:List Nat},(l.filter p').length<=(l.filter p).length
 | []=>by simp
 |x::l=>by
  have:=jg h (l:=l);rw[List.filter_cons,List.filter_cons]
  by_cases h1:p' x=true
  ·rw[if_pos h1,if_pos (h x h1)];simpa using this
  ·rw[if_neg h1]
   split
   ·rw[List.length_cons];omega
   ·exact this
theorem mf{p p':Nat->Bool}(h:∀x,p' x=true->p x=true){i:Nat}(h1:p i=true)(h2:p' i=false):∀ {l:List Nat},i∈l->(l.filter p').length < (l.filter p).length
 |x::l,hi=>by
  rw[List.filter_cons,List.filter_cons]
  rcases List.mem_cons.1 hi with rfl|hi
  ·have:=jg h (l:=l);rw[if_neg (by simp[h2]),if_pos h1,List.length_cons];omega
  ·have:=mf h h1 h2 hi
   by_cases h3:p' x=true
   ·rw[if_pos h3,if_pos (h x h3)];simpa using this
   ·rw[if_neg h3]
    split
    ·rw[List.length_cons];omega
    ·exact this
theorem gu{listed:Array Bool}{i:Nat}{d:Bool}(h:listed.getD i true=false):(listed.setIfInBounds i true).getD i d=true:=by
 have hlt:i < listed.size:=by
  rcases Nat.lt_or_ge i listed.size with h'|h'
  ·exact h'
  ·simp[Array.getElem?_eq_none h']at h
 simp[hlt]
theorem rh{listed:Array Bool}{i:Nat}(hi:i∈Region.ready md ops listed):mT ops (listed.setIfInBounds i true) < mT ops listed:=by
 obtain⟨h0,o,ho,_⟩:=mem_ready.1 hi;refine mf (i:=i) (fun x hx=>?_) (by rw[h0];rfl) (by rw[gu h0];rfl) (List.mem_range.2 (Array.getElem?_eq_some_iff.1 ho).1)
 by_cases hix:i=x
 ·subst hix;rw[h0];rfl
 ·rwa [getD_set_ne true hix]at hx
/-- Each step from a state in I leads to I. -/
theorem lu{I:Array Bool->Act->World->Prop}
  (hstep:∀(i:Nat) (listed:Array Bool) (a:Act) (w:World),i∈Region.ready md ops listed->I listed a w->wpOp P ops Q i (I (listed.setIfInBounds i true)) a w)
  (hend:∀listed a w,Region.ready md ops listed=[]->I listed a w->Q .normal a w) :
  ∀(fuel:Nat) (listed:Array Bool) (a:Act) (w:World),mT ops listed<=fuel->I listed a w->wpAny P md ops Q fuel listed a w
 |0,listed,a,w,hf,hI=>by
  have hr:Region.ready md ops listed=[]:=by
   apply List.eq_nil_iff_forall_not_mem.2
   intro i b;have:=rh b;omega
  exact⟨hr,hend _ _ _ hr hI⟩
 |fuel+1,listed,a,w,hf,hI => ⟨fun hr=>hend _ _ _ hr hI,fun i b=>wpOp_mono (fun a' w' h'=>lu hstep hend fuel _ a' w' (by have:=rh b;omega) h') (hstep i listed a w b hI)⟩
def ec(ops:Array Oper)(i:Nat):Option Tmp:=(ops[i]?).bind (·.dst)
/-- the state with the values of those that have come up, in the order of the text -/
def fill(ops:Array Oper)(a0:Act)(vs:Nat->Value)(listed:Nat->Bool):Nat->Act
 |0=>a0
 |n+1=>if listed n then(fill ops a0 vs listed n).put (ec ops n) (vs n)else fill ops a0 vs listed n
def updV{α:Type}(f:Nat->α)(i:Nat)(v:α)(j:Nat):α:=if j=i then v else f j
theorem aE{α:Type}{f:Nat->α}{i:Nat}{v:α}:updV f i v i=v:=if_pos rfl
theorem aY{α:Type}{f:Nat->α}{i j:Nat}{v:α}(h:j≠i):updV f i v j=f j:=if_neg h
theorem uz(a:Act)(d:Option Tmp)(v:Value):(a.put d v).tmps.size=a.tmps.size:=by cases d <;> simp[Act.put]
theorem gh{a0:Act}{vs:Nat->Value}{listed:Nat->Bool}:∀n,(fill ops a0 vs listed n).tmps.size=a0.tmps.size
 |0=>rfl
 |n+1=>by
  rw[fill]
  split
  ·rw[uz];exact gh n
  ·exact gh n
theorem ff{a0:Act}{vs vs':Nat->Value}{l l':Nat->Bool}:∀ {n:Nat},(∀j,j < n->l j=l' j)->(∀j,j < n->l j=true->vs j=vs' j)->fill ops a0 vs l n=fill ops a0 vs' l' n
 |0,_,_=>rfl
 |n+1,h1,h2=>by
  rw[fill,fill,h1 n (by omega),ff (n:=n) (fun j hj=>h1 j (by omega)) (fun j hj=>h2 j (by omega))]
  by_cases h:l n=true
  ·rw[h2 n (by omega) h]
  ·rw[if_neg (by rw[<-h1 n (by omega)];exact h),if_neg (by rw[<-h1 n (by omega)];exact h)]
def rH(ops:Array Oper):Prop:=∀i j d,i≠j->ec ops i=some d->ec ops j≠some d
theorem kE(hd:rH ops){a0:Act}{vs:Nat->Value}{l:Nat->Bool}{i:Nat}{v:Value}(hl:l i=false):∀ {n:Nat},i < n ->
  (fill ops a0 vs l n).put (ec ops i) v=fill ops a0 (updV vs i v) (updV l i true) n
 |n+1,hi=>by
  rw[fill,fill]
  by_cases hin:i=n
  ·subst hin;rw[aE,aE,if_pos rfl,if_neg (by simp[hl])]
   congr 1
   exact ff (fun j hj=>(aY (by omega)).symm) (fun j hj _=>(aY (by omega)).symm)
  ·have ih:=kE hd (a0:=a0) (vs:=vs) (l:=l) (v:=v) hl (n:=n) (by omega);rw[aY (f:=l) (fun e=>hin e.symm),aY (f:=vs) (fun e=>hin e.symm)]
   by_cases h:l n=true
   ·rw[if_pos h,if_pos h,<-ih];exact Act.put_comm _ _ _ fun d h1=>hd n i d (fun e=>hin e.symm) h1
   ·rw[if_neg h,if_neg h];exact ih
theorem mg(hd:rH ops){a0:Act}{vs:Nat->Value}{l:Nat->Bool}{o:Oper}{n:Nat}(hs:∀cs b,o.op≠.select cs b)
  (hl:∀j,j < n->l j=false->∀d,ec ops j=some d->d∉o.looksAt ops):∀k,k<=n ->
  execOp (fill ops a0 vs (fun j=>l j ||decide (j < k)) n).eval o=execOp (fill ops a0 vs l n).eval o /\
  Region.wanted o (yielded ops (fill ops a0 vs (fun j=>l j ||decide (j < k)) n).tmps)=Region.wanted o (yielded ops (fill ops a0 vs l n).tmps)
 |0,_=>by
  rw[show(fun j=>l j ||decide (j < 0))=l from funext fun j=>by simp];exact⟨rfl,rfl⟩
 |k+1,hk=>by
  have ih:=mg hd (a0:=a0) (vs:=vs) hs hl k (by omega)
  by_cases h:l k=true
  ·rw[show(fun j=>l j ||decide (j < k+1))=(fun j=>l j ||decide (j < k))from funext fun j=>by
    by_cases hjk:j=k
    ·subst hjk;simp[h]
    ·have:(j < k+1)=(j < k):=by simp;omega
     simp only[this]]
   exact ih
  ·have c:l k=false:=by simpa using h
   have g:(fun j=>l j ||decide (j < k)) k=false:=by simp[c]
   have a:k < n:=by omega
   have f:=kE hd (a0:=a0) (vs:=vs) (l:=fun j=>l j ||decide (j < k)) (v:=vs k) g (n:=n) a
   rw[show updV vs k (vs k)=vs from funext fun j=>by unfold updV;split <;> simp_all,
    show updV (fun j=>l j ||decide (j < k)) k true=(fun j=>l j ||decide (j < k+1))from funext fun j=>by
     unfold updV
     split
     ·next e=>subst e;simp
     ·have:(j < k+1)=(j < k):=by simp;omega
      simp only[this]]at f
   rw[<-f,execOp_put (ops:=ops) o hs _ _ _ (hl k (by omega) c),wanted_put (ops:=ops) o _ _ _ (hl k (by omega) c)];exact ih
/-- all have come up -/
def full(ops:Array Oper)(a0:Act)(vs:Nat->Value):Act:=fill ops a0 vs (fun _=>true) ops.size
theorem lp(hd:rH ops){a0:Act}{vs:Nat->Value}{l:Nat->Bool}{o:Oper}(hs:∀cs b,o.op≠.select cs b)
  (hl:∀j,j < ops.size->l j=false->∀d,ec ops j=some d->d∉o.looksAt ops) :
  execOp (full ops a0 vs).eval o=execOp (fill ops a0 vs l ops.size).eval o /\
  Region.wanted o (yielded ops (full ops a0 vs).tmps)=Region.wanted o (yielded ops (fill ops a0 vs l ops.size).tmps):=by
 have h:=mg hd (a0:=a0) (vs:=vs) hs hl ops.size (Nat.le_refl _);rw[show fill ops a0 vs (fun j=>l j ||decide (j < ops.size)) ops.size=full ops a0 vs from ff (fun j hj=>by simp[hj]) (fun j hj _=>rfl)]at h;exact h
theorem uA{a a':Act}{d:Option Tmp}{u v:Value}(h:a.put d u=a.put d v)(hs:a'.tmps.size=a.tmps.size):a'.put d u=a'.put d v:=by
 cases d with
 |none=>rfl
 |some d =>
  simp only[Act.put,Act.mk.injEq,and_true]at h ⊢
  rcases Nat.lt_or_ge d a.tmps.size with hd|hd
  ·have h1:=congrArg (fun x=>x[d]?) h
   simp[hd]at h1
   rw[h1]
  ·rw[Array.setIfInBounds_eq_of_size_le (by omega),Array.setIfInBounds_eq_of_size_le (by omega)]
theorem rI{i:Nat}{o:Oper}(ho:ops[i]?=some o){a a':Act}{w:World}{Z:Value->World->Prop}(he:execOp a.eval o=execOp a'.eval o)
  (hw:Region.wanted o (yielded ops a.tmps)=Region.wanted o (yielded ops a'.tmps)) (hs:a'.tmps.size=a.tmps.size) (hQ:∀c w,Q (.panic c) a w->Q (.panic c) a' w)
  (h:wpOp P ops Q i (fun b w'=>∃v,b=a.put o.dst v/\Z v w') a w):wpOp P ops Q i (fun b w'=>∃v,b=a'.put o.dst v/\Z v w') a' w:=by
 unfold wpOp at *
 simp only[ho]at *;rw[hw]at h
 have g:∀ {u:Value} {w':World},(∃v,a.put o.dst u=a.put o.dst v/\Z v w')->∃v,a'.put o.dst u=a'.put o.dst v/\Z v w':=fun⟨v,m,l⟩=>⟨v,uA m hs,l⟩
 split
 ·rename_i hw';simp only[hw',if_true]at h
  rcases h with h|⟨j,k⟩
  case inr=>exact .inr ⟨by unfold Oper.asks at *;rw[he]at j;exact j,k⟩
  refine .inl ?_
  unfold Oper.wp at *
  rw[he]at h
  generalize(execOp a'.eval o).run P w=r at *
  cases r with
  |ok n w' =>
   cases n <;> simp only[Oper.upon]at h ⊢
   case value u=>exact g h
   case skip=>exact g h
   case defer d =>
    obtain⟨v,m,_⟩:=h;have l:=congrArg (fun b=>b.defers.length) m
    cases hd:o.dst <;> simp[Act.put,hd]at l
   case enter f args =>
    refine Calls.mono h fun e w'' he=>?_
    cases e with
    |returned u=>exact g he
    |panicked c=>exact hQ _ _ he
    |outgrown=>exact he
   case row row args=>exact Rows.mono h fun u w'' he=>g he
  |halt x w' =>
   cases x <;> simp only[Oper.upon]at h ⊢
   case panic u=>exact hQ _ _ h
 ·rename_i hw';simp only[hw']at h;exact g h
/-- what an operation looks at and another one makes, it nA for -/
def nz(md:Region.Mode)(ops:Array Oper):Bool :=
 (List.range ops.size).all fun i=>match ops[i]? with
  |some o=>(List.range ops.size).all fun j=>match ec ops j with
   |some d=>!(o.looksAt ops).contains d ||o.after.any fun e=>Region.binds md e&&(e.on==j)
   |none=>true
  |none=>true
def kY(ops:Array Oper):Bool :=
 (List.range ops.size).all fun i=>(List.range ops.size).all fun j=>(i==j) ||(match ec ops i with|some d=>!(ec ops j==some d)|none=>true)
def nd(md:Region.Mode)(ops:Array Oper):Bool :=
 (List.range ops.size).all fun i=>match ops[i]? with|some o=>o.after.all fun e=>!Region.binds md e ||decide (e.on < i)|none=>true
theorem vG(h:kY ops=true):rH ops:=fun i j d hij hi hj=>by
 have hin:∀ {k d},ec ops k=some d->k < ops.size:=fun{k d} hk=>by
  unfold ec at hk
  cases ho:ops[k]? with
  |none=>rw[ho]at hk;cases hk
  |some o=>exact(Array.getElem?_eq_some_iff.1 ho).1
 have h1:=List.all_eq_true.1 (List.all_eq_true.1 h i (List.mem_range.2 (hin hi))) j (List.mem_range.2 (hin hj));rw[hi,hj]at h1
 simp[hij]at h1
theorem nw(h:nd md ops=true){listed:Array Bool}(hr:Region.ready md ops listed=[])(hz:listed.size=ops.size):∀i,i < ops.size->listed.getD i false=true:=fun i=>by
 induction i using Nat.strongRecOn with
 |_ i ih =>
  intro hi
  cases hl:listed.getD i false with
  |true=>rfl
  |false =>
   have hm:i∈Region.ready md ops listed:=by
    refine mem_ready.2 ⟨?_,ops[i],by simp[hi],fun e he hb=>?_⟩
    ·have:i < listed.size:=by omega
     simpa [this]using hl
    ·have b:=List.all_eq_true.1 h i (List.mem_range.2 hi);rw[show ops[i]?=some ops[i]by simp[hi]]at b;have a:=Array.all_eq_true_iff_forall_mem.1 b e he;rw[hb]at a
     have c:e.on < i:=by simpa using a
     exact ih e.on c (by omega)
   rw[hr]at hm
   cases hm
def lst(listed:Array Bool)(j:Nat):Bool:=listed.getD j false
theorem rg{listed:Array Bool}{i:Nat}(h:listed.getD i true=false):lst (listed.setIfInBounds i true)=updV (lst listed) i true:=funext fun j=>by
 unfold lst updV
 split
 ·next e=>subst e;exact gu h
 ·next e=>exact getD_set_ne false (fun e'=>e e'.symm)
/-- A region in whatever order: whatever comes up leads from Inv to Inv. -/
theorem ld{id:Nat}{a0:Act}{w:World}(Inv:(Nat->Bool)->(Nat->Value)->World->Prop)(hm:P.follows .mixedOrders=true)
  (hchk:(Region.noSelect ops&&nz .any ops&&kY ops&&nd .any ops)=true)
  (hQ:∀c a d v w,Q (.panic c) (Act.put a d v) w->Q (.panic c) a w) (hQ':∀c a d v w,Q (.panic c) a w->Q (.panic c) (Act.put a d v) w)
  (hS:Inv (fun _=>false) (fun _=>undef) w.drew)
  (hop:∀i o l vs w,ops[i]?=some o->l i=false->(∀e∈o.after,Region.binds .any e=true->l e.on=true)->Inv l vs w ->
   ∀K:Act->World->Prop,Shut (∀v w',Inv (updV l i true) (updV vs i v) w'->K ((full ops a0 vs).put o.dst v) w')->wpOp P ops Q i K (full ops a0 vs) w)
  (hend:∀l vs w,(∀i,i < ops.size->l i=true)->Inv l vs w->Q .normal (full ops a0 vs) w):(Code.region id ops true).wp P Q a0 w:=by
 simp only[Bool.and_eq_true]at hchk;obtain⟨⟨⟨L,J⟩,G⟩,F⟩:=hchk;have z:=vG G
 have s:∀ {vs:Nat->Value} {l:Nat->Bool} (n:Nat) {c w},Q (.panic c) (fill ops a0 vs l n) w->Q (.panic c) a0 w:=fun{vs l} n=>by
  induction n with
  |zero=>exact fun h=>h
  |succ n ih =>
   intro c w h;rw[fill]at h
   split at h
   ·exact ih (hQ _ _ _ _ _ h)
   ·exact ih h
 have hpan':∀ {vs:Nat->Value} {l:Nat->Bool} (n:Nat) {c w},Q (.panic c) a0 w->Q (.panic c) (fill ops a0 vs l n) w:=fun{vs l} n=>by
  induction n with
  |zero=>exact fun h=>h
  |succ n ih =>
   intro c w h;rw[fill]
   split
   ·exact hQ' _ _ _ _ _ (ih h)
   ·exact ih h
 refine wp_region_any hm (lu (I:=fun f a w=>f.size=ops.size/\∃vs,a=fill ops a0 vs (lst f) ops.size/\Inv (lst f) vs w) ?_ ?_ _ _ _ _ ?_ ?_)
 ·rintro i f a w D ⟨u,vs,rfl,y⟩;obtain⟨r,o,m,g⟩:=mem_ready.1 D;have t:i < ops.size:=(Array.getElem?_eq_some_iff.1 m).1
  have h0':lst f i=false:=by
   have:i < f.size:=by omega
   unfold lst
   simpa [this]using r
  have C:∀j,j < ops.size->lst f j=false->∀d,ec ops j=some d->d∉o.looksAt ops:=fun j hj hlj d hjd hmem=>by
   have q:=List.all_eq_true.1 J i (List.mem_range.2 t);rw[m]at q;have p:=List.all_eq_true.1 q j (List.mem_range.2 hj);rw[hjd]at p;simp only[Bool.or_eq_true,Bool.not_eq_true',Array.any_eq_true',Bool.and_eq_true,beq_iff_eq]at p
   rcases p with p|⟨e,x,E,rfl⟩
   ·rw[List.contains_iff_mem.2 hmem]at p
    cases p
   ·have:=g e x E
    unfold lst at hlj
    rw[this]at hlj
    cases hlj
  obtain⟨x,A⟩:=lp z (a0:=a0) (vs:=vs) (l:=lst f) (o:=o) (fun cs b=>Region.noSelect_spec L i o cs b m) C;have k:=hop i o (lst f) vs w m h0' g y (fun b w'=>∃v,b=(full ops a0 vs).put o.dst v/\Inv (updV (lst f) i true) (updV vs i v) w') (fun v w' q=>⟨v,rfl,q⟩);refine wpOp_mono (fun b w'=>?_) (rI m x A (by unfold full;rw[gh,gh]) (fun c w h=>hpan' _ (s _ h)) k);rintro⟨v,rfl,q⟩;refine⟨by rw[Array.size_setIfInBounds];exact u,updV vs i v,?_,by rw[rg r];exact q⟩;have:=kE z (a0:=a0) (vs:=vs) (l:=lst f) (v:=v) h0' t;rw[show ec ops i=o.dst by unfold ec;rw[m];rfl]at this;rw[this,rg r]
 ·rintro f a w B ⟨u,vs,rfl,y⟩;have g:=nw F B u;have:=hend (lst f) vs w g y;rw[show fill ops a0 vs (lst f) ops.size=full ops a0 vs from ff (fun j hj=>g j hj) (fun _ _ _=>rfl)];exact this
 ·unfold mT
  refine Nat.le_trans (List.length_filter_le _ _) ?_
  simp
 ·have r:lst (Array.replicate ops.size false)=fun _=>false:=funext fun j=>by
   unfold lst
   by_cases hj:j < ops.size
   ·simp[hj]
   ·simp[hj]
  refine⟨by simp,fun _=>undef,?_,by rw[r];exact hS⟩;rw[r]
  have:∀n,fill ops a0 (fun _=>undef) (fun _=>false) n=a0:=fun n=>by
   induction n with
   |zero=>rfl
   |succ n ih=>rw[fill,if_neg (by simp),ih]
  rw[this]
/-- all values put, operation by operation -/
def ik:List Oper->Nat->(Nat->Value)->Act->Act
 | [],_,_,a=>a
 |o::r,n,vs,a=>ik r (n+1) vs (a.put o.dst (vs n))
theorem ku(o:Oper)(vs:Nat->Value):∀(l:List Oper) (n:Nat) (a:Act),ik (l++[o]) n vs a=(ik l n vs a).put o.dst (vs (n+l.length))
 | [],n,a=>rfl
 |x::l,n,a=>by
  rw[List.cons_append,ik,ik,ku o vs l,List.length_cons]
  congr 2
  omega
theorem wY(l:List Oper)(a0:Act)(vs:Nat->Value):full l.toArray a0 vs=ik l 0 vs a0:=by
 have h:∀n,n<=l.length->fill l.toArray a0 vs (fun _=>true) n=ik (l.take n) 0 vs a0:=fun n=>by
  induction n with
  |zero=>intro _;rfl
  |succ n ih =>
   intro hn
   have h1:n < l.length:=by omega
   rw[fill,if_pos rfl,ih (by omega),List.take_succ_eq_append_getElem h1,ku,List.length_take,Nat.zero_add,Nat.min_eq_left (by omega)]
   unfold ec
   simp[h1]
 unfold full
 rw[List.size_toArray,h _ (Nat.le_refl _),List.take_length]
theorem bQ{after:Array Edge}{l:Nat->Bool}(h:∀e∈after,Region.binds .any e=true->l e.on=true)(j:Nat)(hb:(after.any fun e=>Region.binds .any e&&(e.on==j))=true):l j=true:=by
 obtain⟨e,he,h1⟩:=Array.any_eq_true'.1 hb;rw[Bool.and_eq_true,beq_iff_eq]at h1;rw[<-h1.2];exact h e he h1.1
theorem gC{ops:List Oper}{id:Nat}{a0:Act}{w:World}(Inv:(Nat->Bool)->(Nat->Value)->World->Prop)(F:(Nat->Value)->Act)(hm:P.follows .mixedOrders=true)
  (hchk:(Region.noSelect ops.toArray&&nz .any ops.toArray&&kY ops.toArray&&nd .any ops.toArray)=true)
  (hQ:∀c a d v w,Q (.panic c) (Act.put a d v) w->Q (.panic c) a w) (hQ':∀c a d v w,Q (.panic c) a w->Q (.panic c) (Act.put a d v) w)
  (hF:∀vs,ik ops 0 vs a0=F vs)
  (hS:Inv (fun _=>false) (fun _=>undef) w.drew)
  (hop:∀i o l vs w,ops[i]?=some o->l i=false->(∀e∈o.after,Region.binds .any e=true->l e.on=true)->Inv l vs w ->
   ∀K:Act->World->Prop,(∀v w',Inv (updV l i true) (updV vs i v) w'->K ((F vs).put o.dst v) w')->if Region.wanted o (yielded ops.toArray (F vs).tmps)=true then Oper.wp P o (F vs) w K Q else K ((F vs).put o.dst undef) w)
  (hend:∀l vs w,(∀i,i < ops.length->l i=true)->Inv l vs w->Q .normal (F vs) w):(Code.region id ops.toArray true).wp P Q a0 w:=by
 have hF':∀vs,full ops.toArray a0 vs=F vs:=fun vs=>(wY ops a0 vs).trans (hF vs);refine ld Inv hm hchk hQ hQ' hS (fun i o l vs w ho hl hd hI K hK=>?_) (fun l vs w hl hI=>by rw[hF'];exact hend l vs w (fun i hi=>hl i (by simpa using hi)) hI);rw[hF']at hK ⊢;exact wpOp_step ho fun K' hK'=>hop i o l vs w (by simpa using ho) hl hd hI K' fun v w' h=>hK' _ _ (hK v w' h)
end
end Go.Proofs.YtpcmamoomaddoaaGreatDoor
