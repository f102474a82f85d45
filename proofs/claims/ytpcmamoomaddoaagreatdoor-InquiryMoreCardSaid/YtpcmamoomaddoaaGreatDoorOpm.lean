import Derived.Test.YtpcmamoomaddoaaGreatDoorRows
import Derived.Lay
import Derived.Stop.LaidErr
import Derived.Lib.LaidTab
import Derived.ProofKit
import Derived.SliceStrings
import Derived.ChangeArms
import Derived.Test.YtpcmamoomaddoaaGreatDoorFwa
import Derived.OpenShut
import Derived.ChangeSlices
import Derived.Deep.Fields
import Derived.Below
set_option maxRecDepth 100000
set_option maxHeartbeats 32000000
namespace Go.Proofs.YtpcmamoomaddoaaGreatDoor
open Go.RowKit Go.ChangeShapes
open Go.Proofs.Tryz
abbrev ie : List (String × DataW Unit) := [("cloak/base.signs", Rows.laid_cloak_base_signs), ("cloak/ask.reserved", Rows.laid_cloak_ask_reserved)]
theorem rX:(prog.globals[1]?).map (·.type)=some 208:=by kernel_rfl
theorem we:(prog.globals[0]?).map (·.type)=some 34:=by kernel_rfl
theorem rY:(Rows.laid_cloak_base_signs:DataW Unit)=.agg (signsB.map fun s=>.lit (.string s)):=rfl
theorem wg:(Rows.laid_cloak_ask_reserved:DataW Unit)=.slice (bO.map fun s=>.lit (.string s)) []:=rfl
theorem kP{H:Type}{enc:TypeId × Value->H}{P:Program}{w:World}{base:Nat}{sp:Nat->Bool}{held:Bool}{fuel:Nat}{t e:TypeId}{n:Nat}{cs:List Value}{ss:List Bs}{p:List MemPlace}
  (ht:P.underlying t=some (.array n e)) (he:P.underlying e=some .string) (hce:P.cellsOf e=1) (hct:P.cellsOf t=n)
  (h:DataW.trod enc P w base sp held fuel t cs=some (.agg (ss.map fun s=>.lit (.string s)),p)):cs=ss.map fun s=>Value.string ⟨s.toArray⟩:=by
 cases fuel with
 |zero=>simp[DataW.trod]at h
 |succ fuel =>
  simp only[DataW.trod,ht,hce,hct,Nat.mul_one]at h
  split at h
  ·rename_i r;obtain⟨c,f,k⟩:=Option.map_eq_some_iff.1 h
   have a:c.map (·.1)=ss.map fun s=>(DataW.lit (.string s):DataW H):=by
    have:=congrArg Prod.fst k
    simpa using this
   have j:c.length=n:=by simpa using Lib.mapM_length f
   have g:ss.length=n:=by
    have:=congrArg List.length a;simp at this;omega
   apply List.ext_getElem?
   intro i
   by_cases hi:i < n
   ·obtain⟨b,o,l⟩:=Lib.mapM_at f i i (by simp[hi]);obtain⟨z,m,rfl,_⟩:=DataW.trod_string he l
    have q:cs[i]?=some (.string z):=by
     have:=congrArg (·[0]?) m
     simpa [List.getElem?_take,List.getElem?_drop]using this
    have d:(c.map (·.1))[i]?=some (DataW.lit (.string z.data.toList):DataW H):=by simp[o]
    rw[a]at d;simp only[List.getElem?_map,Option.map_eq_some_iff,DataW.lit.injEq,Lit.string.injEq]at d;obtain⟨z',hz',rfl⟩:=d;rw[q]
    simp[hz']
   ·rw[List.getElem?_eq_none (by omega),List.getElem?_eq_none (by simp;omega)]
  ·cases h
theorem qS{w:World}{n:String}{g:Nat}{cs:Array Value}(hg:prog.globalNamed n=some g)(hv:w.var? prog n=some cs):g < w.heap.size:=by
 unfold World.var? at hv
 rw[hg]at hv;simp only[Option.bind_some]at hv
 rcases Nat.lt_or_ge g w.heap.size with h1|h1
 ·exact h1
 ·rw[Array.getElem?_eq_none h1]at hv;cases hv
theorem pF {W : World} {rest : List (String × DataW Unit)} (h : laidMet prog (("cloak/base.signs", Rows.laid_cloak_base_signs) :: rest) W) : W.var? prog "cloak/base.signs" = some (strs signsB).toArray := by
 obtain⟨ps,⟨g',t',cs,fuel,p,q,hg',ht',hvar,hd,_,_⟩,_⟩:=h;obtain rfl:=Option.some.inj (jz.symm.trans hg');obtain rfl:=Option.some.inj (rX.symm.trans ht');rw[rY]at hd;have:=kP underlying208 underlying9 (by kernel_rfl) (by kernel_rfl) hd;rw[hvar]
 congr 1
 obtain⟨l⟩:=cs;have h2:l=signsB.map fun s=>Value.string ⟨s.toArray⟩:=this;rw[h2]
 rfl
theorem uw {W : World} {rest : List (String × DataW Unit)} (h : laidMet prog (("cloak/ask.reserved", Rows.laid_cloak_ask_reserved) :: rest) W) :
  ∃ b off c, b < W.heap.size ∧ 8 ≤ c ∧ W.var? prog "cloak/ask.reserved" = some #[.slice (some ⟨b, off, none⟩) 8 c] ∧ ∀ k u, (strs bO)[k]? = some u → W.cell? ⟨b, off + k, none⟩ = some u := by
 obtain⟨ps,⟨g',t',cs,fuel,p,q,hg',ht',hvar,hd,_,_⟩,_⟩:=h;obtain rfl:=Option.some.inj (fd.symm.trans hg');obtain rfl:=Option.some.inj (we.symm.trans ht');rw[wg]at hd
 rcases open_strings underlying34 underlying9 (by kernel_rfl) hd with⟨_,hx⟩|⟨a,len,cap,ss,hcs,_,hl,hm,hz,hx,hcell,_⟩
 ·injection hx with hx _;cases hx
 ·injection hx with hx _;injection hx with hx _;simp only[if_true]at hz;have hxl:=congrArg List.length hx;have h8:bO.length=8:=rfl
  simp[ChangeShapes.strs]at hxl
  have hlen:len=8:=by omega
  subst hlen;obtain⟨l⟩:=cs;have hl':l=[.slice (some a) 8 cap]:=hcs;subst hl';have j:=hcell 0 (by omega);obtain⟨b,off,e⟩:=a
  have d:e=none:=by simpa [Addr.add]using World.cell?_spot j
  subst d;refine⟨b,off,cap,World.block_lt_of_cell? W ⟨b,off,none⟩ (by simpa [Addr.add]using j),hl,hvar,fun k u hu=>?_⟩
  have m:k < 8:=by
   have:=(List.getElem?_eq_some_iff.1 hu).1
   simpa [strs,h8]using this
  have i:=hcell k (by omega);rw[iv]at i;rw[i];have g:(bO.map fun s=>(DataW.lit (.string s):DataW Unit))[k]?=((ss.take 8).map fun s=>(DataW.lit (.string s.data.toList):DataW Unit))[k]?:=congrArg (·[k]?) hx
  have f:k < ss.length:=by omega
  rw[List.getElem?_map,List.getElem?_map,List.getElem?_take,if_pos m,List.getElem?_eq_getElem f]at g;simp only[strs,List.getElem?_map]at hu;rw[List.getD_eq_getElem?_getD,List.getElem?_eq_getElem f]
  cases hr:bO[k]? with
  |none=>rw[hr]at hu;cases hu
  |some r =>
   rw[hr]at hu g;simp only[Option.map_some,Option.some.injEq,DataW.lit.injEq,Lit.string.injEq]at hu g;subst hu;rw[g]
   simp
theorem sK{W:World}(h:W.ShapedOpen prog):∃m,W.cell? ⟨2,0,none⟩=some (.int .i64 m) :=
 Go.Proofs.cell_of_shapedOpen_int (zero:=#[.int .i64 0]) (t:=3) h (of_decide_eq_true (by kernel_rfl)) (by kernel_rfl) rfl (by kernel_rfl) (by kernel_rfl) underlying3
theorem rD{W:World}(hL:laidMetH prog ie W)(hsh:W.ShapedOpen prog):EnvB W.heap.size W:=by
 have h:laidMet prog ie W:=hL;have h1:=pF h;have h2:=uw h.tail;obtain⟨m,hm⟩:=sK hsh;obtain⟨b,off,c,g1,g2,g3,g4⟩:=h2;exact⟨Nat.le_refl _,⟨qS jz h1,qS fd g3,World.block_lt_of_cell? W _ hm⟩,⟨m,hm⟩,h1,b,off,c,g1,g2,g3,g4⟩
/-! ### one world that holds the listed variables -/
noncomputable def laidWorld (os:Os):World:=World.laidAll prog os ie
theorem oz(os:Os)(args:Array Value):laidMet prog ie ((laidWorld os).forCall (fun _ _=>0) ⟨#[],args,[]⟩).memory :=
 laidMet_laidAll _ (by kernel_rfl) (by kernel_rfl)
open Go.Deep Go.WideShapes
def Wf(i:Int):Prop:=(Lit.int .i64 i).wf=true
section
variable {H:Type} {enc:TypeId × Value->H} {w:World} {base:Nat} {held:Bool}
theorem mX{w:World}{a:Addr}{v:Value}(h:w.cell? (a.add 0)=some v):a=⟨a.block,a.off,none⟩:=by
 obtain⟨b,o,s⟩:=a;have:=World.cell?_spot h
 simp[Addr.add]at this
 subst this
 rfl
theorem ky(b o k:Nat):(⟨b,o,none⟩:Addr).add k=⟨b,o+k,none⟩:=by
 unfold Addr.add
 by_cases h:k=0
 ·subst h;simp
 ·simp[h]
theorem ii{n:Nat}{u:Value}{y:DataW H × List MemPlace}(h:DataW.trod enc prog w base (fun _=>true) held n 23 [u]=some y) :
  ∃l:List Int,Row w 1 u l.length (ints l)/\(∀x∈l,Wf x)/\l.length<=maxLen:=by
 rcases open_ints underlying23 underlying3 (by kernel_rfl) h with⟨b,_⟩|⟨x,l,c,e,b,_,p,o,j,_,d,f⟩
 ·simp at b;subst b;exact⟨[],⟨rfl,by simp,_,_,rfl,by simp,fun h=>absurd h (by simp)⟩,by simp,by simp⟩
 ·simp at b;subst b;simp at j
  have a:(e.take l).length=l:=by rw[List.length_take];omega
  have m:c<=9223372036854775807:=by simpa [maxLen]using o
  refine⟨e.take l,⟨by simp[ints],by rw[a];omega,_,_,by rw[a],by rw[a];exact p,fun hp=>?_⟩,fun x hx=>?_,by rw[a];omega⟩
  ·rw[a]at hp;have r:=d 0 (by omega);have i:=mX r;refine⟨x.block,x.off,congrArg some i,fun k u hu=>?_⟩
   have q:k < l:=by
    have:=(List.getElem?_eq_some_iff.1 hu).1
    simp[ints]at this;omega
   have g:=d k (by omega);rw[i]at g;rw[ky]at g;rw[g];simp only[ints,List.map_take,List.getElem?_take,q,if_true,List.getElem?_map]at hu;rw[List.getD_eq_getElem?_getD]
   cases hzk:e[k]? with
   |none=>rw[hzk]at hu;simp at hu
   |some z=>rw[hzk]at hu;simpa using hu
  ·exact(f x (List.mem_of_mem_take hx))
theorem vV{n:Nat}{u:Value}{y:DataW H × List MemPlace}(h:DataW.trod enc prog w base (fun _=>true) held n 34 [u]=some y) :
  ∃l:List (List UInt8),Row w 1 u l.length (strs l)/\(∀r∈l,r.length<=maxLen)/\l.length<=maxLen:=by
 rcases open_strings underlying34 underlying9 (by kernel_rfl) h with⟨b,_⟩|⟨x,l,c,e,b,_,q,p,j,_,d,f⟩
 ·simp at b;subst b;exact⟨[],⟨rfl,by simp,_,_,rfl,by simp,fun h=>absurd h (by simp)⟩,by simp,by simp⟩
 ·simp at b;subst b;simp at j
  have a:((e.take l).map fun s:ByteArray=>s.data.toList).length=l:=by rw[List.length_map,List.length_take];omega
  have o:c<=9223372036854775807:=by simpa [maxLen]using p
  refine⟨(e.take l).map fun s:ByteArray=>s.data.toList,⟨by simp[strs],by rw[a];omega,_,_,by rw[a],by rw[a];exact q,fun hp=>?_⟩,fun x hx=>?_,by rw[a];omega⟩
  ·rw[a]at hp;have v:=d 0 (by omega);have i:=mX v;refine⟨x.block,x.off,congrArg some i,fun k u hu=>?_⟩
   have t:k < l:=by
    have:=(List.getElem?_eq_some_iff.1 hu).1
    simp[strs]at this;omega
   have g:=d k (by omega);rw[i]at g;rw[ky]at g;rw[g];simp only[strs,List.map_map,List.map_take,List.getElem?_take,t,if_true,List.getElem?_map]at hu;rw[List.getD_eq_getElem?_getD]
   cases hzk:e[k]? with
   |none=>rw[hzk]at hu;simp at hu
   |some z=>rw[hzk]at hu;simpa using hu
  ·obtain⟨s,m,rfl⟩:=List.mem_map.1 hx;exact f s (List.mem_of_mem_take m)
theorem tY{e:TypeId}{P:Program}{spare:Nat->Bool}{n:Nat}{t:TypeId}{u:Value}{y:DataW H × List MemPlace}(ht:P.underlying t=some (.slice e))(h:DataW.trod enc P w base spare held n t [u]=some y):∃a m c,u=.slice a m c:=by
 rcases DataW.trod_slice ht h with⟨hcs,_⟩|⟨a,len,cap,_,_,_,_,hcs,_⟩
 ·simp at hcs;exact⟨_,_,_,hcs⟩
 ·simp at hcs;exact⟨_,_,_,hcs⟩
theorem dj{n:Nat}{u:Value}{y:DataW H × List MemPlace}(h:DataW.trod enc prog w base (fun _=>true) held n 3 [u]=some y):∃i:Int,u=.int .i64 i/\Wf i:=by
 obtain⟨i,hcs,_,hw⟩:=DataW.trod_int underlying3 h;simp at hcs;exact⟨i,hcs,hw⟩
theorem lz{n:Nat}{u:Value}{y:DataW H × List MemPlace}(h:DataW.trod enc prog w base (fun _=>true) held n 9 [u]=some y):∃s:ByteArray,u=.string s/\s.size<=maxLen:=by
 obtain⟨i,hcs,_,hw⟩:=DataW.trod_string underlying9 h;simp at hcs;exact⟨i,hcs,hw⟩
theorem oe(s:ByteArray):(⟨s.data.toList.toArray⟩:ByteArray)=s:=by cases s;simp
/-- a one-cell field of a struct that came in, by its offset -/
theorem ay{P:Program}{spare:Nat->Bool}{t:TypeId}{fs:Array Field}{cs:List Value}{fuel:Nat}{x:DataW H × List MemPlace}(hs:P.underlying t=some (.struct fs))(hf:DataW.trod enc P w base spare held fuel t cs=some x)
  (j:Nat) (f:Field) (hj:fs[j]?=some f) (h1:P.cellsOf f.type=1) (ho:f.offset < P.cellsOf t):∃(u:Value) (y:DataW H × List MemPlace) (n:Nat),cs[f.offset]?=some u/\DataW.trod enc P w base spare held n f.type [u]=some y:=by
 obtain⟨i,n,_,_,c,d,g⟩:=DataW.trod_struct hs hf;have b:=g j f hj;have e:j < fs.size:=(Array.getElem?_eq_some_iff.1 hj).1;rw[h1]at b
 have h:(cs.drop f.offset).take 1=[cs[f.offset]'(by omega)]:=by rw[List.drop_eq_getElem_cons (by omega)];rfl
 rw[h]at b;exact⟨_,_,n,List.getElem?_eq_getElem (by omega),b.trans (List.getElem?_eq_getElem (by omega))⟩
/-- a slice that came in, its elements opened one by one -/
theorem jv{α:Type}{R:World->List Value->α->Prop}{I:α->Prop}{m:Nat}{P:Program}{spare:Nat->Bool}{t e:TypeId}{n:Nat}{u:Value}{y:DataW H × List MemPlace}(ht:P.underlying t=some (.slice e))(hc:P.cellsOf e=m)(hmp:0 < m)
  (each:∀(n:Nat) (cs:List Value) (y:DataW H × List MemPlace),cs.length=m->DataW.trod enc P w base spare held n e cs=some y->∃a,R w cs a/\I a)
  (h:DataW.trod enc P w base spare held n t [u]=some y):∃l:List α,aj R m w u l/\(∀x∈l,I x)/\l.length<=maxLen:=by
 rcases DataW.trod_slice ht h with⟨b,_⟩|⟨a,g,X,V,Y,k,_,b,_,hb,hl,hm,Z,A,_⟩
 ·simp at b;subst b;exact⟨[],aj.nil_ _ _ _,by simp,by simp⟩
 ·simp at b;subst b;rw[hc]at A
  have a0:X<=9223372036854775807:=by simpa [maxLen]using hm
  have each':∀i,i < g->∃(cs:List Value) (x:α),cs.length=m/\(∀j,j < m->w.cell? (a.add (i*m+j))=cs[j]?)/\R w cs x/\I x:=by
   intro i hi;have h1:=A i hi;rw[List.getElem?_eq_getElem (by omega),Option.bind_eq_some_iff]at h1;obtain⟨cs,b,ht'⟩:=h1;obtain⟨_,D,O⟩:=World.cells?_some b;obtain⟨x,hx,N⟩:=each _ _ _ D ht';refine⟨cs,x,D,fun j hj=>?_,hx,N⟩;have q:=O j hj;rw[Go.Deep.add_add]at q;exact q
  rcases Nat.eq_zero_or_pos g with h0|hp
  ·subst h0;exact⟨[],⟨[],rfl,by simp,by simp,⟨by simp,by simp,_,_,rfl,by simp,fun h=>absurd h (by simp)⟩⟩,by simp,by simp⟩
  ·have hf:a=⟨a.block,a.off,none⟩:=by
    obtain⟨cs,_,q1,q2,_⟩:=each' 0 hp;have q:=q2 0 hmp;rw[Nat.zero_mul,List.getElem?_eq_getElem (by omega)]at q;exact mX q
   have p:∀q,q<=g->∃(f:List (List Value)) (l:List α),f.length=q/\l.length=q/\(∀c∈f,c.length=m)/\(∀(k:Nat) x,l[k]?=some x->∃c,f[k]?=some c/\R w c x) /\
     (∀(k:Nat) c,f[k]?=some c->∀j,j < m->w.cell? (a.add (k*m+j))=c[j]?)/\∀x∈l,I x:=by
    intro q
    induction q with
    |zero=>intro _;exact⟨[],[],rfl,rfl,by simp,by simp,by simp,by simp⟩
    |succ q ih =>
     intro hq;obtain⟨f,l,J,G,F,U,T,Q⟩:=ih (by omega);obtain⟨cs,x,c1,c2,c3,c4⟩:=each' q (by omega);refine⟨f++[cs],l++[x],by simp[J],by simp[G],fun c hc=>?_,fun k z d=>?_,fun k c hc j hj=>?_,fun z d=>?_⟩
     ·rcases List.mem_append.1 hc with hc|hc
      ·exact F c hc
      ·rw[List.mem_singleton.1 hc];exact c1
     ·rcases Nat.lt_or_ge k q with r|r
      ·rw[List.getElem?_append_left (by omega)]at d;obtain⟨c,M,L⟩:=U k z d;exact⟨c,by rw[List.getElem?_append_left (by omega)];exact M,L⟩
      ·have hk':=(List.getElem?_eq_some_iff.1 d).1;rw[List.length_append,List.length_singleton]at hk'
       obtain rfl:k=q:=by omega
       rw[List.getElem?_append_right (by omega),G,Nat.sub_self]at d;simp at d;subst d;exact⟨cs,by rw[List.getElem?_append_right (by omega),J,Nat.sub_self];rfl,c3⟩
     ·rcases Nat.lt_or_ge k q with r|r
      ·rw[List.getElem?_append_left (by omega)]at hc;exact T k c hc j hj
      ·have hk':=(List.getElem?_eq_some_iff.1 hc).1;rw[List.length_append,List.length_singleton]at hk'
       obtain rfl:k=q:=by omega
       rw[List.getElem?_append_right (by omega),J,Nat.sub_self]at hc;simp at hc;subst hc;exact c2 j hj
     ·rcases List.mem_append.1 d with d|d
      ·exact Q z d
      ·rw[List.mem_singleton.1 d];exact c4
   obtain⟨f,l,J,G,F,U,T,Q⟩:=p g (Nat.le_refl _);have s:=dC f m F;refine⟨l,⟨f,by omega,F,U,⟨by rw[s,J,G],by omega,_,_,by rw[G],by omega,fun _=>⟨a.block,a.off,congrArg some hf,fun k v hv=>?_⟩⟩⟩,Q,by omega⟩;have r:=(List.getElem?_eq_some_iff.1 hv).1;rw[s]at r
   have B:k / m*m+k % m=k:=by rw[Nat.mul_comm];exact Nat.div_add_mod k m
   have o:=Nat.mod_lt k hmp;have C:k / m < f.length:=(Nat.div_lt_iff_lt_mul hmp).2 r;have E:=List.getElem?_eq_getElem C;have M:=cd f m (k / m) (k % m) _ F E o;rw[B]at M;have L:=T (k / m) _ E (k % m) o;rw[B,<-M,hv,hf,ky]at L;exact L
theorem ea{P:Program}{spare:Nat->Bool}{t:TypeId}{fs:Array Field}{cs:List Value}{fuel:Nat}{x:DataW H × List MemPlace}(hs:P.underlying t=some (.struct fs))(hf:DataW.trod enc P w base spare held fuel t cs=some x)
  (j:Nat) (f:Field) (hj:fs[j]?=some f):∃(y:DataW H × List MemPlace) (n:Nat),DataW.trod enc P w base spare held n f.type ((cs.drop f.offset).take (P.cellsOf f.type))=some y:=by
 obtain⟨xs,n,_,_,hlen,hxl,hg⟩:=DataW.trod_struct hs hf;have hjl:j < fs.size:=(Array.getElem?_eq_some_iff.1 hj).1;exact⟨_,n,(hg j f hj).trans (List.getElem?_eq_getElem (by omega))⟩
theorem su(n:Nat)(cs:List Value)(y:DataW H × List MemPlace)(hl:cs.length=4)(h:DataW.trod enc prog w base (fun _=>true) held n 36 cs=some y):∃p:Pss,PssR w cs p/\True:=by
 have e:prog.cellsOf 36=4:=by kernel_rfl
 obtain⟨o,F,P,l,B⟩:=ay underlying36 h 0 _ rfl (by kernel_rfl) (by rw[e];decide);obtain⟨m,E,O,k,A⟩:=ay underlying36 h 1 _ rfl (by kernel_rfl) (by rw[e];decide);obtain⟨g,D,N,j,z⟩:=ay underlying36 h 2 _ rfl (by kernel_rfl) (by rw[e];decide);obtain⟨f,C,M,i,x⟩:=ay underlying36 h 3 _ rfl (by kernel_rfl) (by rw[e];decide)
 obtain rfl:cs=[o,m,g,f]:=by
  match cs,hl with
  | [a,b,c,d],_=>simp at l k j i;subst l k j i;rfl
 obtain⟨q,rfl,L⟩:=lz B;obtain⟨v,rfl,J⟩:=dj A;obtain⟨u,s,I,_⟩:=vV z;obtain⟨t,r,G,_⟩:=ii x;exact⟨⟨q.data.toList,v,u,t⟩,⟨g,f,by rw[oe],s,r⟩,trivial⟩
theorem iJ{n:Nat}{u:Value}{y:DataW H × List MemPlace}(h:DataW.trod enc prog w base (fun _=>true) held n 22 [u]=some y):∃l:List Pss,aj PssR 4 w u l:=by
 obtain⟨l,h1,_,_⟩:=jv underlying22 (by kernel_rfl) (by decide) su h;exact⟨l,h1⟩
theorem ko(n:Nat)(cs:List Value)(y:DataW H × List MemPlace)(hl:cs.length=7)(h:DataW.trod enc prog w base (fun _=>true) held n 42 cs=some y):∃x:Iss,IssR w cs x/\∀a∈x.attrs,Wf a:=by
 have P:prog.cellsOf 42=7:=by kernel_rfl
 have b:prog.cellsOf 40=6:=by kernel_rfl
 have c:prog.cellsOf 38=3:=by kernel_rfl
 obtain⟨o,y0,n0,X,R⟩:=ay underlying42 h 0 _ rfl (by kernel_rfl) (by rw[P];decide);obtain⟨d,e,Q⟩:=ea underlying42 h 1 _ rfl;have f:DataW.trod enc prog w base (fun _=>true) held e 40 ((cs.drop 1).take (prog.cellsOf 40))=some d:=Q;rw[b]at f;have e0':cs[0]?=some o:=X
 match cs,hl with
 | [a0,a1,a2,a3,a4,a5,a6],_ =>
  have g1':DataW.trod enc prog w base (fun _=>true) held e 40 [a1,a2,a3,a4,a5,a6]=some d:=f;obtain⟨m,z0,m0,V,G⟩:=ay underlying40 g1' 0 _ rfl (by kernel_rfl) (by rw[b];decide);obtain⟨g,C,F⟩:=ea underlying40 g1' 1 _ rfl;obtain⟨k,Z,m2,U,E⟩:=ay underlying40 g1' 2 _ rfl (by kernel_rfl) (by rw[b];decide);obtain⟨j,Y,m3,T,D⟩:=ay underlying40 g1' 3 _ rfl (by kernel_rfl) (by rw[b];decide);have k1':DataW.trod enc prog w base (fun _=>true) held C 38 [a2,a3,a4]=some g:=F;obtain⟨B,x0,p0,v,s⟩:=ay underlying38 k1' 0 _ rfl (by kernel_rfl) (by rw[c];decide);obtain⟨A,x1,p1,u,r⟩:=ay underlying38 k1' 1 _ rfl (by kernel_rfl) (by rw[c];decide);obtain⟨z,x2,p2,t,q⟩:=ay underlying38 k1' 2 _ rfl (by kernel_rfl) (by rw[c];decide);have f0':[a1,a2,a3,a4,a5,a6][0]?=some m:=V;have f2':[a1,a2,a3,a4,a5,a6][4]?=some k:=U;have f3':[a1,a2,a3,a4,a5,a6][5]?=some j:=T;have q0':[a2,a3,a4][0]?=some B:=v;have q1':[a2,a3,a4][1]?=some A:=u;have q2':[a2,a3,a4][2]?=some z:=t;simp at e0' f0' f2' f3' q0' q1' q2';subst e0' f0' f2' f3' q0' q1' q2';obtain⟨O,rfl,w0⟩:=dj R;obtain⟨l,p,i,_⟩:=ii G;obtain⟨N,rfl,w2⟩:=dj E;obtain⟨M,rfl,w3⟩:=dj D;obtain⟨L,rfl,_⟩:=dj s;obtain⟨J,rfl,_⟩:=dj r;obtain⟨I,rfl,_⟩:=dj q;exact⟨⟨O,l⟩,⟨a1,L,J,I,N,M,rfl,p⟩,i⟩
theorem lS{n:Nat}{u:Value}{y:DataW H × List MemPlace}(h:DataW.trod enc prog w base (fun _=>true) held n 24 [u]=some y):∃l:List Iss,aj IssR 7 w u l/\∀x∈l,∀a∈x.attrs,Wf a:=by
 obtain⟨l,h1,h2,_⟩:=jv underlying24 (by kernel_rfl) (by decide) ko h;exact⟨l,h1,h2⟩
theorem iX{e:TypeId}{P:Program}{spare:Nat->Bool}{n:Nat}{t:TypeId}{u:Value}{y:DataW H × List MemPlace}(ht:P.underlying t=some (.slice e))(h:DataW.trod enc P w base spare held n t [u]=some y):IsSl u:=tY ht h
theorem wK(n:Nat)(cs:List Value)(y:DataW H × List MemPlace)(hl:cs.length=1)(h:DataW.trod enc prog w base (fun _=>true) held n 109 cs=some y):∃k:Nat,LnR w cs k/\True:=by
 match cs,hl with
 | [u],_ =>
  rcases DataW.trod_slice underlying109 h with⟨hcs,_⟩|⟨a,len,cap,_,_,_,_,hcs,_,hb,hl,hm,_⟩
  ·simp at hcs;subst hcs;exact⟨0,⟨none,0,rfl,by decide⟩,trivial⟩
  ·simp at hcs;subst hcs
   have hmx:cap<=9223372036854775807:=by simpa [maxLen]using hm
   exact⟨len,⟨_,cap,rfl,by omega⟩,trivial⟩
theorem jL(n:Nat)(cs:List Value)(y:DataW H × List MemPlace)(hl:cs.length=18)(h:DataW.trod enc prog w base (fun _=>true) held n 61 cs=some y):∃x:Sgt,SgtR w cs x/\True:=by
 have hC:prog.cellsOf 61=18:=by kernel_rfl
 have a:prog.cellsOf 50=8:=by kernel_rfl
 have b:prog.cellsOf 59=9:=by kernel_rfl
 have q:prog.cellsOf 57=2:=by kernel_rfl
 obtain⟨e,j,l⟩:=ea underlying61 h 0 _ rfl;obtain⟨f,k,o⟩:=ea underlying61 h 1 _ rfl;obtain⟨uh,yh,nh,C,hh⟩:=ay underlying61 h 2 _ rfl (by kernel_rfl) (by rw[hC];decide);have c:DataW.trod enc prog w base (fun _=>true) held j 50 ((cs.drop 0).take (prog.cellsOf 50))=some e:=l;have d:DataW.trod enc prog w base (fun _=>true) held k 59 ((cs.drop 8).take (prog.cellsOf 59))=some f:=o;have eh':cs[17]?=some uh:=C;rw[a]at c;rw[b]at d;clear l o C h
 match cs,hl with
 | [a0,a1,a2,a3,a4,a5,a6,a7,a8,a9,a10,a11,a12,a13,a14,a15,a16,a17],_ =>
  have gt':DataW.trod enc prog w base (fun _=>true) held j 50 [a0,a1,a2,a3,a4,a5,a6,a7]=some e:=c;have gr':DataW.trod enc prog w base (fun _=>true) held k 59 [a8,a9,a10,a11,a12,a13,a14,a15,a16]=some f:=d;clear c d;obtain⟨u0,y0,n0,M,h0⟩:=ay underlying50 gt' 0 _ rfl (by kernel_rfl) (by rw[a];decide);have e0':[a0,a1,a2,a3,a4,a5,a6,a7][0]?=some u0:=M;clear M;obtain⟨u1,y1,n1,L,h1⟩:=ay underlying50 gt' 1 _ rfl (by kernel_rfl) (by rw[a];decide);have e1':[a0,a1,a2,a3,a4,a5,a6,a7][1]?=some u1:=L;clear L;obtain⟨u2,y2,n2,J,h2⟩:=ay underlying50 gt' 2 _ rfl (by kernel_rfl) (by rw[a];decide);have e2':[a0,a1,a2,a3,a4,a5,a6,a7][2]?=some u2:=J;clear J;obtain⟨u3,y3,n3,I,h3⟩:=ay underlying50 gt' 3 _ rfl (by kernel_rfl) (by rw[a];decide);have e3':[a0,a1,a2,a3,a4,a5,a6,a7][3]?=some u3:=I;clear I;obtain⟨u4,y4,n4,G,h4⟩:=ay underlying50 gt' 4 _ rfl (by kernel_rfl) (by rw[a];decide);have e4':[a0,a1,a2,a3,a4,a5,a6,a7][4]?=some u4:=G;clear G;obtain⟨u5,y5,n5,F,h5⟩:=ay underlying50 gt' 5 _ rfl (by kernel_rfl) (by rw[a];decide);have e5':[a0,a1,a2,a3,a4,a5,a6,a7][5]?=some u5:=F;clear F;obtain⟨u6,y6,n6,E,h6⟩:=ay underlying50 gt' 6 _ rfl (by kernel_rfl) (by rw[a];decide);have e6':[a0,a1,a2,a3,a4,a5,a6,a7][6]?=some u6:=E;clear E;obtain⟨u7,y7,n7,D,h7⟩:=ay underlying50 gt' 7 _ rfl (by kernel_rfl) (by rw[a];decide);have e7':[a0,a1,a2,a3,a4,a5,a6,a7][7]?=some u7:=D
  clear D;obtain⟨Z,z0,m0,B,k0⟩:=ay underlying59 gr' 0 _ rfl (by kernel_rfl) (by rw[b];decide);have f0':[a8,a9,a10,a11,a12,a13,a14,a15,a16][0]?=some Z:=B;clear B;obtain⟨Y,z1,m1,A,k1⟩:=ay underlying59 gr' 1 _ rfl (by kernel_rfl) (by rw[b];decide);have f1':[a8,a9,a10,a11,a12,a13,a14,a15,a16][1]?=some Y:=A;clear A;obtain⟨X,z2,m2,z,k2⟩:=ay underlying59 gr' 2 _ rfl (by kernel_rfl) (by rw[b];decide);have f2':[a8,a9,a10,a11,a12,a13,a14,a15,a16][2]?=some X:=z;clear z;obtain⟨V,z3,m3,v,k3⟩:=ay underlying59 gr' 3 _ rfl (by kernel_rfl) (by rw[b];decide);have f3':[a8,a9,a10,a11,a12,a13,a14,a15,a16][3]?=some V:=v;clear v;obtain⟨U,z4,m4,u,k4⟩:=ay underlying59 gr' 4 _ rfl (by kernel_rfl) (by rw[b];decide);have f4':[a8,a9,a10,a11,a12,a13,a14,a15,a16][4]?=some U:=u;clear u;obtain⟨T,z5,m5,t,k5⟩:=ay underlying59 gr' 5 _ rfl (by kernel_rfl) (by rw[b];decide);have f5':[a8,a9,a10,a11,a12,a13,a14,a15,a16][5]?=some T:=t;clear t;obtain⟨Q,z6,m6,s,k6⟩:=ay underlying59 gr' 6 _ rfl (by kernel_rfl) (by rw[b];decide);have f6':[a8,a9,a10,a11,a12,a13,a14,a15,a16][6]?=some Q:=s;clear s;obtain⟨N,np,p⟩:=ea underlying59 gr' 7 _ rfl;have r:DataW.trod enc prog w base (fun _=>true) held np 57 [a15,a16]=some N:=p;clear p;obtain⟨P,b0,c0,i,r0⟩:=ay underlying57 r 0 _ rfl (by kernel_rfl) (by rw[q];decide);have q0':[a15,a16][0]?=some P:=i
  clear i;obtain⟨O,b1,c1,g,r1⟩:=ay underlying57 r 1 _ rfl (by kernel_rfl) (by rw[q];decide);have q1':[a15,a16][1]?=some O:=g;clear g;simp at e0' e1' e2' e3' e4' e5' e6' e7' f0' f1' f2' f3' f4' f5' f6' q0' q1' eh';subst e0' e1' e2' e3' e4' e5' e6' e7' f0' f1' f2' f3' f4' f5' f6' q0' q1' eh';obtain⟨i0,rfl,_⟩:=dj h0;obtain⟨s1,rfl,_⟩:=lz h1;obtain⟨l2,r2⟩:=iJ h2;obtain⟨i3,rfl,_⟩:=dj h3;obtain⟨l4,r4,_,_⟩:=ii h4;obtain⟨i5,rfl,_⟩:=dj h5;obtain⟨i6,rfl,_⟩:=dj h6;obtain⟨i7,rfl,_⟩:=dj h7;obtain⟨ih,rfl,_⟩:=dj hh;obtain⟨ll,rl,_,_⟩:=jv (R:=LnR) (m:=1) underlying53 (by kernel_rfl) (by decide) wK k2
  exact⟨⟨s1.data.toList,i3,l2,l4,ll,ih⟩,⟨i0,a2,a4,i5,i6,i7,a8,a9,a10,a11,a12,a13,a14,a15,a16,by rw[oe],r2,r4,rl,
   iX underlying51 k0,iX underlying52 k1,iX underlying23 k3,iX underlying23 k4,iX underlying54 k5,iX underlying23 k6,iX underlying54 r0,iX underlying55 r1⟩,trivial⟩
theorem lD{n:Nat}{u:Value}{y:DataW H × List MemPlace}(h:DataW.trod enc prog w base (fun _=>true) held n 25 [u]=some y):∃l:List Sgt,aj SgtR 18 w u l:=by
 obtain⟨l,h1,_,_⟩:=jv underlying25 (by kernel_rfl) (by decide) jL h;exact⟨l,h1⟩
end
theorem oX{H:Type}{enc:TypeId × Value->H}{w:World}{base:Nat}{held:Bool}{P:Program}{spare:Nat->Bool}{t e:TypeId}{n:Nat}{u:Value}{d:DataW H}{p:List MemPlace}{K B:Nat}(ht:P.underlying t=some (.slice e))(h:DataW.trod enc P w base spare held n t [u]=some (d,p)){a:Option Addr}{m c:Nat}(hu:u=.slice a m c)
  (hs:∀elems spare,d=.slice elems spare->(elems.length+spare.length)*B<=K):m*B<=K:=by
 subst hu
 rcases DataW.trod_slice ht h with⟨b,_⟩|⟨q,j,o,elems,f,k,_,b,l,_,_,_,g,_⟩
 ·simp at b;obtain⟨_,rfl,_⟩:=b;omega
 ·simp at b;obtain⟨_,rfl,_⟩:=b;injection l with h3 h4;have i:=hs _ _ h3;rw[List.length_map,List.length_map]at i;exact Nat.le_trans (Nat.mul_le_mul_right _ (by omega)) i
section
variable {H:Type} {enc:TypeId × Value->H} {w:World} {base:Nat} {held:Bool}
theorem uZ{r:Reach}{b0:Nat}{v:Value}{d:DataW H}{p:List MemPlace}(hv:Value.okWide prog w r b0 42 v)(h:DataW.Trod enc prog w base (fun _=>true) held 42 v d p) :
  ∃(cs:List Value) (x:Iss),v=.agg cs.toArray/\IssR w cs x/\∀a∈x.attrs,Wf a:=by
 have hC:prog.cellsOf 42=7:=by kernel_rfl
 obtain⟨cs,rfl,hsz⟩:=okWide_struct underlying42 hv;obtain⟨l⟩:=cs
 have hl:l.length=7:=by simpa using hsz.trans hC
 obtain⟨fuel,hf⟩:=h;obtain⟨x,h1,h2⟩:=ko fuel l (d,p) hl (by simpa [Value.cells]using hf);exact⟨l,x,rfl,h1,h2⟩
theorem tZ{r:Reach}{b0:Nat}{v:Value}{d:DataW H}{p:List MemPlace}(hv:Value.okWide prog w r b0 61 v)(h:DataW.Trod enc prog w base (fun _=>true) held 61 v d p) :
  ∃(cs:List Value) (x:Sgt),v=.agg cs.toArray/\SgtR w cs x:=by
 have hC:prog.cellsOf 61=18:=by kernel_rfl
 obtain⟨cs,rfl,hsz⟩:=okWide_struct underlying61 hv;obtain⟨l⟩:=cs
 have hl:l.length=18:=by simpa using hsz.trans hC
 obtain⟨fuel,hf⟩:=h;obtain⟨x,h1,_⟩:=jL fuel l (d,p) hl (by simpa [Value.cells]using hf);exact⟨l,x,rfl,h1⟩
theorem xw{n:Nat}{u:Value}{y:DataW H × List MemPlace}(h:DataW.trod enc prog w base (fun _=>true) held n 5 [u]=some y):∃i:Int,u=.int .u8 i/\(Lit.int .u8 i).wf=true:=by
 obtain⟨i,hcs,_,hw⟩:=DataW.trod_int underlying5 h;simp at hcs;exact⟨i,hcs,hw⟩
end
end Go.Proofs.YtpcmamoomaddoaaGreatDoor
