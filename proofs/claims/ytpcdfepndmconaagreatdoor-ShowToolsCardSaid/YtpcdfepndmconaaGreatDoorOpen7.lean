/- Arguments opened: an opening, a vote. -/
import Derived.Test.YtpcdfepndmconaaGreatDoorEnv
import Derived.Stop.LaidErr
import Derived.LaidLaws
import Derived.Lib.LaidTab
import Derived.WalkKit
import Derived.ProofKit
import Derived.Test.YtpcdfepndmconaaGreatDoorRdS
import Derived.OpenShut
import Derived.SliceStrings
import Derived.ChangeSlices
import Derived.Deep.Fields
import Derived.ChangeArms
import Derived.Below
import Derived.Test.YtpcdfepndmconaaGreatDoorPts
import Derived.Test.YtpcdfepndmconaaGreatDoorSameT
import Derived.Test.YtpcdfepndmconaaGreatDoorBnd
import Derived.Test.YtpcdfepndmconaaGreatDoorSg1
/- JOINED: Laid Open FewT TskI Open9 Ballot FewV Plain7 Open7 -/
/- What the rows' listed variables give the walks; one world that holds them. -/
namespace Go.Proofs.YtpcdfepndmconaaGreatDoor
open Go.RowKit Go.ChangeShapes
abbrev laidList : List (String × DataW Unit) := [("math/bits.deBruijn32tab", Rows.laid_math_bits_deBruijn32tab), ("math/bits.deBruijn64tab", Rows.laid_math_bits_deBruijn64tab), ("internal/strconv.uint64pow10", Rows.laid_internal_strconv_uint64pow10), ("strconv.ErrRange", Rows.laid_strconv_ErrRange), ("strconv.ErrSyntax", Rows.laid_strconv_ErrSyntax)]
theorem rngType:(Tryz.prog.globals[4]?).map (·.type)=some 195:=by kernel_rfl
theorem synType:(Tryz.prog.globals[3]?).map (·.type)=some 195:=by kernel_rfl
theorem pow10Type:(Tryz.prog.globals[5]?).map (·.type)=some 252:=by kernel_rfl
theorem star : "*" ++ "errors.errorString" = "*errors.errorString" := by decide
theorem rowErr (u : TypeId) (h : Tryz.prog.typeName? 3 u = some "*errors.errorString") : u = 257 :=
 typeName_ptr_named (nm := "errors.errorString") (by rw [star]; kernel_rfl) (by kernel_rfl) (by decide) u (by rw [star]; exact h)
theorem cellsErr:Tryz.prog.cellsOf 259=1:=by kernel_rfl
theorem cellsString:Tryz.prog.cellsOf 9=1:=by kernel_rfl
theorem cellsU64:Tryz.prog.cellsOf 170=1:=by kernel_rfl
theorem cellsPow10:Tryz.prog.cellsOf 252=20:=by kernel_rfl
theorem var_lt {w:World} {n:String} {g:Nat} {cs:Array Value} (hg:Tryz.prog.globalNamed n=some g) (hv:w.var? Tryz.prog n=some cs):g < w.heap.size:=by
 unfold World.var? at hv
 rw [hg] at hv;simp only [Option.bind_some] at hv
 rcases Nat.lt_or_ge g w.heap.size with h1|h1
 ·exact h1
 ·rw [Array.getElem?_eq_none h1] at hv;cases hv
theorem env_of_laid {W:World} (hL:laidMetH Tryz.prog laidList W):Env W:=by
 have h:laidMet Tryz.prog laidList W:=hL;have h3:=h.tail.tail;have h4:=h3.tail;have h5:=h4.tail;have hp : Lib.TabIs Tryz.prog W "internal/strconv.uint64pow10" .u64 Lib.pow10Tab := Lib.tabIs_of_head g_pow10 pow10Type Tryz.underlying252 Tryz.underlying170 cellsU64 cellsPow10 h3;obtain ⟨a0,s0,hv0,_⟩:=laid_sentinel h4 g_rng rngType Tryz.underlying195 rowErr Tryz.underlying257 Tryz.underlying259 rfl rfl Tryz.underlying9 cellsErr cellsString;obtain ⟨a1,s1,hv1,_⟩:=laid_sentinel h5 g_syn synType Tryz.underlying195 rowErr Tryz.underlying257 Tryz.underlying259 rfl rfl Tryz.underlying9 cellsErr cellsString;have l1:=var_lt g_pow10 hp;have l2:=var_lt g_rng hv0;have l3:=var_lt g_syn hv1;exact ⟨by unfold NG;omega,hp,⟨_,_,hv1⟩,⟨_,_,hv0⟩⟩
/-! ### one world that holds the listed variables -/
abbrev textR:ByteArray:={ data:=#[118,97,108,117,101,32,111,117,116,32,111,102,32,114,97,110,103,101] }
abbrev textS:ByteArray:={ data:=#[105,110,118,97,108,105,100,32,115,121,110,116,97,120] }
noncomputable def low:Nat:=(World.holding Tryz.prog default ⟨#[],#[],[]⟩).heap.size
def putG (h:Array Obj) (g:Nat) (cs:Array Value):Array Obj:=h.modify g fun
 | .cells _ t frozen=>.cells cs t frozen
 | o=>o
noncomputable def laidWorld (os:Os):World :=
 let w0:=World.holding Tryz.prog os ⟨#[.cells #[.string textR] 259,.cells #[.string textS] 259],#[],[]⟩
 let h1:=putG w0.heap 7 (([0,1,28,2,29,14,24,3,30,22,20,15,25,17,4,8,31,27,13,23,21,19,16,7,26,12,18,6,11,5,10,9]:List Int).map fun z=>Value.int .u8 z).toArray
 let h2:=putG h1 6 (([0,1,56,2,57,49,28,3,61,58,42,50,38,29,17,4,62,47,59,36,45,43,51,22,53,39,33,30,24,18,12,5,63,55,48,27,60,41,37,16,46,35,44,21,52,32,23,11,54,26,40,15,34,20,31,10,25,14,19,9,13,8,7,6]:List Int).map fun z=>Value.int .u8 z).toArray
 let h3:=putG h2 5 (([1,10,100,1000,10000,100000,1000000,10000000,100000000,1000000000,10000000000,100000000000,1000000000000,10000000000000,100000000000000,1000000000000000,10000000000000000,100000000000000000,1000000000000000000,10000000000000000000]:List Int).map fun z=>Value.int .u64 z).toArray
 let h4:=putG h3 4 #[.iface 257 (.pointer (some ⟨low,0,none⟩))]
 let h5:=putG h4 3 #[.iface 257 (.pointer (some ⟨low+1,0,none⟩))]
 { w0 with heap:=h5 }
theorem laid_met (os:Os) (args:Array Value):laidMet Tryz.prog laidList ((laidWorld os).forCall (fun _ _=>0) ⟨#[],args,[]⟩).memory :=
 laidMet_of_run' 8 (by kernel_rfl) (by kernel_rfl)
end Go.Proofs.YtpcdfepndmconaaGreatDoor
/- Arguments opened: structs of whatever number of one-cell fields, lists of ints and of strings. -/
namespace Go.Proofs.YtpcdfepndmconaaGreatDoor
open Go.RowKit Go.ChangeShapes Go.WideShapes Go.Deep
section
variable {H:Type} {enc:TypeId × Value→H} {w:World} {base:Nat} {held:Bool}
theorem flat_of {w:World} {a:Addr} {v:Value} (h:w.cell? (a.add 0)=some v):a=⟨a.block,a.off,none⟩:=by
 obtain ⟨b,o,s⟩:=a;have:=World.cell?_spot h
 simp [Addr.add] at this
 subst this
 rfl
theorem flat_add (b o k:Nat):(⟨b,o,none⟩:Addr).add k=⟨b,o+k,none⟩:=by
 unfold Addr.add
 by_cases h:k=0
 ·subst h;simp
 ·simp [h]
theorem wf_i64 {i:Int} (h:(Lit.int .i64 i).wf=true):Wire.I64 i:=by
 have h1:IntKind.min .i64=-9223372036854775808:=by decide
 have h2:IntKind.max .i64=9223372036854775807:=by decide
 simp only [Lit.wf,h1,h2,Bool.and_eq_true,decide_eq_true_eq] at h;exact h
theorem ints_of {n:Nat} {u:Value} {y:DataW H × List MemPlace} (h:DataW.trod enc Tryz.prog w base (fun _=>true) held n 24 [u]=some y) :
  ∃ l:List Int,Row w 1 u l.length (ints l)∧(∀ x∈l,Wire.I64 x)∧l.length≤maxLen:=by
 rcases open_ints Tryz.underlying24 Tryz.underlying3 (by kernel_rfl) h with ⟨hcs,_⟩|⟨x,l,c,zs,hcs,_,hl,hm,hz,_,hcell,hwz⟩
 ·simp at hcs;subst hcs;exact ⟨[],⟨rfl,by simp,_,_,rfl,by simp,fun h=>absurd h (by simp)⟩,by simp,by simp⟩
 ·simp at hcs;subst hcs;simp at hz
  have hlen:(zs.take l).length=l:=by rw [List.length_take];omega
  have hmx:c≤9223372036854775807:=by simpa [maxLen] using hm
  refine ⟨zs.take l,⟨by simp [ints],by rw [hlen];omega,_,_,by rw [hlen],by rw [hlen];exact hl,fun hp=>?_⟩,fun x hx=>?_,by rw [hlen];omega⟩
  ·rw [hlen] at hp;have h0:=hcell 0 (by omega);have hf:=flat_of h0;refine ⟨x.block,x.off,congrArg some hf,fun k u hu=>?_⟩
   have hk:k < l:=by
    have:=(List.getElem?_eq_some_iff.1 hu).1
    simp [ints] at this;omega
   have h1:=hcell k (by omega);rw [hf] at h1;rw [flat_add] at h1;rw [h1];simp only [ints,List.map_take,List.getElem?_take,hk,if_true,List.getElem?_map] at hu;rw [List.getD_eq_getElem?_getD]
   cases hzk:zs[k]? with
   | none=>rw [hzk] at hu;simp at hu
   | some z=>rw [hzk] at hu;simpa using hu
  ·exact wf_i64 (hwz x (List.mem_of_mem_take hx))
theorem int_of {n:Nat} {u:Value} {y:DataW H × List MemPlace} (h:DataW.trod enc Tryz.prog w base (fun _=>true) held n 3 [u]=some y):∃ i:Int,u=.int .i64 i∧Wire.I64 i:=by
 obtain ⟨i,hcs,_,hw⟩:=DataW.trod_int Tryz.underlying3 h;simp at hcs;exact ⟨i,hcs,wf_i64 hw⟩
theorem string_of {n:Nat} {u:Value} {y:DataW H × List MemPlace} (h:DataW.trod enc Tryz.prog w base (fun _=>true) held n 9 [u]=some y):∃ s:ByteArray,u=.string s∧s.size≤maxLen:=by
 obtain ⟨i,hcs,_,hw⟩:=DataW.trod_string Tryz.underlying9 h;simp at hcs;exact ⟨i,hcs,hw⟩
end
end Go.Proofs.YtpcdfepndmconaaGreatDoor
/- The documents' bounds on tasks: FewTask. -/
namespace Go.Proofs.YtpcdfepndmconaaGreatDoor
open Go.RowKit Tape
end Go.Proofs.YtpcdfepndmconaaGreatDoor
/- Every int of a task is an int. -/
namespace Go.Proofs.YtpcdfepndmconaaGreatDoor
open Go.RowKit Tape
end Go.Proofs.YtpcdfepndmconaaGreatDoor
/- Arguments opened: a task, a record. -/
namespace Go.Proofs.YtpcdfepndmconaaGreatDoor
open Go.RowKit Go.ChangeShapes Go.WideShapes Go.Deep Tape
section
variable {H:Type} {enc:TypeId × Value→H} {w:World} {base:Nat} {held:Bool}
theorem ofBytes9 (s:ByteArray):(⟨s.data.toList.toArray⟩:ByteArray)=s:=by cases s;simp
/-- a one-cell field of a struct that came in, by its offset -/
theorem cell_field {P:Program} {spare:Nat→Bool} {t:TypeId} {fs:Array Field} {cs:List Value} {fuel:Nat} {x:DataW H × List MemPlace} (hs:P.underlying t=some (.struct fs)) (hf:DataW.trod enc P w base spare held fuel t cs=some x)
  (j:Nat) (f:Field) (hj:fs[j]?=some f) (h1:P.cellsOf f.type=1) (ho:f.offset < P.cellsOf t):∃ (u:Value) (y:DataW H × List MemPlace) (n:Nat),cs[f.offset]?=some u∧DataW.trod enc P w base spare held n f.type [u]=some y:=by
 obtain ⟨xs,n,_,_,hlen,hxl,hg⟩:=DataW.trod_struct hs hf;have h2:=hg j f hj;have hjl:j < fs.size:=(Array.getElem?_eq_some_iff.1 hj).1;rw [h1] at h2
 have h3:(cs.drop f.offset).take 1=[cs[f.offset]'(by omega)]:=by rw [List.drop_eq_getElem_cons (by omega)];rfl
 rw [h3] at h2;exact ⟨_,_,n,List.getElem?_eq_getElem (by omega),h2.trans (List.getElem?_eq_getElem (by omega))⟩
/-- a slice that came in, its elements opened one by one -/
theorem rows_of {α:Type} {R:World→List Value→α→Prop} {I:α→Prop} {m:Nat} {P:Program} {spare:Nat→Bool} {t e:TypeId} {n:Nat} {u:Value} {y:DataW H × List MemPlace} (ht:P.underlying t=some (.slice e)) (hc:P.cellsOf e=m) (hmp:0 < m)
  (each:∀ (n:Nat) (cs:List Value) (y:DataW H × List MemPlace),cs.length=m→DataW.trod enc P w base spare held n e cs=some y→∃ a,R w cs a∧I a)
  (h:DataW.trod enc P w base spare held n t [u]=some y):∃ l:List α,RowOf R m w u l∧(∀ x∈l,I x)∧l.length≤maxLen:=by
 rcases DataW.trod_slice ht h with ⟨hcs,_⟩|⟨a,len,cap,elems,rest,k,_,hcs,_,hb,hl,hm,hlen,hel,_⟩
 ·simp at hcs;subst hcs;exact ⟨[],RowOf.nil_ _ _ _,by simp,by simp⟩
 ·simp at hcs;subst hcs;rw [hc] at hel
  have hmx:cap≤9223372036854775807:=by simpa [maxLen] using hm
  have each':∀ i,i < len→∃ (cs:List Value) (x:α),cs.length=m∧(∀ j,j < m→w.cell? (a.add (i*m+j))=cs[j]?)∧R w cs x∧I x:=by
   intro i hi;have h1:=hel i hi;rw [List.getElem?_eq_getElem (by omega),Option.bind_eq_some_iff] at h1;obtain ⟨cs,hcs,ht'⟩:=h1;obtain ⟨_,hcl,hat⟩:=World.cells?_some hcs;obtain ⟨x,hx,hix⟩:=each _ _ _ hcl ht';refine ⟨cs,x,hcl,fun j hj=>?_,hx,hix⟩;have q:=hat j hj;rw [Go.Deep.add_add] at q;exact q
  rcases Nat.eq_zero_or_pos len with h0|hp
  ·subst h0;exact ⟨[],⟨[],rfl,by simp,by simp,⟨by simp,by simp,_,_,rfl,by simp,fun h=>absurd h (by simp)⟩⟩,by simp,by simp⟩
  ·have hf:a=⟨a.block,a.off,none⟩:=by
    obtain ⟨cs,_,q1,q2,_⟩:=each' 0 hp;have q:=q2 0 hmp;rw [Nat.zero_mul,List.getElem?_eq_getElem (by omega)] at q;exact flat_of q
   have build:∀ q,q≤len→∃ (vs:List (List Value)) (l:List α),vs.length=q∧l.length=q∧(∀ c∈vs,c.length=m)∧(∀ (k:Nat) x,l[k]?=some x→∃ c,vs[k]?=some c∧R w c x) ∧
     (∀ (k:Nat) c,vs[k]?=some c→∀ j,j < m→w.cell? (a.add (k*m+j))=c[j]?)∧∀ x∈l,I x:=by
    intro q
    induction q with
    | zero=>intro _;exact ⟨[],[],rfl,rfl,by simp,by simp,by simp,by simp⟩
    | succ q ih =>
     intro hq;obtain ⟨vs,l,g1,g2,g3,g4,g5,g6⟩:=ih (by omega);obtain ⟨cs,x,c1,c2,c3,c4⟩:=each' q (by omega);refine ⟨vs++[cs],l++[x],by simp [g1],by simp [g2],fun c hc=>?_,fun k z hz=>?_,fun k c hc j hj=>?_,fun z hz=>?_⟩
     ·rcases List.mem_append.1 hc with hc|hc
      ·exact g3 c hc
      ·rw [List.mem_singleton.1 hc];exact c1
     ·rcases Nat.lt_or_ge k q with hk|hk
      ·rw [List.getElem?_append_left (by omega)] at hz;obtain ⟨c,e1,e2⟩:=g4 k z hz;exact ⟨c,by rw [List.getElem?_append_left (by omega)];exact e1,e2⟩
      ·have hk':=(List.getElem?_eq_some_iff.1 hz).1;rw [List.length_append,List.length_singleton] at hk'
       obtain rfl:k=q:=by omega
       rw [List.getElem?_append_right (by omega),g2,Nat.sub_self] at hz;simp at hz;subst hz;exact ⟨cs,by rw [List.getElem?_append_right (by omega),g1,Nat.sub_self];rfl,c3⟩
     ·rcases Nat.lt_or_ge k q with hk|hk
      ·rw [List.getElem?_append_left (by omega)] at hc;exact g5 k c hc j hj
      ·have hk':=(List.getElem?_eq_some_iff.1 hc).1;rw [List.length_append,List.length_singleton] at hk'
       obtain rfl:k=q:=by omega
       rw [List.getElem?_append_right (by omega),g1,Nat.sub_self] at hc;simp at hc;subst hc;exact c2 j hj
     ·rcases List.mem_append.1 hz with hz|hz
      ·exact g6 z hz
      ·rw [List.mem_singleton.1 hz];exact c4
   obtain ⟨vs,l,g1,g2,g3,g4,g5,g6⟩:=build len (Nat.le_refl _);have hfl:=flatten_len vs m g3;refine ⟨l,⟨vs,by omega,g3,g4,⟨by rw [hfl,g1,g2],by omega,_,_,by rw [g2],by omega,fun _=>⟨a.block,a.off,congrArg some hf,fun k v hv=>?_⟩⟩⟩,g6,by omega⟩;have hk:=(List.getElem?_eq_some_iff.1 hv).1;rw [hfl] at hk
   have hdm:k / m*m+k % m=k:=by rw [Nat.mul_comm];exact Nat.div_add_mod k m
   have hmod:=Nat.mod_lt k hmp;have hdiv:k / m < vs.length:=(Nat.div_lt_iff_lt_mul hmp).2 hk;have hc1:=List.getElem?_eq_getElem hdiv;have e1:=flatten_get vs m (k / m) (k % m) _ g3 hc1 hmod;rw [hdm] at e1;have e2:=g5 (k / m) _ hc1 (k % m) hmod;rw [hdm,←e1,hv,hf,flat_add] at e2;exact e2
theorem field_many {P:Program} {spare:Nat→Bool} {t:TypeId} {fs:Array Field} {cs:List Value} {fuel:Nat} {x:DataW H × List MemPlace} (hs:P.underlying t=some (.struct fs)) (hf:DataW.trod enc P w base spare held fuel t cs=some x)
  (j:Nat) (f:Field) (hj:fs[j]?=some f):∃ (y:DataW H × List MemPlace) (n:Nat),DataW.trod enc P w base spare held n f.type ((cs.drop f.offset).take (P.cellsOf f.type))=some y:=by
 obtain ⟨xs,n,_,_,hlen,hxl,hg⟩:=DataW.trod_struct hs hf;have hjl:j < fs.size:=(Array.getElem?_eq_some_iff.1 hj).1;exact ⟨_,n,(hg j f hj).trans (List.getElem?_eq_getElem (by omega))⟩
theorem list_each (n:Nat) (cs:List Value) (y:DataW H × List MemPlace) (hl:cs.length=1) (h:DataW.trod enc Tryz.prog w base (fun _=>true) held n 24 cs=some y):∃ a,ListR w cs a∧AllI a:=by
 match cs,hl with
 | [u],_ =>
  obtain ⟨l,hr,hi,_⟩:=ints_of h;exact ⟨l,⟨u,rfl,hr⟩,hi⟩
theorem lists_of {n:Nat} {u:Value} {y:DataW H × List MemPlace} (h:DataW.trod enc Tryz.prog w base (fun _=>true) held n 62 [u]=some y):∃ l:List (List Int),RowOf ListR 1 w u l∧(∀ x∈l,AllI x)∧l.length≤maxLen :=
 rows_of Tryz.underlying62 (by kernel_rfl) (by decide) list_each h
theorem lists_each (n:Nat) (cs:List Value) (y:DataW H × List MemPlace) (hl:cs.length=1) (h:DataW.trod enc Tryz.prog w base (fun _=>true) held n 62 cs=some y):∃ a,ListsR w cs a∧∀ x∈a,AllI x:=by
 match cs,hl with
 | [u],_ =>
  obtain ⟨l,hr,hi,_⟩:=lists_of h;exact ⟨l,⟨u,rfl,hr⟩,hi⟩
theorem answers_of {n:Nat} {u:Value} {y:DataW H × List MemPlace} (h:DataW.trod enc Tryz.prog w base (fun _=>true) held n 63 [u]=some y):∃ l:List (List (List Int)),RowOf ListsR 1 w u l∧(∀ x∈l,∀ z∈x,AllI z)∧l.length≤maxLen :=
 rows_of Tryz.underlying63 (by kernel_rfl) (by decide) lists_each h
set_option maxRecDepth 100000 in
theorem tick_each (n:Nat) (cs:List Value) (y:DataW H × List MemPlace) (hl:cs.length=6) (h:DataW.trod enc Tryz.prog w base (fun _=>true) held n 134 cs=some y):∃ t:Tick,TickR w cs t∧TickI t:=by
 have hC:Tryz.prog.cellsOf 134=6:=by kernel_rfl
 obtain ⟨u0,y0,n0,e0,h0⟩:=cell_field Tryz.underlying134 h 0 _ rfl (by kernel_rfl) (by rw [hC];decide);obtain ⟨u1,y1,n1,e1,h1⟩:=cell_field Tryz.underlying134 h 1 _ rfl (by kernel_rfl) (by rw [hC];decide);obtain ⟨u2,y2,n2,e2,h2⟩:=cell_field Tryz.underlying134 h 2 _ rfl (by kernel_rfl) (by rw [hC];decide);obtain ⟨u3,y3,n3,e3,h3⟩:=cell_field Tryz.underlying134 h 3 _ rfl (by kernel_rfl) (by rw [hC];decide);obtain ⟨u4,y4,n4,e4,h4⟩:=cell_field Tryz.underlying134 h 4 _ rfl (by kernel_rfl) (by rw [hC];decide);obtain ⟨u5,y5,n5,e5,h5⟩:=cell_field Tryz.underlying134 h 5 _ rfl (by kernel_rfl) (by rw [hC];decide)
 obtain rfl:cs=[u0,u1,u2,u3,u4,u5]:=by
  match cs,hl with
  | [a,b,c,d,e,f],_=>simp at e0 e1 e2 e3 e4 e5;subst e0 e1 e2 e3 e4 e5;rfl
 obtain ⟨i0,rfl,w0⟩:=int_of h0;obtain ⟨i1,rfl,w1⟩:=int_of h1;obtain ⟨i2,rfl,w2⟩:=int_of h2;obtain ⟨i3,rfl,w3⟩:=int_of h3;obtain ⟨i4,rfl,w4⟩:=int_of h4;obtain ⟨i5,rfl,w5⟩:=int_of h5;exact ⟨(i0,i1,i2,i3,i4,i5),rfl,w0,w1,w2,w3,w4,w5⟩
set_option maxRecDepth 100000 in
theorem spend_each (n:Nat) (cs:List Value) (y:DataW H × List MemPlace) (hl:cs.length=2) (h:DataW.trod enc Tryz.prog w base (fun _=>true) held n 110 cs=some y):∃ x:Spnd,SpndR w cs x∧SpndI x:=by
 have hC:Tryz.prog.cellsOf 110=2:=by kernel_rfl
 obtain ⟨u0,y0,n0,e0,h0⟩:=cell_field Tryz.underlying110 h 0 _ rfl (by kernel_rfl) (by rw [hC];decide);obtain ⟨u1,y1,n1,e1,h1⟩:=cell_field Tryz.underlying110 h 1 _ rfl (by kernel_rfl) (by rw [hC];decide)
 obtain rfl:cs=[u0,u1]:=by
  match cs,hl with
  | [a,b],_=>simp at e0 e1;subst e0 e1;rfl
 obtain ⟨i0,rfl,w0⟩:=int_of h0;obtain ⟨l1,r1,w1,_⟩:=ints_of h1;exact ⟨(i0,l1),⟨u1,rfl,r1⟩,w0,w1⟩
set_option maxRecDepth 100000 in
theorem link_each (n:Nat) (cs:List Value) (y:DataW H × List MemPlace) (hl:cs.length=9) (h:DataW.trod enc Tryz.prog w base (fun _=>true) held n 138 cs=some y):∃ x:Lnk × List UInt8,LnkR w cs x∧((TickI x.1.1∧SpndI x.1.2)∧x.2.length≤maxLen):=by
 have hC:Tryz.prog.cellsOf 138=9:=by kernel_rfl
 have hT:Tryz.prog.cellsOf 134=6:=by kernel_rfl
 have hS:Tryz.prog.cellsOf 110=2:=by kernel_rfl
 obtain ⟨y0,n0,h0⟩:=field_many Tryz.underlying138 h 0 _ rfl;obtain ⟨y1,n1,h1⟩:=field_many Tryz.underlying138 h 1 _ rfl;obtain ⟨u2,y2,n2,e2,h2⟩:=cell_field Tryz.underlying138 h 2 _ rfl (by kernel_rfl) (by rw [hC];decide);have g0:DataW.trod enc Tryz.prog w base (fun _=>true) held n0 134 ((cs.drop 0).take (Tryz.prog.cellsOf 134))=some y0:=h0;have g1:DataW.trod enc Tryz.prog w base (fun _=>true) held n1 110 ((cs.drop 6).take (Tryz.prog.cellsOf 110))=some y1:=h1;have e2':cs[8]?=some u2:=e2;rw [hT] at g0;rw [hS] at g1;clear h0 h1 e2
 match cs,hl with
 | [a0,a1,a2,a3,a4,a5,a6,a7,a8],_ =>
  obtain ⟨t,ht,it⟩:=tick_each n0 _ _ rfl g0;obtain ⟨x,⟨v,hx,hr⟩,ix⟩:=spend_each n1 _ _ rfl g1;have ht':[a0,a1,a2,a3,a4,a5]=tickC t:=ht;have hx':[a6,a7]=[.int .i64 x.1,v]:=hx;simp at e2' hx';subst e2';obtain ⟨rfl,rfl⟩:=hx';obtain ⟨s,rfl,ws⟩:=string_of h2;refine ⟨((t,x),s.data.toList),⟨a7,?_,hr⟩,⟨it,ix⟩,ws⟩
  show _=tickC t++[.int .i64 x.1,a7,.string ⟨s.data.toList.toArray⟩]
  rw [←ht',ofBytes9]
  rfl
theorem links_of {n:Nat} {u:Value} {y:DataW H × List MemPlace} (h:DataW.trod enc Tryz.prog w base (fun _=>true) held n 112 [u]=some y):∃ l:List (Lnk × List UInt8),RowOf LnkR 9 w u l∧(∀ x∈l,(TickI x.1.1∧SpndI x.1.2)∧x.2.length≤maxLen)∧l.length≤maxLen :=
 rows_of Tryz.underlying112 (by kernel_rfl) (by decide) link_each h
theorem links_each (n:Nat) (cs:List Value) (y:DataW H × List MemPlace) (hl:cs.length=1) (h:DataW.trod enc Tryz.prog w base (fun _=>true) held n 112 cs=some y):∃ a,LnksR w cs a∧∀ x∈a,(TickI x.1.1∧SpndI x.1.2)∧x.2.length≤maxLen:=by
 match cs,hl with
 | [u],_ =>
  obtain ⟨l,hr,hi,_⟩:=links_of h;exact ⟨l,⟨u,rfl,hr⟩,hi⟩
set_option maxRecDepth 100000 in
/-- a record that came in -/
theorem record_of {r:Reach} {b0:Nat} {v:Value} {d:DataW H} {p:List MemPlace} (hv:Value.okWide Tryz.prog w r b0 67 v) (h:DataW.Trod enc Tryz.prog w base (fun _=>true) held 67 v d p) :
  ∃ x:Rec,RecV w v x∧RecI x∧∀ l∈x.links,∀ z∈l,z.2.length≤maxLen:=by
 have hC:Tryz.prog.cellsOf 67=9:=by kernel_rfl
 have hP:Tryz.prog.cellsOf 65=2:=by kernel_rfl
 obtain ⟨cs,rfl,hsz⟩:=okWide_struct Tryz.underlying67 hv;obtain ⟨l⟩:=cs
 have hl:l.length=9:=by simpa using hsz.trans hC
 obtain ⟨fuel,hf⟩:=h
 have hf':DataW.trod enc Tryz.prog w base (fun _=>true) held fuel 67 l=some (d,p):=by simpa [Value.cells] using hf
 obtain ⟨u0,y0,n0,e0,h0⟩:=cell_field Tryz.underlying67 hf' 0 _ rfl (by kernel_rfl) (by rw [hC];decide);obtain ⟨u1,y1,n1,e1,h1⟩:=cell_field Tryz.underlying67 hf' 1 _ rfl (by kernel_rfl) (by rw [hC];decide);obtain ⟨u2,y2,n2,e2,h2⟩:=cell_field Tryz.underlying67 hf' 2 _ rfl (by kernel_rfl) (by rw [hC];decide);obtain ⟨u3,y3,n3,e3,h3⟩:=cell_field Tryz.underlying67 hf' 3 _ rfl (by kernel_rfl) (by rw [hC];decide);obtain ⟨u4,y4,n4,e4,h4⟩:=cell_field Tryz.underlying67 hf' 4 _ rfl (by kernel_rfl) (by rw [hC];decide);obtain ⟨u5,y5,n5,e5,h5⟩:=cell_field Tryz.underlying67 hf' 5 _ rfl (by kernel_rfl) (by rw [hC];decide);obtain ⟨u6,y6,n6,e6,h6⟩:=cell_field Tryz.underlying67 hf' 6 _ rfl (by kernel_rfl) (by rw [hC];decide);obtain ⟨yp,np,hp⟩:=field_many Tryz.underlying67 hf' 7 _ rfl;have gp:DataW.trod enc Tryz.prog w base (fun _=>true) held np 65 ((l.drop 7).take (Tryz.prog.cellsOf 65))=some yp:=hp;rw [hP,List.take_of_length_le (by rw [List.length_drop];omega)] at gp;obtain ⟨u7,y7,n7,e7,h7⟩:=cell_field Tryz.underlying65 gp 0 _ rfl (by kernel_rfl) (by rw [hP];decide);obtain ⟨u8,y8,n8,e8,h8⟩:=cell_field Tryz.underlying65 gp 1 _ rfl (by kernel_rfl) (by rw [hP];decide);clear gp hp hf hv hf' hsz
 obtain rfl:l=[u0,u1,u2,u3,u4,u5,u6,u7,u8]:=by
  match l,hl with
  | [a,b,c,d,e,f,g,i,j],_ =>
   simp at e0 e1 e2 e3 e4 e5 e6 e7 e8;subst e0 e1 e2 e3 e4 e5 e6 e7 e8
   rfl
 obtain ⟨l0,r0,w0,_⟩:=rows_of (R:=TickR) (m:=6) Tryz.underlying59 (by kernel_rfl) (by decide) tick_each h0;obtain ⟨l1,r1,w1,_⟩:=rows_of (R:=SpndR) (m:=2) Tryz.underlying60 (by kernel_rfl) (by decide) spend_each h1;obtain ⟨l2,r2,w2,_⟩:=rows_of (R:=LnksR) (m:=1) Tryz.underlying61 (by kernel_rfl) (by decide) links_each h2;obtain ⟨l3,r3,w3,_⟩:=ints_of h3;obtain ⟨l4,r4,w4,_⟩:=ints_of h4;obtain ⟨l5,r5,w5,_⟩:=lists_of h5;obtain ⟨l6,r6,w6,_⟩:=ints_of h6;obtain ⟨l7,r7,w7,_⟩:=lists_of h7;obtain ⟨l8,r8,w8,_⟩:=answers_of h8;exact ⟨⟨l0,l1,l2,l3,l4,l5,l6,⟨l7,l8⟩⟩,⟨_,_,_,_,_,_,_,_,_,rfl,r0,r1,r2,r3,r4,r5,r6,r7,r8⟩,⟨w0,w1,fun l hl x hx=>(w2 l hl x hx).1,w3,w4,w5,w6,w7,w8⟩,fun l hl x hx=>(w2 l hl x hx).2⟩
end
end Go.Proofs.YtpcdfepndmconaaGreatDoor
/- A juror's vote: its value, and the text that is signed. -/
namespace Go.Proofs.YtpcdfepndmconaaGreatDoor
open Go.RowKit
end Go.Proofs.YtpcdfepndmconaaGreatDoor
/- The documents' bounds on votes: FewVotes. -/
namespace Go.Proofs.YtpcdfepndmconaaGreatDoor
open Go.RowKit
end Go.Proofs.YtpcdfepndmconaaGreatDoor
/- The plain law: minutes read back, no other text is read; the signed text tells the votes apart. -/
namespace Go.Proofs.YtpcdfepndmconaaGreatDoor
open Go.RowKit
end Go.Proofs.YtpcdfepndmconaaGreatDoor
namespace Go.Proofs.YtpcdfepndmconaaGreatDoor
open Go.RowKit Go.ChangeShapes Go.WideShapes Go.Deep
section
variable {H:Type} {enc:TypeId × Value→H} {w:World} {base:Nat} {held:Bool}
set_option maxRecDepth 100000 in
/-- one point: three ints at its place -/
theorem point_of {n:Nat} {cs:List Value} {y:DataW H × List MemPlace} (h:DataW.trod enc Tryz.prog w base (fun _=>true) held n 78 cs=some y) :
  ∃ x0 x1 x2:Int,cs=[.int .i64 x0,.int .i64 x1,.int .i64 x2]∧Wire.I64 x0∧Wire.I64 x1∧Wire.I64 x2:=by
 obtain ⟨xs,k,_,_,hlen,hxl,hg⟩:=DataW.trod_struct Tryz.underlying78 h
 have hc:Tryz.prog.cellsOf 78=3:=by kernel_rfl
 have hi:Tryz.prog.cellsOf 3=1:=by kernel_rfl
 rw [hc] at hlen
 match cs,hlen with
 | [a,b,c],_ =>
  have g0:DataW.trod enc Tryz.prog w base (fun _=>true) held k 3 ([a].take (Tryz.prog.cellsOf 3)++[])=xs[0]?:=by rw [hi];have:=hg 0 _ rfl;rw [show Tryz.prog.cellsOf (Field.type _)=1 from hi] at this;exact this
  have g1:DataW.trod enc Tryz.prog w base (fun _=>true) held k 3 [b]=xs[1]?:=by have:=hg 1 _ rfl;rw [show Tryz.prog.cellsOf (Field.type _)=1 from hi] at this;exact this
  have g2:DataW.trod enc Tryz.prog w base (fun _=>true) held k 3 [c]=xs[2]?:=by have:=hg 2 _ rfl;rw [show Tryz.prog.cellsOf (Field.type _)=1 from hi] at this;exact this
  rw [hi] at g0;have l0:xs[0]?=some (xs[0]'(by rw [hxl];decide)):=List.getElem?_eq_getElem _;have l1:xs[1]?=some (xs[1]'(by rw [hxl];decide)):=List.getElem?_eq_getElem _;have l2:xs[2]?=some (xs[2]'(by rw [hxl];decide)):=List.getElem?_eq_getElem _;obtain ⟨i0,rfl,w0⟩:=int_of (g0.trans l0);obtain ⟨i1,rfl,w1⟩:=int_of (g1.trans l1);obtain ⟨i2,rfl,w2⟩:=int_of (g2.trans l2);exact ⟨i0,i1,i2,rfl,w0,w1,w2⟩
theorem pts_of {n:Nat} {u:Value} {y:DataW H × List MemPlace} (h:DataW.trod enc Tryz.prog w base (fun _=>true) held n 31 [u]=some y) :
  ∃ (m:Nat) (l:List Int),Row w 3 u m (ints l)∧∀ x∈l,Wire.I64 x:=by
 have hc:Tryz.prog.cellsOf 78=3:=by kernel_rfl
 rcases DataW.trod_slice Tryz.underlying31 h with ⟨hcs,_⟩|⟨a,len,cap,elems,rest,k,_,hcs,_,hb,hl,hm,hlen,hel,_⟩
 ·simp at hcs;subst hcs;exact ⟨0,[],⟨rfl,by simp,_,_,rfl,by simp,fun h=>absurd h (by simp)⟩,by simp⟩
 ·simp at hcs;subst hcs;rw [hc] at hel
  have each:∀ i,i < len→∃ x0 x1 x2:Int,(w.cell? (a.add (i*3))=some (.int .i64 x0)∧w.cell? (a.add (i*3+1))=some (.int .i64 x1)∧w.cell? (a.add (i*3+2))=some (.int .i64 x2)) ∧
    Wire.I64 x0∧Wire.I64 x1∧Wire.I64 x2:=by
   intro i hi;have h1:=hel i hi;rw [List.getElem?_eq_getElem (by omega),Option.bind_eq_some_iff] at h1;obtain ⟨cs,hcs,ht⟩:=h1;obtain ⟨_,_,hat⟩:=World.cells?_some hcs;obtain ⟨x0,x1,x2,rfl,w0,w1,w2⟩:=point_of ht;have q0:=hat 0 (by omega);have q1:=hat 1 (by omega);have q2:=hat 2 (by omega);rw [Go.Deep.add_add] at q0 q1 q2;exact ⟨x0,x1,x2,⟨q0,q1,q2⟩,w0,w1,w2⟩
  rcases Nat.eq_zero_or_pos len with h0|hp
  ·subst h0;exact ⟨0,[],⟨rfl,by simp,_,_,rfl,by simp,fun h=>absurd h (by simp)⟩,by simp⟩
  ·have hf:a=⟨a.block,a.off,none⟩:=by
    obtain ⟨x0,_,_,⟨q0,_,_⟩,_⟩:=each 0 hp;rw [Nat.zero_mul] at q0;exact flat_of q0
   have build:∀ m,m≤len→∃ l:List Int,l.length=m*3∧(∀ k u,(ints l)[k]?=some u→w.cell? ⟨a.block,a.off+k,none⟩=some u)∧∀ x∈l,Wire.I64 x:=by
    intro m
    induction m with
    | zero=>intro _;exact ⟨[],rfl,by simp [ints],by simp⟩
    | succ m ih =>
     intro hm;obtain ⟨l,l1,l2,l3⟩:=ih (by omega);obtain ⟨x0,x1,x2,⟨q0,q1,q2⟩,w0,w1,w2⟩:=each m (by omega);rw [hf,flat_add] at q0 q1 q2;refine ⟨l++[x0,x1,x2],by simp [l1];omega,fun k u hu=>?_,fun x hx=>?_⟩
     ·have hil:(ints l).length=m*3:=by simp [ints,l1]
      have hsp:ints (l++[x0,x1,x2])=ints l++[.int .i64 x0,.int .i64 x1,.int .i64 x2]:=by simp [ints]
      rw [hsp] at hu
      by_cases hk:k < m*3
      ·rw [List.getElem?_append_left (by omega)] at hu;exact l2 k u hu
      ·rw [List.getElem?_append_right (by omega),hil] at hu
       have hk3:k - m*3 < 3:=by
        have:=(List.getElem?_eq_some_iff.1 hu).1
        simpa using this
       rcases (by omega:k=m*3∨k=m*3+1∨k=m*3+2) with rfl|rfl|rfl
       ·simp at hu;subst hu;exact q0
       ·simp at hu;subst hu;exact q1
       ·simp at hu;subst hu;exact q2
     ·simp only [List.mem_append,List.mem_cons,List.not_mem_nil,or_false] at hx
      rcases hx with hx|rfl|rfl|rfl
      ·exact l3 x hx
      ·exact w0
      ·exact w1
      ·exact w2
   obtain ⟨l,l1,l2,l3⟩:=build len (Nat.le_refl _)
   have hmx:cap≤9223372036854775807:=by simpa [maxLen] using hm
   exact ⟨len,l,⟨by simp [ints,l1],by omega,_,_,rfl,hl,fun _=>⟨a.block,a.off,congrArg some hf,l2⟩⟩,l3⟩
end
end Go.Proofs.YtpcdfepndmconaaGreatDoor
