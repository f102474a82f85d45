/- Arguments opened: lists of ints, strings, passes, issuings, sights. -/
import Derived.Test.YtpcmamoomaddoaaGreatDoorLnx
import Derived.Test.YtpcmamoomaddoaaGreatDoorShelf
import Derived.Test.YtpcmamoomaddoaaGreatDoorRows
import Derived.Lay
import Derived.Stop.LaidErr
import Derived.Lib.LaidTab
import Derived.WalkKit
import Derived.ProofKit
import Derived.SliceStrings
import Derived.ChangeArms
import Derived.Test.YtpcmamoomaddoaaGreatDoorFwa
import Derived.OpenShut
import Derived.ChangeSlices
import Derived.Deep.Fields
import Derived.Below
/- JOINED: Ldk Opk -/
/- What the laws' listed variables give the walks: base.signs, ask.reserved, internal/bytealg.MaxLen; one world that holds them. -/
namespace Go.Proofs.YtpcmamoomaddoaaGreatDoor
open Go.RowKit Go.ChangeShapes
abbrev laidList : List (String × DataW Unit) := [("cloak/base.signs", Rows.laid_cloak_base_signs), ("cloak/ask.reserved", Rows.laid_cloak_ask_reserved)]
theorem signsType:(Tryz.prog.globals[1]?).map (·.type)=some 208:=by kernel_rfl
theorem resType:(Tryz.prog.globals[0]?).map (·.type)=some 34:=by kernel_rfl
theorem signsLaid:(Rows.laid_cloak_base_signs:DataW Unit)=.agg (signsB.map fun s=>.lit (.string s)):=rfl
theorem resLaid:(Rows.laid_cloak_ask_reserved:DataW Unit)=.slice (reservedB.map fun s=>.lit (.string s)) []:=rfl
theorem cells_of_words {H:Type} {enc:TypeId × Value→H} {P:Program} {w:World} {base:Nat} {sp:Nat→Bool} {held:Bool} {fuel:Nat} {t e:TypeId} {n:Nat} {cs:List Value} {ss:List Bs} {p:List MemPlace}
  (ht:P.underlying t=some (.array n e)) (he:P.underlying e=some .string) (hce:P.cellsOf e=1) (hct:P.cellsOf t=n)
  (h:DataW.trod enc P w base sp held fuel t cs=some (.agg (ss.map fun s=>.lit (.string s)),p)):cs=ss.map fun s=>Value.string ⟨s.toArray⟩:=by
 cases fuel with
 | zero=>simp [DataW.trod] at h
 | succ fuel =>
  simp only [DataW.trod,ht,hce,hct,Nat.mul_one] at h
  split at h
  ·rename_i hl;obtain ⟨xs,hm,hx⟩:=Option.map_eq_some_iff.1 h
   have hxs:xs.map (·.1)=ss.map fun s=>(DataW.lit (.string s):DataW H):=by
    have:=congrArg Prod.fst hx
    simpa using this
   have hxl:xs.length=n:=by simpa using Lib.mapM_length hm
   have hzl:ss.length=n:=by
    have:=congrArg List.length hxs;simp at this;omega
   apply List.ext_getElem?
   intro i
   by_cases hi:i < n
   ·obtain ⟨b,hb,hf⟩:=Lib.mapM_at hm i i (by simp [hi]);obtain ⟨z,hc,rfl,_⟩:=DataW.trod_string he hf
    have h1:cs[i]?=some (.string z):=by
     have:=congrArg (·[0]?) hc
     simpa [List.getElem?_take,List.getElem?_drop] using this
    have h2:(xs.map (·.1))[i]?=some (DataW.lit (.string z.data.toList):DataW H):=by simp [hb]
    rw [hxs] at h2;simp only [List.getElem?_map,Option.map_eq_some_iff,DataW.lit.injEq,Lit.string.injEq] at h2;obtain ⟨z',hz',rfl⟩:=h2;rw [h1]
    simp [hz']
   ·rw [List.getElem?_eq_none (by omega),List.getElem?_eq_none (by simp;omega)]
  ·cases h
theorem var_low {w:World} {n:String} {g:Nat} {cs:Array Value} (hg:Tryz.prog.globalNamed n=some g) (hv:w.var? Tryz.prog n=some cs):g < w.heap.size:=by
 unfold World.var? at hv
 rw [hg] at hv;simp only [Option.bind_some] at hv
 rcases Nat.lt_or_ge g w.heap.size with h1|h1
 ·exact h1
 ·rw [Array.getElem?_eq_none h1] at hv;cases hv
theorem signs_laid {W : World} {rest : List (String × DataW Unit)} (h : laidMet Tryz.prog (("cloak/base.signs", Rows.laid_cloak_base_signs) :: rest) W) : W.var? Tryz.prog "cloak/base.signs" = some (strs signsB).toArray := by
 obtain ⟨ps,⟨g',t',cs,fuel,p,q,hg',ht',hvar,hd,_,_⟩,_⟩:=h;obtain rfl:=Option.some.inj (g_signs.symm.trans hg');obtain rfl:=Option.some.inj (signsType.symm.trans ht');rw [signsLaid] at hd;have:=cells_of_words Tryz.underlying208 Tryz.underlying9 (by kernel_rfl) (by kernel_rfl) hd;rw [hvar]
 congr 1
 obtain ⟨l⟩:=cs;have h2:l=signsB.map fun s=>Value.string ⟨s.toArray⟩:=this;rw [h2]
 rfl
theorem res_laid {W : World} {rest : List (String × DataW Unit)} (h : laidMet Tryz.prog (("cloak/ask.reserved", Rows.laid_cloak_ask_reserved) :: rest) W) :
  ∃ b off c, b < W.heap.size ∧ 8 ≤ c ∧ W.var? Tryz.prog "cloak/ask.reserved" = some #[.slice (some ⟨b, off, none⟩) 8 c] ∧ ∀ k u, (strs reservedB)[k]? = some u → W.cell? ⟨b, off + k, none⟩ = some u := by
 obtain ⟨ps,⟨g',t',cs,fuel,p,q,hg',ht',hvar,hd,_,_⟩,_⟩:=h;obtain rfl:=Option.some.inj (g_reserved.symm.trans hg');obtain rfl:=Option.some.inj (resType.symm.trans ht');rw [resLaid] at hd
 rcases open_strings Tryz.underlying34 Tryz.underlying9 (by kernel_rfl) hd with ⟨_,hx⟩|⟨a,len,cap,ss,hcs,_,hl,hm,hz,hx,hcell,_⟩
 ·injection hx with hx _;cases hx
 ·injection hx with hx _;injection hx with hx _;simp only [if_true] at hz;have hxl:=congrArg List.length hx;have h8:reservedB.length=8:=rfl
  simp [ChangeShapes.strs] at hxl
  have hlen:len=8:=by omega
  subst hlen;obtain ⟨l⟩:=cs;have hl':l=[.slice (some a) 8 cap]:=hcs;subst hl';have h0:=hcell 0 (by omega);obtain ⟨b,off,spot⟩:=a
  have hspot:spot=none:=by simpa [Addr.add] using World.cell?_spot h0
  subst hspot;refine ⟨b,off,cap,World.block_lt_of_cell? W ⟨b,off,none⟩ (by simpa [Addr.add] using h0),hl,hvar,fun k u hu=>?_⟩
  have hk:k < 8:=by
   have:=(List.getElem?_eq_some_iff.1 hu).1
   simpa [strs,h8] using this
  have h1:=hcell k (by omega);rw [add_cell] at h1;rw [h1];have h2:(reservedB.map fun s=>(DataW.lit (.string s):DataW Unit))[k]?=((ss.take 8).map fun s=>(DataW.lit (.string s.data.toList):DataW Unit))[k]?:=congrArg (·[k]?) hx
  have hks:k < ss.length:=by omega
  rw [List.getElem?_map,List.getElem?_map,List.getElem?_take,if_pos hk,List.getElem?_eq_getElem hks] at h2;simp only [strs,List.getElem?_map] at hu;rw [List.getD_eq_getElem?_getD,List.getElem?_eq_getElem hks]
  cases hr:reservedB[k]? with
  | none=>rw [hr] at hu;cases hu
  | some r =>
   rw [hr] at hu h2;simp only [Option.map_some,Option.some.injEq,DataW.lit.injEq,Lit.string.injEq] at hu h2;subst hu;rw [h2]
   simp
theorem maxlen_of {W:World} (h:W.ShapedOpen Tryz.prog):∃ m,W.cell? ⟨2,0,none⟩=some (.int .i64 m) :=
 Go.Proofs.cell_of_shapedOpen_int (zero:=#[.int .i64 0]) (t:=3) h (of_decide_eq_true (by kernel_rfl)) (by kernel_rfl) rfl (by kernel_rfl) (by kernel_rfl) Tryz.underlying3
theorem envB_of {W:World} (hL:laidMetH Tryz.prog laidList W) (hsh:W.ShapedOpen Tryz.prog):EnvB W.heap.size W:=by
 have h:laidMet Tryz.prog laidList W:=hL;have h1:=signs_laid h;have h2:=res_laid h.tail;obtain ⟨m,hm⟩:=maxlen_of hsh;obtain ⟨b,off,c,g1,g2,g3,g4⟩:=h2;exact ⟨Nat.le_refl _,⟨var_low g_signs h1,var_low g_reserved g3,World.block_lt_of_cell? W _ hm⟩,⟨m,hm⟩,h1,b,off,c,g1,g2,g3,g4⟩
/-! ### one world that holds the listed variables -/
noncomputable def laidWorld (os:Os):World:=World.laidAll Tryz.prog os laidList
theorem laid_met (os:Os) (args:Array Value):laidMet Tryz.prog laidList ((laidWorld os).forCall (fun _ _=>0) ⟨#[],args,[]⟩).memory :=
 laidMet_laidAll _ (by kernel_rfl) (by kernel_rfl)
end Go.Proofs.YtpcmamoomaddoaaGreatDoor
namespace Go.Proofs.YtpcmamoomaddoaaGreatDoor
open Go.RowKit Go.ChangeShapes Go.WideShapes Go.Deep
def Wf (i:Int):Prop:=(Lit.int .i64 i).wf=true
section
variable {H:Type} {enc:TypeId × Value→H} {w:World} {base:Nat} {held:Bool}
theorem flat_of {w:World} {a:Addr} {v:Value} (h:w.cell? (a.add 0)=some v):a=⟨a.block,a.off,none⟩:=by
 obtain ⟨b,o,s⟩:=a;have:=World.cell?_spot h
 simp [Addr.add] at this
 subst this
 rfl
theorem flat_add (b o k:Nat):(⟨b,o,none⟩:Addr).add k=⟨b,o+k,none⟩:=by
 unfold Addr.add
 by_cases h:k=0
 ·subst h;simp
 ·simp [h]
theorem ints_of {n:Nat} {u:Value} {y:DataW H × List MemPlace} (h:DataW.trod enc Tryz.prog w base (fun _=>true) held n 23 [u]=some y) :
  ∃ l:List Int,Row w 1 u l.length (ints l)∧(∀ x∈l,Wf x)∧l.length≤maxLen:=by
 rcases open_ints Tryz.underlying23 Tryz.underlying3 (by kernel_rfl) h with ⟨hcs,_⟩|⟨x,l,c,zs,hcs,_,hl,hm,hz,_,hcell,hwz⟩
 ·simp at hcs;subst hcs;exact ⟨[],⟨rfl,by simp,_,_,rfl,by simp,fun h=>absurd h (by simp)⟩,by simp,by simp⟩
 ·simp at hcs;subst hcs;simp at hz
  have hlen:(zs.take l).length=l:=by rw [List.length_take];omega
  have hmx:c≤9223372036854775807:=by simpa [maxLen] using hm
  refine ⟨zs.take l,⟨by simp [ints],by rw [hlen];omega,_,_,by rw [hlen],by rw [hlen];exact hl,fun hp=>?_⟩,fun x hx=>?_,by rw [hlen];omega⟩
  ·rw [hlen] at hp;have h0:=hcell 0 (by omega);have hf:=flat_of h0;refine ⟨x.block,x.off,congrArg some hf,fun k u hu=>?_⟩
   have hk:k < l:=by
    have:=(List.getElem?_eq_some_iff.1 hu).1
    simp [ints] at this;omega
   have h1:=hcell k (by omega);rw [hf] at h1;rw [flat_add] at h1;rw [h1];simp only [ints,List.map_take,List.getElem?_take,hk,if_true,List.getElem?_map] at hu;rw [List.getD_eq_getElem?_getD]
   cases hzk:zs[k]? with
   | none=>rw [hzk] at hu;simp at hu
   | some z=>rw [hzk] at hu;simpa using hu
  ·exact (hwz x (List.mem_of_mem_take hx))
theorem strs_of {n:Nat} {u:Value} {y:DataW H × List MemPlace} (h:DataW.trod enc Tryz.prog w base (fun _=>true) held n 34 [u]=some y) :
  ∃ l:List (List UInt8),Row w 1 u l.length (strs l)∧(∀ r∈l,r.length≤maxLen)∧l.length≤maxLen:=by
 rcases open_strings Tryz.underlying34 Tryz.underlying9 (by kernel_rfl) h with ⟨hcs,_⟩|⟨x,l,c,zs,hcs,_,hl,hm,hz,_,hcell,hwz⟩
 ·simp at hcs;subst hcs;exact ⟨[],⟨rfl,by simp,_,_,rfl,by simp,fun h=>absurd h (by simp)⟩,by simp,by simp⟩
 ·simp at hcs;subst hcs;simp at hz
  have hlen:((zs.take l).map fun s:ByteArray=>s.data.toList).length=l:=by rw [List.length_map,List.length_take];omega
  have hmx:c≤9223372036854775807:=by simpa [maxLen] using hm
  refine ⟨(zs.take l).map fun s:ByteArray=>s.data.toList,⟨by simp [strs],by rw [hlen];omega,_,_,by rw [hlen],by rw [hlen];exact hl,fun hp=>?_⟩,fun x hx=>?_,by rw [hlen];omega⟩
  ·rw [hlen] at hp;have h0:=hcell 0 (by omega);have hf:=flat_of h0;refine ⟨x.block,x.off,congrArg some hf,fun k u hu=>?_⟩
   have hk:k < l:=by
    have:=(List.getElem?_eq_some_iff.1 hu).1
    simp [strs] at this;omega
   have h1:=hcell k (by omega);rw [hf] at h1;rw [flat_add] at h1;rw [h1];simp only [strs,List.map_map,List.map_take,List.getElem?_take,hk,if_true,List.getElem?_map] at hu;rw [List.getD_eq_getElem?_getD]
   cases hzk:zs[k]? with
   | none=>rw [hzk] at hu;simp at hu
   | some z=>rw [hzk] at hu;simpa using hu
  ·obtain ⟨s,hs,rfl⟩:=List.mem_map.1 hx;exact hwz s (List.mem_of_mem_take hs)
theorem slice_of {e:TypeId} {P:Program} {spare:Nat→Bool} {n:Nat} {t:TypeId} {u:Value} {y:DataW H × List MemPlace} (ht:P.underlying t=some (.slice e)) (h:DataW.trod enc P w base spare held n t [u]=some y):∃ a m c,u=.slice a m c:=by
 rcases DataW.trod_slice ht h with ⟨hcs,_⟩|⟨a,len,cap,_,_,_,_,hcs,_⟩
 ·simp at hcs;exact ⟨_,_,_,hcs⟩
 ·simp at hcs;exact ⟨_,_,_,hcs⟩
theorem int_of {n:Nat} {u:Value} {y:DataW H × List MemPlace} (h:DataW.trod enc Tryz.prog w base (fun _=>true) held n 3 [u]=some y):∃ i:Int,u=.int .i64 i∧Wf i:=by
 obtain ⟨i,hcs,_,hw⟩:=DataW.trod_int Tryz.underlying3 h;simp at hcs;exact ⟨i,hcs,hw⟩
theorem string_of {n:Nat} {u:Value} {y:DataW H × List MemPlace} (h:DataW.trod enc Tryz.prog w base (fun _=>true) held n 9 [u]=some y):∃ s:ByteArray,u=.string s∧s.size≤maxLen:=by
 obtain ⟨i,hcs,_,hw⟩:=DataW.trod_string Tryz.underlying9 h;simp at hcs;exact ⟨i,hcs,hw⟩
theorem ofBytes9 (s:ByteArray):(⟨s.data.toList.toArray⟩:ByteArray)=s:=by cases s;simp
/-- a one-cell field of a struct that came in, by its offset -/
theorem cell_field {P:Program} {spare:Nat→Bool} {t:TypeId} {fs:Array Field} {cs:List Value} {fuel:Nat} {x:DataW H × List MemPlace} (hs:P.underlying t=some (.struct fs)) (hf:DataW.trod enc P w base spare held fuel t cs=some x)
  (j:Nat) (f:Field) (hj:fs[j]?=some f) (h1:P.cellsOf f.type=1) (ho:f.offset < P.cellsOf t):∃ (u:Value) (y:DataW H × List MemPlace) (n:Nat),cs[f.offset]?=some u∧DataW.trod enc P w base spare held n f.type [u]=some y:=by
 obtain ⟨xs,n,_,_,hlen,hxl,hg⟩:=DataW.trod_struct hs hf;have h2:=hg j f hj;have hjl:j < fs.size:=(Array.getElem?_eq_some_iff.1 hj).1;rw [h1] at h2
 have h3:(cs.drop f.offset).take 1=[cs[f.offset]'(by omega)]:=by rw [List.drop_eq_getElem_cons (by omega)];rfl
 rw [h3] at h2;exact ⟨_,_,n,List.getElem?_eq_getElem (by omega),h2.trans (List.getElem?_eq_getElem (by omega))⟩
/-- a slice that came in, its elements opened one by one -/
theorem rows_of {α:Type} {R:World→List Value→α→Prop} {I:α→Prop} {m:Nat} {P:Program} {spare:Nat→Bool} {t e:TypeId} {n:Nat} {u:Value} {y:DataW H × List MemPlace} (ht:P.underlying t=some (.slice e)) (hc:P.cellsOf e=m) (hmp:0 < m)
  (each:∀ (n:Nat) (cs:List Value) (y:DataW H × List MemPlace),cs.length=m→DataW.trod enc P w base spare held n e cs=some y→∃ a,R w cs a∧I a)
  (h:DataW.trod enc P w base spare held n t [u]=some y):∃ l:List α,RowOf R m w u l∧(∀ x∈l,I x)∧l.length≤maxLen:=by
 rcases DataW.trod_slice ht h with ⟨hcs,_⟩|⟨a,len,cap,elems,rest,k,_,hcs,_,hb,hl,hm,hlen,hel,_⟩
 ·simp at hcs;subst hcs;exact ⟨[],RowOf.nil_ _ _ _,by simp,by simp⟩
 ·simp at hcs;subst hcs;rw [hc] at hel
  have hmx:cap≤9223372036854775807:=by simpa [maxLen] using hm
  have each':∀ i,i < len→∃ (cs:List Value) (x:α),cs.length=m∧(∀ j,j < m→w.cell? (a.add (i*m+j))=cs[j]?)∧R w cs x∧I x:=by
   intro i hi;have h1:=hel i hi;rw [List.getElem?_eq_getElem (by omega),Option.bind_eq_some_iff] at h1;obtain ⟨cs,hcs,ht'⟩:=h1;obtain ⟨_,hcl,hat⟩:=World.cells?_some hcs;obtain ⟨x,hx,hix⟩:=each _ _ _ hcl ht';refine ⟨cs,x,hcl,fun j hj=>?_,hx,hix⟩;have q:=hat j hj;rw [Go.Deep.add_add] at q;exact q
  rcases Nat.eq_zero_or_pos len with h0|hp
  ·subst h0;exact ⟨[],⟨[],rfl,by simp,by simp,⟨by simp,by simp,_,_,rfl,by simp,fun h=>absurd h (by simp)⟩⟩,by simp,by simp⟩
  ·have hf:a=⟨a.block,a.off,none⟩:=by
    obtain ⟨cs,_,q1,q2,_⟩:=each' 0 hp;have q:=q2 0 hmp;rw [Nat.zero_mul,List.getElem?_eq_getElem (by omega)] at q;exact flat_of q
   have build:∀ q,q≤len→∃ (vs:List (List Value)) (l:List α),vs.length=q∧l.length=q∧(∀ c∈vs,c.length=m)∧(∀ (k:Nat) x,l[k]?=some x→∃ c,vs[k]?=some c∧R w c x) ∧
     (∀ (k:Nat) c,vs[k]?=some c→∀ j,j < m→w.cell? (a.add (k*m+j))=c[j]?)∧∀ x∈l,I x:=by
    intro q
    induction q with
    | zero=>intro _;exact ⟨[],[],rfl,rfl,by simp,by simp,by simp,by simp⟩
    | succ q ih =>
     intro hq;obtain ⟨vs,l,g1,g2,g3,g4,g5,g6⟩:=ih (by omega);obtain ⟨cs,x,c1,c2,c3,c4⟩:=each' q (by omega);refine ⟨vs++[cs],l++[x],by simp [g1],by simp [g2],fun c hc=>?_,fun k z hz=>?_,fun k c hc j hj=>?_,fun z hz=>?_⟩
     ·rcases List.mem_append.1 hc with hc|hc
      ·exact g3 c hc
      ·rw [List.mem_singleton.1 hc];exact c1
     ·rcases Nat.lt_or_ge k q with hk|hk
      ·rw [List.getElem?_append_left (by omega)] at hz;obtain ⟨c,e1,e2⟩:=g4 k z hz;exact ⟨c,by rw [List.getElem?_append_left (by omega)];exact e1,e2⟩
      ·have hk':=(List.getElem?_eq_some_iff.1 hz).1;rw [List.length_append,List.length_singleton] at hk'
       obtain rfl:k=q:=by omega
       rw [List.getElem?_append_right (by omega),g2,Nat.sub_self] at hz;simp at hz;subst hz;exact ⟨cs,by rw [List.getElem?_append_right (by omega),g1,Nat.sub_self];rfl,c3⟩
     ·rcases Nat.lt_or_ge k q with hk|hk
      ·rw [List.getElem?_append_left (by omega)] at hc;exact g5 k c hc j hj
      ·have hk':=(List.getElem?_eq_some_iff.1 hc).1;rw [List.length_append,List.length_singleton] at hk'
       obtain rfl:k=q:=by omega
       rw [List.getElem?_append_right (by omega),g1,Nat.sub_self] at hc;simp at hc;subst hc;exact c2 j hj
     ·rcases List.mem_append.1 hz with hz|hz
      ·exact g6 z hz
      ·rw [List.mem_singleton.1 hz];exact c4
   obtain ⟨vs,l,g1,g2,g3,g4,g5,g6⟩:=build len (Nat.le_refl _);have hfl:=flatten_len vs m g3;refine ⟨l,⟨vs,by omega,g3,g4,⟨by rw [hfl,g1,g2],by omega,_,_,by rw [g2],by omega,fun _=>⟨a.block,a.off,congrArg some hf,fun k v hv=>?_⟩⟩⟩,g6,by omega⟩;have hk:=(List.getElem?_eq_some_iff.1 hv).1;rw [hfl] at hk
   have hdm:k / m*m+k % m=k:=by rw [Nat.mul_comm];exact Nat.div_add_mod k m
   have hmod:=Nat.mod_lt k hmp;have hdiv:k / m < vs.length:=(Nat.div_lt_iff_lt_mul hmp).2 hk;have hc1:=List.getElem?_eq_getElem hdiv;have e1:=flatten_get vs m (k / m) (k % m) _ g3 hc1 hmod;rw [hdm] at e1;have e2:=g5 (k / m) _ hc1 (k % m) hmod;rw [hdm,←e1,hv,hf,flat_add] at e2;exact e2
theorem field_many {P:Program} {spare:Nat→Bool} {t:TypeId} {fs:Array Field} {cs:List Value} {fuel:Nat} {x:DataW H × List MemPlace} (hs:P.underlying t=some (.struct fs)) (hf:DataW.trod enc P w base spare held fuel t cs=some x)
  (j:Nat) (f:Field) (hj:fs[j]?=some f):∃ (y:DataW H × List MemPlace) (n:Nat),DataW.trod enc P w base spare held n f.type ((cs.drop f.offset).take (P.cellsOf f.type))=some y:=by
 obtain ⟨xs,n,_,_,hlen,hxl,hg⟩:=DataW.trod_struct hs hf;have hjl:j < fs.size:=(Array.getElem?_eq_some_iff.1 hj).1;exact ⟨_,n,(hg j f hj).trans (List.getElem?_eq_getElem (by omega))⟩
set_option maxRecDepth 100000 in
theorem pass_each (n:Nat) (cs:List Value) (y:DataW H × List MemPlace) (hl:cs.length=4) (h:DataW.trod enc Tryz.prog w base (fun _=>true) held n 36 cs=some y):∃ p:Pss,PssR w cs p∧True:=by
 have hC:Tryz.prog.cellsOf 36=4:=by kernel_rfl
 obtain ⟨u0,y0,n0,e0,h0⟩:=cell_field Tryz.underlying36 h 0 _ rfl (by kernel_rfl) (by rw [hC];decide);obtain ⟨u1,y1,n1,e1,h1⟩:=cell_field Tryz.underlying36 h 1 _ rfl (by kernel_rfl) (by rw [hC];decide);obtain ⟨u2,y2,n2,e2,h2⟩:=cell_field Tryz.underlying36 h 2 _ rfl (by kernel_rfl) (by rw [hC];decide);obtain ⟨u3,y3,n3,e3,h3⟩:=cell_field Tryz.underlying36 h 3 _ rfl (by kernel_rfl) (by rw [hC];decide)
 obtain rfl:cs=[u0,u1,u2,u3]:=by
  match cs,hl with
  | [a,b,c,d],_=>simp at e0 e1 e2 e3;subst e0 e1 e2 e3;rfl
 obtain ⟨s0,rfl,w0⟩:=string_of h0;obtain ⟨i1,rfl,w1⟩:=int_of h1;obtain ⟨l2,r2,w2,_⟩:=strs_of h2;obtain ⟨l3,r3,w3,_⟩:=ints_of h3;exact ⟨⟨s0.data.toList,i1,l2,l3⟩,⟨u2,u3,by rw [ofBytes9],r2,r3⟩,trivial⟩
theorem passes_of {n:Nat} {u:Value} {y:DataW H × List MemPlace} (h:DataW.trod enc Tryz.prog w base (fun _=>true) held n 22 [u]=some y):∃ l:List Pss,RowOf PssR 4 w u l:=by
 obtain ⟨l,h1,_,_⟩:=rows_of Tryz.underlying22 (by kernel_rfl) (by decide) pass_each h;exact ⟨l,h1⟩
set_option maxRecDepth 100000 in
theorem issue_each (n:Nat) (cs:List Value) (y:DataW H × List MemPlace) (hl:cs.length=7) (h:DataW.trod enc Tryz.prog w base (fun _=>true) held n 42 cs=some y):∃ x:Iss,IssR w cs x∧∀ a∈x.attrs,Wf a:=by
 have hC:Tryz.prog.cellsOf 42=7:=by kernel_rfl
 have hS:Tryz.prog.cellsOf 40=6:=by kernel_rfl
 have hO:Tryz.prog.cellsOf 38=3:=by kernel_rfl
 obtain ⟨u0,y0,n0,e0,h0⟩:=cell_field Tryz.underlying42 h 0 _ rfl (by kernel_rfl) (by rw [hC];decide);obtain ⟨y1,n1,h1⟩:=field_many Tryz.underlying42 h 1 _ rfl;have g1:DataW.trod enc Tryz.prog w base (fun _=>true) held n1 40 ((cs.drop 1).take (Tryz.prog.cellsOf 40))=some y1:=h1;rw [hS] at g1;have e0':cs[0]?=some u0:=e0
 match cs,hl with
 | [a0,a1,a2,a3,a4,a5,a6],_ =>
  have g1':DataW.trod enc Tryz.prog w base (fun _=>true) held n1 40 [a1,a2,a3,a4,a5,a6]=some y1:=g1;obtain ⟨v0,z0,m0,f0,k0⟩:=cell_field Tryz.underlying40 g1' 0 _ rfl (by kernel_rfl) (by rw [hS];decide);obtain ⟨z1,m1,k1⟩:=field_many Tryz.underlying40 g1' 1 _ rfl;obtain ⟨v2,z2,m2,f2,k2⟩:=cell_field Tryz.underlying40 g1' 2 _ rfl (by kernel_rfl) (by rw [hS];decide);obtain ⟨v3,z3,m3,f3,k3⟩:=cell_field Tryz.underlying40 g1' 3 _ rfl (by kernel_rfl) (by rw [hS];decide);have k1':DataW.trod enc Tryz.prog w base (fun _=>true) held m1 38 [a2,a3,a4]=some z1:=k1;obtain ⟨o0,x0,p0,q0,r0⟩:=cell_field Tryz.underlying38 k1' 0 _ rfl (by kernel_rfl) (by rw [hO];decide);obtain ⟨o1,x1,p1,q1,r1⟩:=cell_field Tryz.underlying38 k1' 1 _ rfl (by kernel_rfl) (by rw [hO];decide);obtain ⟨o2,x2,p2,q2,r2⟩:=cell_field Tryz.underlying38 k1' 2 _ rfl (by kernel_rfl) (by rw [hO];decide);have f0':[a1,a2,a3,a4,a5,a6][0]?=some v0:=f0;have f2':[a1,a2,a3,a4,a5,a6][4]?=some v2:=f2;have f3':[a1,a2,a3,a4,a5,a6][5]?=some v3:=f3;have q0':[a2,a3,a4][0]?=some o0:=q0;have q1':[a2,a3,a4][1]?=some o1:=q1;have q2':[a2,a3,a4][2]?=some o2:=q2;simp at e0' f0' f2' f3' q0' q1' q2';subst e0' f0' f2' f3' q0' q1' q2';obtain ⟨i0,rfl,w0⟩:=int_of h0;obtain ⟨l,rl,wl,_⟩:=ints_of k0;obtain ⟨i2,rfl,w2⟩:=int_of k2;obtain ⟨i3,rfl,w3⟩:=int_of k3;obtain ⟨j0,rfl,_⟩:=int_of r0;obtain ⟨j1,rfl,_⟩:=int_of r1;obtain ⟨j2,rfl,_⟩:=int_of r2;exact ⟨⟨i0,l⟩,⟨a1,j0,j1,j2,i2,i3,rfl,rl⟩,wl⟩
theorem issues_of {n:Nat} {u:Value} {y:DataW H × List MemPlace} (h:DataW.trod enc Tryz.prog w base (fun _=>true) held n 24 [u]=some y):∃ l:List Iss,RowOf IssR 7 w u l∧∀ x∈l,∀ a∈x.attrs,Wf a:=by
 obtain ⟨l,h1,h2,_⟩:=rows_of Tryz.underlying24 (by kernel_rfl) (by decide) issue_each h;exact ⟨l,h1,h2⟩
theorem sl_of {e:TypeId} {P:Program} {spare:Nat→Bool} {n:Nat} {t:TypeId} {u:Value} {y:DataW H × List MemPlace} (ht:P.underlying t=some (.slice e)) (h:DataW.trod enc P w base spare held n t [u]=some y):IsSl u:=slice_of ht h
theorem ln_each (n:Nat) (cs:List Value) (y:DataW H × List MemPlace) (hl:cs.length=1) (h:DataW.trod enc Tryz.prog w base (fun _=>true) held n 109 cs=some y):∃ k:Nat,LnR w cs k∧True:=by
 match cs,hl with
 | [u],_ =>
  rcases DataW.trod_slice Tryz.underlying109 h with ⟨hcs,_⟩|⟨a,len,cap,_,_,_,_,hcs,_,hb,hl,hm,_⟩
  ·simp at hcs;subst hcs;exact ⟨0,⟨none,0,rfl,by decide⟩,trivial⟩
  ·simp at hcs;subst hcs
   have hmx:cap≤9223372036854775807:=by simpa [maxLen] using hm
   exact ⟨len,⟨_,cap,rfl,by omega⟩,trivial⟩
set_option maxRecDepth 100000 in
theorem sight_each (n:Nat) (cs:List Value) (y:DataW H × List MemPlace) (hl:cs.length=18) (h:DataW.trod enc Tryz.prog w base (fun _=>true) held n 61 cs=some y):∃ x:Sgt,SgtR w cs x∧True:=by
 have hC:Tryz.prog.cellsOf 61=18:=by kernel_rfl
 have hT:Tryz.prog.cellsOf 50=8:=by kernel_rfl
 have hR:Tryz.prog.cellsOf 59=9:=by kernel_rfl
 have hP:Tryz.prog.cellsOf 57=2:=by kernel_rfl
 obtain ⟨yt,nt,ht⟩:=field_many Tryz.underlying61 h 0 _ rfl;obtain ⟨yr,nr,hr⟩:=field_many Tryz.underlying61 h 1 _ rfl;obtain ⟨uh,yh,nh,eh,hh⟩:=cell_field Tryz.underlying61 h 2 _ rfl (by kernel_rfl) (by rw [hC];decide);have gt:DataW.trod enc Tryz.prog w base (fun _=>true) held nt 50 ((cs.drop 0).take (Tryz.prog.cellsOf 50))=some yt:=ht;have gr:DataW.trod enc Tryz.prog w base (fun _=>true) held nr 59 ((cs.drop 8).take (Tryz.prog.cellsOf 59))=some yr:=hr;have eh':cs[17]?=some uh:=eh;rw [hT] at gt;rw [hR] at gr;clear ht hr eh h
 match cs,hl with
 | [a0,a1,a2,a3,a4,a5,a6,a7,a8,a9,a10,a11,a12,a13,a14,a15,a16,a17],_ =>
  have gt':DataW.trod enc Tryz.prog w base (fun _=>true) held nt 50 [a0,a1,a2,a3,a4,a5,a6,a7]=some yt:=gt;have gr':DataW.trod enc Tryz.prog w base (fun _=>true) held nr 59 [a8,a9,a10,a11,a12,a13,a14,a15,a16]=some yr:=gr;clear gt gr;obtain ⟨u0,y0,n0,e0,h0⟩:=cell_field Tryz.underlying50 gt' 0 _ rfl (by kernel_rfl) (by rw [hT];decide);have e0':[a0,a1,a2,a3,a4,a5,a6,a7][0]?=some u0:=e0;clear e0;obtain ⟨u1,y1,n1,e1,h1⟩:=cell_field Tryz.underlying50 gt' 1 _ rfl (by kernel_rfl) (by rw [hT];decide);have e1':[a0,a1,a2,a3,a4,a5,a6,a7][1]?=some u1:=e1;clear e1;obtain ⟨u2,y2,n2,e2,h2⟩:=cell_field Tryz.underlying50 gt' 2 _ rfl (by kernel_rfl) (by rw [hT];decide);have e2':[a0,a1,a2,a3,a4,a5,a6,a7][2]?=some u2:=e2;clear e2;obtain ⟨u3,y3,n3,e3,h3⟩:=cell_field Tryz.underlying50 gt' 3 _ rfl (by kernel_rfl) (by rw [hT];decide);have e3':[a0,a1,a2,a3,a4,a5,a6,a7][3]?=some u3:=e3;clear e3;obtain ⟨u4,y4,n4,e4,h4⟩:=cell_field Tryz.underlying50 gt' 4 _ rfl (by kernel_rfl) (by rw [hT];decide);have e4':[a0,a1,a2,a3,a4,a5,a6,a7][4]?=some u4:=e4;clear e4;obtain ⟨u5,y5,n5,e5,h5⟩:=cell_field Tryz.underlying50 gt' 5 _ rfl (by kernel_rfl) (by rw [hT];decide);have e5':[a0,a1,a2,a3,a4,a5,a6,a7][5]?=some u5:=e5;clear e5;obtain ⟨u6,y6,n6,e6,h6⟩:=cell_field Tryz.underlying50 gt' 6 _ rfl (by kernel_rfl) (by rw [hT];decide);have e6':[a0,a1,a2,a3,a4,a5,a6,a7][6]?=some u6:=e6;clear e6;obtain ⟨u7,y7,n7,e7,h7⟩:=cell_field Tryz.underlying50 gt' 7 _ rfl (by kernel_rfl) (by rw [hT];decide);have e7':[a0,a1,a2,a3,a4,a5,a6,a7][7]?=some u7:=e7
  clear e7;obtain ⟨v0,z0,m0,f0,k0⟩:=cell_field Tryz.underlying59 gr' 0 _ rfl (by kernel_rfl) (by rw [hR];decide);have f0':[a8,a9,a10,a11,a12,a13,a14,a15,a16][0]?=some v0:=f0;clear f0;obtain ⟨v1,z1,m1,f1,k1⟩:=cell_field Tryz.underlying59 gr' 1 _ rfl (by kernel_rfl) (by rw [hR];decide);have f1':[a8,a9,a10,a11,a12,a13,a14,a15,a16][1]?=some v1:=f1;clear f1;obtain ⟨v2,z2,m2,f2,k2⟩:=cell_field Tryz.underlying59 gr' 2 _ rfl (by kernel_rfl) (by rw [hR];decide);have f2':[a8,a9,a10,a11,a12,a13,a14,a15,a16][2]?=some v2:=f2;clear f2;obtain ⟨v3,z3,m3,f3,k3⟩:=cell_field Tryz.underlying59 gr' 3 _ rfl (by kernel_rfl) (by rw [hR];decide);have f3':[a8,a9,a10,a11,a12,a13,a14,a15,a16][3]?=some v3:=f3;clear f3;obtain ⟨v4,z4,m4,f4,k4⟩:=cell_field Tryz.underlying59 gr' 4 _ rfl (by kernel_rfl) (by rw [hR];decide);have f4':[a8,a9,a10,a11,a12,a13,a14,a15,a16][4]?=some v4:=f4;clear f4;obtain ⟨v5,z5,m5,f5,k5⟩:=cell_field Tryz.underlying59 gr' 5 _ rfl (by kernel_rfl) (by rw [hR];decide);have f5':[a8,a9,a10,a11,a12,a13,a14,a15,a16][5]?=some v5:=f5;clear f5;obtain ⟨v6,z6,m6,f6,k6⟩:=cell_field Tryz.underlying59 gr' 6 _ rfl (by kernel_rfl) (by rw [hR];decide);have f6':[a8,a9,a10,a11,a12,a13,a14,a15,a16][6]?=some v6:=f6;clear f6;obtain ⟨yp,np,hp⟩:=field_many Tryz.underlying59 gr' 7 _ rfl;have gp:DataW.trod enc Tryz.prog w base (fun _=>true) held np 57 [a15,a16]=some yp:=hp;clear hp;obtain ⟨x0,b0,c0,q0,r0⟩:=cell_field Tryz.underlying57 gp 0 _ rfl (by kernel_rfl) (by rw [hP];decide);have q0':[a15,a16][0]?=some x0:=q0
  clear q0;obtain ⟨x1,b1,c1,q1,r1⟩:=cell_field Tryz.underlying57 gp 1 _ rfl (by kernel_rfl) (by rw [hP];decide);have q1':[a15,a16][1]?=some x1:=q1;clear q1;simp at e0' e1' e2' e3' e4' e5' e6' e7' f0' f1' f2' f3' f4' f5' f6' q0' q1' eh';subst e0' e1' e2' e3' e4' e5' e6' e7' f0' f1' f2' f3' f4' f5' f6' q0' q1' eh';obtain ⟨i0,rfl,_⟩:=int_of h0;obtain ⟨s1,rfl,_⟩:=string_of h1;obtain ⟨l2,r2⟩:=passes_of h2;obtain ⟨i3,rfl,_⟩:=int_of h3;obtain ⟨l4,r4,_,_⟩:=ints_of h4;obtain ⟨i5,rfl,_⟩:=int_of h5;obtain ⟨i6,rfl,_⟩:=int_of h6;obtain ⟨i7,rfl,_⟩:=int_of h7;obtain ⟨ih,rfl,_⟩:=int_of hh;obtain ⟨ll,rl,_,_⟩:=rows_of (R:=LnR) (m:=1) Tryz.underlying53 (by kernel_rfl) (by decide) ln_each k2
  exact ⟨⟨s1.data.toList,i3,l2,l4,ll,ih⟩,⟨i0,a2,a4,i5,i6,i7,a8,a9,a10,a11,a12,a13,a14,a15,a16,by rw [ofBytes9],r2,r4,rl,
   sl_of Tryz.underlying51 k0,sl_of Tryz.underlying52 k1,sl_of Tryz.underlying23 k3,sl_of Tryz.underlying23 k4,sl_of Tryz.underlying54 k5,sl_of Tryz.underlying23 k6,sl_of Tryz.underlying54 r0,sl_of Tryz.underlying55 r1⟩,trivial⟩
theorem sights_of {n:Nat} {u:Value} {y:DataW H × List MemPlace} (h:DataW.trod enc Tryz.prog w base (fun _=>true) held n 25 [u]=some y):∃ l:List Sgt,RowOf SgtR 18 w u l:=by
 obtain ⟨l,h1,_,_⟩:=rows_of Tryz.underlying25 (by kernel_rfl) (by decide) sight_each h;exact ⟨l,h1⟩
end
end Go.Proofs.YtpcmamoomaddoaaGreatDoor
