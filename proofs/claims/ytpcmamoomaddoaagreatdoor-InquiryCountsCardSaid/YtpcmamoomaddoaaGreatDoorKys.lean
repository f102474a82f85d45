/- maps.Keys at the ask package's keys: the iterator. -/
import Derived.Test.YtpcmamoomaddoaaGreatDoorAcp
import Derived.Maps.RangeWalk
import Derived.Maps.OwnOps
import Derived.Maps.OwnSet
import Derived.Maps.Views
import Derived.Sort.MapsRangeIn
import Derived.Sort.KeysCollected
import Derived.DeepKeys4
import Derived.RangeFuncSeq
import Derived.Shelf.SlIter.Collect
/- JOINED: Mpk Mpe Mpi Kys -/
/- Maps in memory whatever their elements: a map is known by the value at each key. -/
namespace Go.Proofs.YtpcmamoomaddoaaGreatDoor
open Go.Maps Go.RowKit
/-- every element reads as itself -/
def rawV (v:Value):Option (DataW Value × List MemPlace):=some (.held v,[])
abbrev DV:=DataW Value
/-- a kind of keys -/
structure KeyEnc (P:Program) (kt:TypeId) (α:Type) where
 val:α→Value
 ok:α→Prop
 kl:α→Lit
 keyed:Keyed P kt
 of:∀ {x},ok x→keyOf P kt (val x)=some (kl x)
 inv:∀ {v l},keyOf P kt v=some l→∃ x,ok x∧v=val x∧l=kl x
 minj:∀ {x y},val x=val y→x=y
section
variable {P:Program} {kt:TypeId} {α:Type} (E:KeyEnc P kt α)
theorem KeyEnc.inj {x y:α} (hx:E.ok x) (hy:E.ok y) (h:E.kl x=E.kl y):x=y:=E.minj (E.keyed.inj (E.of hx) (h▸E.of hy))
theorem KeyEnc.lit {x:α} (hx:E.ok x):WideAt.IsKeyLit (E.kl x):=E.keyed.key (E.of hx)
theorem KeyEnc.same {x y:α} (hx:E.ok x) (hy:E.ok y) (hne:x≠y):(E.kl x).sameKey (E.kl y)=false:=sameKey_ne fun e=>hne (E.inj hx hy e)
/-- the map in block b: at each key its value, if it has one -/
def MapAt (w:World) (b n:Nat) (f:α→Option Value):Prop :=
 ∃ D:DV,w.ownsMap P kt rawV b n D∧∀ x,E.ok x→match f x with|none=>has D (E.kl x)=false|some v=>∀ z,D.atKey (E.kl x) z=.held v
/-- under way: 'done' has come -/
def MapRun (w:World) (b r n:Nat) (f:α→Option Value) (got:List α):Prop :=
 ∃ (D:DV) (left:Lit→Bool) (cnt:Nat),w.ranges P kt rawV b r n D left cnt∧(∀ x,E.ok x→match f x with|none=>has D (E.kl x)=false|some v=>∀ z,D.atKey (E.kl x) z=.held v) ∧
  (∀ x,E.ok x→(left (E.kl x)=true↔(f x).isSome=true∧x∉got))∧got.Nodup∧(∀ x∈got,E.ok x∧(f x).isSome=true)∧got.length+cnt≤n
variable {E} {w w':World} {b r n:Nat} {f:α→Option Value} {got:List α}
theorem MapAt.lt (h:MapAt E w b n f):b < w.heap.size:=let ⟨_,h,_⟩:=h;h.lt
theorem MapAt.kept {S:List Nat} (h:MapAt E w b n f) (k:Kept S w w') (hb:b∉S):MapAt E w' b n f:=by
 obtain ⟨D,h1,h2⟩:=h;have hlt:=h1.lt;obtain ⟨es,clock,hb',F,hs,hD⟩:=h1;exact ⟨D,⟨es,clock,(k.block b hlt hb).trans hb',F,hs,hD⟩,h2⟩
theorem MapAt.made (w:World):MapAt E (w.alloc (.map #[] 0)) w.heap.size 0 fun _=>none:=⟨_,World.ownsMap_made w P kt rawV,fun _ _=>rfl⟩
theorem MapAt.congr {g:α→Option Value} (h:MapAt E w b n f) (hg:∀ x,E.ok x→g x=f x):MapAt E w b n g:=by
 obtain ⟨D,h1,h2⟩:=h;exact ⟨D,h1,fun x hx=>by rw [hg x hx];exact h2 x hx⟩
theorem Kept.of_turned {S:List Nat} (h:w.grownBy w' (some b)) (hb:b∈S):Kept S w w':=Kept.of_grown h fun k e=>by cases e;exact hb
variable {ops:Array Oper} {rest:List Oper} {o:Oper} {a:Act} {Q:Exit→Act→World→Prop}
/-- m[k] -/
theorem wpList_look (h:MapAt E w b n f) {x:α} (hx:E.ok x) (hg:o.guard=none) (m k:Operand) (t e:TypeId) (hop:o.op=Op.lookup t m k false) (ht:P.underlying t=some (.map kt e)) (z:Value) (hz:∀ w,(zeroValue e).run P w=.ok z w)
  (hm:a.eval m=.map (some b)) (hk:a.eval k=E.val x) (hK:wpList P ops Q rest (a.put o.dst ((f x).getD z)) w):wpList P ops Q (o::rest) a w:=by
 obtain ⟨D,h1,h2⟩:=h;refine wpList_plain hg fun K' hK'=>?_;obtain ⟨v,ps,hrun,hv⟩:=h1.lookup E.keyed ht (hz w) (zd:=.held z) (zp:=[]) rfl (E.of hx)
 have e1:v=(f x).getD z:=by
  have:=h2 x hx
  unfold rawV at hv
  injection hv with hv;injection hv with hv _
  cases hf:f x with
  | none=>rw [hf] at this;rw [atKey_of_not_has this] at hv;injection hv
  | some u=>rw [hf] at this;rw [this] at hv;injection hv
 subst e1
 unfold Oper.wp
 simp [execOp,hop,hm,hk,hrun,Result.andThen]
 exact hK' _ _ hK
/-- v, ok := m[k] -/
theorem wpList_look_ok (h:MapAt E w b n f) {x:α} (hx:E.ok x) (hg:o.guard=none) (m k:Operand) (t e:TypeId) (hop:o.op=Op.lookup t m k true) (ht:P.underlying t=some (.map kt e)) (z:Value) (hz:∀ w,(zeroValue e).run P w=.ok z w)
  (hm:a.eval m=.map (some b)) (hk:a.eval k=E.val x) (hK:wpList P ops Q rest (a.put o.dst (.tuple #[(f x).getD z,.bool (f x).isSome])) w):wpList P ops Q (o::rest) a w:=by
 obtain ⟨D,h1,h2⟩:=h;refine wpList_plain hg fun K' hK'=>?_;obtain ⟨v,ps,hrun,hv⟩:=h1.look_ok E.keyed ht (hz w) (zd:=.held z) (zp:=[]) rfl (E.of hx)
 have e1:v=(f x).getD z∧has D (E.kl x)=(f x).isSome:=by
  have:=h2 x hx
  unfold rawV at hv
  injection hv with hv;injection hv with hv _
  cases hf:f x with
  | none=>rw [hf] at this;rw [atKey_of_not_has this] at hv;injection hv with hv;exact ⟨hv,this⟩
  | some u=>rw [hf] at this;have h9:=has_true_of_atKey this;rw [this] at hv;injection hv with hv;exact ⟨hv,h9⟩
 obtain ⟨rfl,e2⟩:=e1;rw [e2] at hrun
 unfold Oper.wp
 simp [execOp,hop,hm,hk,hrun,Result.andThen]
 exact hK' _ _ hK
theorem MapAt.put_ {x:α} {v:Value} {D:DV} (hx:E.ok x) (hm:IsMap D) (h2:∀ y,E.ok y→match f y with|none=>has D (E.kl y)=false|some v=>∀ z,D.atKey (E.kl y) z=.held v) [DecidableEq α] :
  ∀ y,E.ok y→match (if y=x then some v else f y) with|none=>has (D.put (E.kl x) (.held v)) (E.kl y)=false|some u=>∀ z,(D.put (E.kl x) (.held v)).atKey (E.kl y) z=.held u:=by
 intro y hy
 by_cases e:y=x
 ·subst e;rw [if_pos rfl];exact fun z=>atKey_put_same hm (E.lit hy) _ _
 ·rw [if_neg e];have hne:E.kl y≠E.kl x:=fun h=>e (E.inj hy hx h);have:=h2 y hy
  cases hf:f y with
  | none=>rw [hf] at this;simp only at this ⊢;rw [has_put_other hne];exact this
  | some u=>rw [hf] at this;simp only at this ⊢;intro z;rw [atKey_put_other hne];exact this z
/-- m[k] = v -/
theorem wp_set [DecidableEq α] (h:MapAt E w b n f) {x:α} (hx:E.ok x) (m k v:Operand) (t e:TypeId) (hop:o.op=Op.mapUpdate t m k v) (ht:P.underlying t=some (.map kt e)) (hn:n < maxLen) (u:Value)
  (hm:a.eval m=.map (some b)) (hk:a.eval k=E.val x) (hv:a.eval v=u) {K:Act→World→Prop}
  (hK:∀ w',MapAt E w' b (n+1) (fun y=>if y=x then some u else f y)→w.grownBy w' (some b)→w'.heap.size=w.heap.size→K (a.put o.dst undef) w'):o.wp P a w K Q:=by
 obtain ⟨D,h1,h2⟩:=h;obtain ⟨w',hrun,r1,r2⟩:=h1.store E.keyed ht hn (val:=u) (d:=.held u) (ps:=[]) (E.of hx) rfl
 unfold Oper.wp
 simp [execOp,hop,hm,hk,hv,hrun,Result.andThen]
 refine hK w' ⟨_,r1,MapAt.put_ hx h1.isMap h2⟩ r2.grown ?_;obtain ⟨_,_,es',c',_,rfl⟩:=r2
 simp [ChangeMaps.setBlock]
theorem wpList_set [DecidableEq α] (h:MapAt E w b n f) {x:α} (hx:E.ok x) (hg:o.guard=none) (m k v:Operand) (t e:TypeId) (hop:o.op=Op.mapUpdate t m k v) (ht:P.underlying t=some (.map kt e)) (hn:n < maxLen) (u:Value)
  (hm:a.eval m=.map (some b)) (hk:a.eval k=E.val x) (hv:a.eval v=u)
  (hK:∀ w',MapAt E w' b (n+1) (fun y=>if y=x then some u else f y)→w.grownBy w' (some b)→w'.heap.size=w.heap.size→wpList P ops Q rest (a.put o.dst undef) w'):wpList P ops Q (o::rest) a w :=
 wpList_plain hg fun _ hK'=>wp_set h hx m k v t e hop ht hn u hm hk hv fun w' h1 h2 h3=>hK' _ _ (hK w' h1 h2 h3)
/-- delete(m, k) -/
theorem wpList_del [DecidableEq α] (h:MapAt E w b n f) {x:α} (hx:E.ok x) (hg:o.guard=none) (m k:Operand) (t e:TypeId) (hop:o.op=Op.call { callee:=Callee.builtin Builtin.delete,args:=#[m,k],argTypes:=#[t,kt] }) (ht:P.underlying t=some (.map kt e))
  (hm:a.eval m=.map (some b)) (hk:a.eval k=E.val x)
  (hK:∀ w',MapAt E w' b n (fun y=>if y=x then none else f y)→w.grownBy w' (some b)→w'.heap.size=w.heap.size→wpList P ops Q rest (a.put o.dst (.tuple #[])) w'):wpList P ops Q (o::rest) a w:=by
 obtain ⟨D,h1,h2⟩:=h;refine wpList_delete_own w hg m k t kt hop e E.keyed ht rawV b n D hm h1 _ _ hk (E.of hx) fun w' r1 r2=>?_;refine hK w' ⟨_,r1,fun y hy=>?_⟩ r2.grown ?_
 ·show match (if y=x then none else f y) with|none=>has (D.del (E.kl x)) (E.kl y)=false|some v=>∀ z,(D.del (E.kl x)).atKey (E.kl y) z=.held v
  by_cases e:y=x
  ·subst e;rw [if_pos rfl];exact has_del_same
  ·rw [if_neg e];have hne:E.kl y≠E.kl x:=fun h=>e (E.inj hy hx h);have:=h2 y hy
   cases hf:f y with
   | none=>rw [hf] at this;simp only at this ⊢;rw [has_del_other hne];exact this
   | some u=>rw [hf] at this;simp only at this ⊢;intro z;rw [atKey_del_other hne];exact this z
 ·obtain ⟨_,_,es',c',_,rfl⟩:=r2
  simp [ChangeMaps.setBlock]
theorem MapRun.at_ (h:MapRun E w b r n f got):MapAt E w b n f:=by
 obtain ⟨D,left,cnt,h1,h2,_⟩:=h;exact ⟨D,h1.owns,h2⟩
theorem MapRun.lt (h:MapRun E w b r n f got):r < w.heap.size:=by
 obtain ⟨D,left,cnt,h1,_⟩:=h;exact h1.lt
theorem MapRun.kept {S:List Nat} (h:MapRun E w b r n f got) (k:Kept S w w') (hb:b∉S) (hr:r∉S):MapRun E w' b r n f got:=by
 obtain ⟨D,left,cnt,h1,h2⟩:=h;have h3:=h1.owns.lt;have h4:=h1.lt;obtain ⟨es,clock,since,seen,c0,hb',F,hs,hD,hr',rest⟩:=h1;exact ⟨D,left,cnt,⟨es,clock,since,seen,c0,(k.block b h3 hb).trans hb',F,hs,hD,(k.block r h4 hr).trans hr',rest⟩,h2⟩
/-- range m -/
theorem wpList_rangeM (h:MapAt E w b n f) (hg:o.guard=none) (m:Operand) (t e:TypeId) (hop:o.op=Op.range t m) (ht:P.underlying t=some (.map kt e)) (hm:a.eval m=.map (some b))
  (hK:∀ w',MapRun E w' b w.heap.size n f []→w.grownBy w' none→w'.heap.size=w.heap.size+1→wpList P ops Q rest (a.put o.dst (.pointer (some ⟨w.heap.size,0,none⟩))) w'):wpList P ops Q (o::rest) a w:=by
 obtain ⟨D,h1,h2⟩:=h;refine wpList_range_own w hg m t hop kt e E.keyed ht rawV b n D hm h1 fun w' r1 r2 r3=>hK w' ⟨D,_,_,r1,h2,fun x hx=>?_,List.nodup_nil,by simp,by simpa using h1.size_le⟩ r2 r3;have:=h2 x hx
 cases hf:f x with
 | none=>rw [hf] at this;simp only at this;rw [this];simp
 | some u=>rw [hf] at this;rw [has_true_of_atKey this];simp
/-- the next one -/
theorem wpList_nextM (h:MapRun E w b r n f got) (hg:o.guard=none) (it:Operand) (hop:o.op=Op.next it false) (hit:a.eval it=.pointer (some ⟨r,0,none⟩))
  (hDone:(∀ x,E.ok x→(f x).isSome=true→x∈got)→wpList P ops Q rest (a.put o.dst (.tuple #[.bool false])) w)
  (hMore:∀ (x:α) (v:Value) (w':World),E.ok x→f x=some v→x∉got→MapRun E w' b r n f (got++[x])→w'.rangeLeft b r < w.rangeLeft b r→w.grownBy w' (some r)→w'.heap.size=w.heap.size →
   (Instr.entry (.pointer (some ⟨r,0,none⟩))).run P w'=.ok (.tuple #[E.val x,v]) w'→wpList P ops Q rest (a.put o.dst (.tuple #[.bool true,E.val x,v])) w'):wpList P ops Q (o::rest) a w:=by
 obtain ⟨D,left,cnt,h1,h2,h3,h4,h5,h6⟩:=h;refine wpList_next_ranges w hg it hop kt E.keyed rawV E.val id (fun key kl hkey=>by obtain ⟨x,_,hv,_⟩:=E.inv hkey;exact ⟨x,hv⟩) (fun v _ _=>⟨v,rfl⟩) b r n D left cnt hit h1 (fun _ hl=>hDone fun x hx hs=>?_) fun x c kl y w' cnt' hkey hlk hv hat hrg hlt hgr hsz hen=>?_
 ·by_cases hm:x∈got
  ·exact hm
  ·have:=(h3 x hx).2 ⟨hs,hm⟩
   rw [hl] at this;cases this
 ·obtain ⟨x',hx',e,rfl⟩:=E.inv hkey;have:=E.minj e;subst this;obtain ⟨hs,hng⟩:=(h3 x hx').1 hlk
  have hfx:f x=some c:=by
   have h9:=h2 x hx'
   cases hf:f x with
   | none=>rw [hf] at hs;cases hs
   | some u =>
    rw [hf] at h9;have h10:=h9 .nil;rw [hat] at h10
    unfold rawV at hv
    injection hv with hv;rw [←hv] at h10;injection h10 with h10;exact congrArg some h10.symm
  refine hMore x c w' hx' hfx hng ⟨D,_,cnt',hrg,h2,fun z hz=>?_,?_,?_,?_⟩ ?_ hgr hsz hen
  ·by_cases e:z=x
   ·subst e;rw [WideAt.sameKey_self (E.lit hz)]
    simp
   ·rw [E.same hz hx' e,Bool.not_false,Bool.and_true,h3 z hz]
    simp [e]
  ·rw [List.nodup_append];exact ⟨h4,by simp,fun a ha b hb=>by rw [List.mem_singleton] at hb;subst hb;exact fun e=>hng (e▸ha)⟩
  ·intro z hz
   rcases List.mem_append.1 hz with hz|hz
   ·exact h5 z hz
   ·rw [List.mem_singleton] at hz;exact hz▸⟨hx',hs⟩
  ·rw [List.length_append,List.length_singleton];omega
  ·rw [hrg.left_eq,h1.left_eq];exact hlt
theorem MapRun.length_le (h:MapRun E w b r n f got):got.length≤n:=by
 obtain ⟨D,left,cnt,_,_,_,_,_,h6⟩:=h;omega
end
end Go.Proofs.YtpcmamoomaddoaaGreatDoor
/- Kinds of keys: strings, ints, and the ask package's key of two names and a number. -/
namespace Go.Proofs.YtpcmamoomaddoaaGreatDoor
open Go.Maps Go.RowKit
def strEnc:KeyEnc Tryz.prog 9 (List UInt8) where
 val s:=.string ⟨s.toArray⟩
 ok s:=s.length≤maxLen
 kl s:=.string s
 keyed:=Maps.string_keyed Tryz.underlying9
 of {x} hx:=by
  have:=WideMaps.keyOf_string_mk Tryz.underlying9 (s:=⟨x.toArray⟩) (by simpa [ByteArray.size] using hx)
  simpa using this
 inv {v l} h:=by
  obtain ⟨x,h1,h2,h3⟩:=Maps.keyOf_str Tryz.underlying9 h;exact ⟨x,h3,h1,h2⟩
 minj {x y} h:=by simpa using h
def intEnc:KeyEnc Tryz.prog 3 Int where
 val n:=.int .i64 n
 ok n:=(Lit.int .i64 n).wf=true
 kl n:=.int .i64 n
 keyed:=Maps.int_keyed Tryz.underlying3
 of {x} hx:=Maps.keyOf_int_mk Tryz.underlying3 hx
 inv {v l} h:=by
  obtain ⟨x,h1,h2,h3⟩:=Maps.keyOf_int_inv Tryz.underlying3 h;exact ⟨x,h3,h1,h2⟩
 minj {x y} h:=by simpa using h
/-! ### a key of two strings and an int -/
abbrev K3:=List UInt8 × List UInt8 × Int
def W3 (x:K3):Prop:=x.1.length≤maxLen∧x.2.1.length≤maxLen∧(Lit.int .i64 x.2.2).wf=true
structure Key3 (P:Program) (k st it:TypeId):Prop where
 struct : ∃ f g h : Field, P.underlying k = some (.struct #[f, g, h]) ∧ f.type = st ∧ g.type = st ∧ h.type = it ∧ f.offset = 0 ∧ g.offset = 1 ∧ h.offset = 2 ∧ (#[f, g, h].all (·.name != "_") = true)
 str:P.underlying st=some .string
 int:P.underlying it=some (.int .i64)
 cells:P.cellsOf k=3
 one:P.cellsOf st=1
 one':P.cellsOf it=1
 key:P.keyType k=true
 many:∃ m,P.types.size=m+1
section
variable {P:Program} {k st it:TypeId}
theorem keyLits_int {m:Nat} (hu:P.underlying it=some (.int .i64)) (v:Value) (l:List Lit):P.keyLits (m+1) it [v]=some l↔∃ a:Int,v=.int .i64 a∧(Lit.int .i64 a).wf=true∧l=[.int .i64 a]:=by
 constructor
 ·intro h;simp only [Program.keyLits,hu] at h
  cases v <;> simp at h
  obtain ⟨⟨rfl,hw⟩,rfl⟩:=h;exact ⟨_,rfl,hw,rfl⟩
 ·rintro ⟨a,rfl,hw,rfl⟩
  simp [Program.keyLits,hu,hw]
theorem keyLits_str {m:Nat} (hu:P.underlying st=some .string) (v:Value) (l:List Lit):P.keyLits (m+1) st [v]=some l↔∃ a:List UInt8,v=.string ⟨a.toArray⟩∧a.length≤maxLen∧l=[.string a]:=by
 constructor
 ·intro h;simp only [Program.keyLits,hu] at h
  cases v <;> simp at h
  rename_i s;obtain ⟨hw,rfl⟩:=h;exact ⟨s.data.toList,by simp,by rw [Array.length_toList];exact hw,rfl⟩
 ·rintro ⟨a,rfl,hw,rfl⟩;simp only [Program.keyLits,hu];exact if_pos hw
theorem lits3 (h:Key3 P k st it) (a b c:Value) (l:List Lit):P.keyLits (P.types.size+1) k [a,b,c]=some l↔∃ x:K3,W3 x∧a=.string ⟨x.1.toArray⟩∧b=.string ⟨x.2.1.toArray⟩∧c=.int .i64 x.2.2∧l=[.string x.1,.string x.2.1,.int .i64 x.2.2]:=by
 obtain ⟨⟨f,g,i,hu,hf,hg,hi,of,og,oi,hn⟩,hstr,hint,hcs,hone,hone',_,m,hm⟩:=h;rw [hm]
 have e:∀ M,P.keyLits (M+1) k [a,b,c]=((P.keyLits M st [a]).bind fun x=>(P.keyLits M st [b]).bind fun y=>(P.keyLits M it [c]).bind fun z=>some (x++(y++z))):=by
  intro M;simp only [Program.keyLits,hu,hcs];rw [if_pos ⟨rfl,hn⟩];simp only [List.mapM_cons,List.mapM_nil,hf,hg,hi,of,og,oi,hone,hone',List.drop_zero,List.take_succ_cons,List.take_zero,List.drop_succ_cons]
  cases P.keyLits M st [a] <;> cases P.keyLits M st [b] <;> cases P.keyLits M it [c] <;> simp
 rw [e]
 constructor
 ·intro h;simp only [Option.bind_eq_some_iff,Option.some.injEq] at h;obtain ⟨x,hx,y,hy,z,hz,rfl⟩:=h;obtain ⟨x,rfl,wx,rfl⟩:=(keyLits_str hstr a _).1 hx;obtain ⟨y,rfl,wy,rfl⟩:=(keyLits_str hstr b _).1 hy;obtain ⟨z,rfl,wz,rfl⟩:=(keyLits_int hint c _).1 hz;exact ⟨(x,y,z),⟨wx,wy,wz⟩,rfl,rfl,rfl,rfl⟩
 ·rintro ⟨⟨x,y,z⟩,⟨wx,wy,wz⟩,rfl,rfl,rfl,rfl⟩;rw [(keyLits_str hstr _ [.string x]).2 ⟨x,rfl,wx,rfl⟩,(keyLits_str hstr _ [.string y]).2 ⟨y,rfl,wy,rfl⟩,(keyLits_int hint _ [.int .i64 z]).2 ⟨z,rfl,wz,rfl⟩]
  rfl
def kv3 (x:K3):Value:=.agg #[.string ⟨x.1.toArray⟩,.string ⟨x.2.1.toArray⟩,.int .i64 x.2.2]
def kl3 (x:K3):Lit:=.string (keyBytes [.string x.1,.string x.2.1,.int .i64 x.2.2])
theorem keyOf_mk3 (h:Key3 P k st it) {x:K3} (hx:W3 x):keyOf P k (kv3 x)=some (kl3 x):=by
 have hl:=(lits3 h (.string ⟨x.1.toArray⟩) (.string ⟨x.2.1.toArray⟩) (.int .i64 x.2.2) _).2 ⟨x,hx,rfl,rfl,rfl,rfl⟩;obtain ⟨⟨f,g,i,hu,_⟩,_,hint,hcs,hone,_,hk,_⟩:=h
 simp [kv3,keyOf,hu,hk,Value.formed,hcs,Value.cells,hl,kl3]
theorem keyOf_inv3 (h:Key3 P k st it) {v:Value} {l:Lit} (hv:keyOf P k v=some l):∃ x:K3,W3 x∧v=kv3 x∧l=kl3 x:=by
 have h':=h;obtain ⟨⟨f,g,i,hu,_⟩,_,hint,hcs,hone,_,hk,_⟩:=h'
 unfold keyOf at hv
 rw [hu] at hv;simp only [hk,Bool.true_and] at hv
 split at hv
 ·next hf =>
  cases v <;> simp [Value.formed,hu,hcs] at hf
  rename_i cs;obtain ⟨cs⟩:=cs
  rcases cs with _|⟨a,_|⟨b,_|⟨c,_|⟨d,cs⟩⟩⟩⟩ <;> simp at hf
  simp only [Value.cells,Option.map_eq_some_iff] at hv;obtain ⟨ls,h1,rfl⟩:=hv;obtain ⟨x,hx,rfl,rfl,rfl,rfl⟩:=(lits3 h a b c ls).1 h1;exact ⟨x,hx,rfl,rfl⟩
 ·cases hv
end
theorem key3_ask:Key3 Tryz.prog 182 9 3 where
 struct:=⟨_,_,_,Tryz.underlying182,rfl,rfl,rfl,rfl,rfl,rfl,by kernel_rfl⟩
 str:=Tryz.underlying9
 int:=Tryz.underlying3
 cells:=by kernel_rfl
 one:=by kernel_rfl
 one':=by kernel_rfl
 key:=by kernel_rfl
 many:=⟨Tryz.prog.types.size - 1,by kernel_rfl⟩
theorem key3_law:WideMaps.KeyLaw Tryz.prog 182:=deep_law_laid (m:=10) (by kernel_rfl) (by decide) (of_decide_eq_true (by kernel_rfl)) (by kernel_rfl) (by kernel_rfl)
def k3Enc:KeyEnc Tryz.prog 182 K3 where
 val:=kv3
 ok:=W3
 kl:=kl3
 keyed:=Maps.Keyed.of_law key3_law
 of hx:=keyOf_mk3 key3_ask hx
 inv h:=keyOf_inv3 key3_ask h
 minj {x y} h:=by
  obtain ⟨a,b,c⟩:=x;obtain ⟨a',b',c'⟩:=y
  simpa [kv3] using h
end Go.Proofs.YtpcmamoomaddoaaGreatDoor
/- Maps by value, inside a fence: a range under way. -/
namespace Go.Proofs.YtpcmamoomaddoaaGreatDoor
open Go.Maps Go.RowKit
section
variable {P:Program} {kt:TypeId} {α:Type} {E:KeyEnc P kt α} {w w':World} {b r nn:Nat} {f:α→Option Value} {got:List α}
theorem MapRun.of_walks (h:MapRun E w b r nn f got) (hk:KeepsWalks w w'):MapRun E w' b r nn f got:=by
 obtain ⟨D,left,cnt,h1,h2⟩:=h;exact ⟨D,left,cnt,h1.of_walks hk,h2⟩
theorem MapRun.iter_walk (h:MapRun E w b r nn f got):∃ o:Obj,w.heap[r]?=some o∧o.isWalk=true:=by
 obtain ⟨D,left,cnt,h1,_⟩:=h;exact h1.iter_walk
theorem MapRun.grown {row:Option Nat} (h:MapRun E w b r nn f got) (hg:w.grownBy w' row) (h1:some b≠row) (h2:some r≠row):MapRun E w' b r nn f got:=by
 obtain ⟨D,left,cnt,h3,h4⟩:=h;exact ⟨D,left,cnt,h3.kept hg h1 h2,h4⟩
theorem MapRun.left_walks (h:MapRun E w b r nn f got) (hk:KeepsWalks w w'):w'.rangeLeft b r=w.rangeLeft b r:=by
 obtain ⟨D,left,cnt,h1,_⟩:=h;rw [(h1.of_walks hk).left_eq,h1.left_eq]
theorem MapRun.left_grown {row:Option Nat} (h:MapRun E w b r nn f got) (hg:w.grownBy w' row) (h1:some b≠row) (h2:some r≠row):w'.rangeLeft b r=w.rangeLeft b r:=by
 obtain ⟨D,left,cnt,h3,h4⟩:=h;rw [(h3.kept hg h1 h2).left_eq,h3.left_eq]
variable {F:Fence} {n:Nat} {ops:Array Oper} {rest:List Oper} {o:Oper} {a:Act} {Q:Exit→Act→World→Prop}
/-- range m -/
theorem wpListIn_rangeM (h:MapAt E w b nn f) (hg:o.guard=none) (m:Operand) (t e:TypeId) (hop:o.op=Op.range t m) (ht:P.underlying t=some (.map kt e)) (hm:a.eval m=.map (some b))
  (hK:∀ w',MapRun E w' b w.heap.size nn f []→w.grownBy w' none→w'.heap.size=w.heap.size+1→wpListIn F n P ops Q rest (a.put o.dst (.pointer (some ⟨w.heap.size,0,none⟩))) w'):wpListIn F n P ops Q (o::rest) a w:=by
 obtain ⟨D,h1,h2⟩:=h;refine wpListIn_range_own w hg m t hop kt e E.keyed ht rawV b nn D hm h1 fun w' r1 r2 r3=>hK w' ⟨D,_,_,r1,h2,fun x hx=>?_,List.nodup_nil,by simp,by simpa using h1.size_le⟩ r2 r3;have:=h2 x hx
 cases hf:f x with
 | none=>rw [hf] at this;simp only at this;rw [this];simp
 | some u=>rw [hf] at this;rw [has_true_of_atKey this];simp
/-- the next one -/
theorem wpListIn_nextM (h:MapRun E w b r nn f got) (hg:o.guard=none) (it:Operand) (hop:o.op=Op.next it false) (hit:a.eval it=.pointer (some ⟨r,0,none⟩))
  (hDone:(∀ x,E.ok x→(f x).isSome=true→x∈got)→wpListIn F n P ops Q rest (a.put o.dst (.tuple #[.bool false])) w)
  (hMore:∀ (x:α) (v:Value) (w':World),E.ok x→f x=some v→x∉got→MapRun E w' b r nn f (got++[x])→w'.rangeLeft b r < w.rangeLeft b r→w.grownBy w' (some r)→w'.heap.size=w.heap.size →
   (Instr.entry (.pointer (some ⟨r,0,none⟩))).run P w'=.ok (.tuple #[E.val x,v]) w'→wpListIn F n P ops Q rest (a.put o.dst (.tuple #[.bool true,E.val x,v])) w'):wpListIn F n P ops Q (o::rest) a w:=by
 obtain ⟨D,left,cnt,h1,h2,h3,h4,h5,h6⟩:=h;refine wpListIn_next_ranges w hg it hop kt E.keyed rawV E.val id (fun key kl hkey=>by obtain ⟨x,_,hv,_⟩:=E.inv hkey;exact ⟨x,hv⟩) (fun v _ _=>⟨v,rfl⟩) b r nn D left cnt hit h1 (fun _ hl=>hDone fun x hx hs=>?_) fun x c kl y w' cnt' hkey hlk hv hat hrg hlt hgr hsz hen=>?_
 ·by_cases hm:x∈got
  ·exact hm
  ·have:=(h3 x hx).2 ⟨hs,hm⟩
   rw [hl] at this;cases this
 ·obtain ⟨x',hx',e,rfl⟩:=E.inv hkey;have:=E.minj e;subst this;obtain ⟨hs,hng⟩:=(h3 x hx').1 hlk
  have hfx:f x=some c:=by
   have h9:=h2 x hx'
   cases hf:f x with
   | none=>rw [hf] at hs;cases hs
   | some u =>
    rw [hf] at h9;have h10:=h9 .nil;rw [hat] at h10
    unfold rawV at hv
    injection hv with hv;rw [←hv] at h10;injection h10 with h10;exact congrArg some h10.symm
  refine hMore x c w' hx' hfx hng ⟨D,_,cnt',hrg,h2,fun z hz=>?_,?_,?_,?_⟩ ?_ hgr hsz hen
  ·by_cases e:z=x
   ·subst e;rw [WideAt.sameKey_self (E.lit hz)]
    simp
   ·rw [E.same hz hx' e,Bool.not_false,Bool.and_true,h3 z hz]
    simp [e]
  ·rw [List.nodup_append];exact ⟨h4,by simp,fun a ha b hb=>by rw [List.mem_singleton] at hb;subst hb;exact fun e=>hng (e▸ha)⟩
  ·intro z hz
   rcases List.mem_append.1 hz with hz|hz
   ·exact h5 z hz
   ·rw [List.mem_singleton] at hz;exact hz▸⟨hx',hs⟩
  ·rw [List.length_append,List.length_singleton];omega
  ·rw [hrg.left_eq,h1.left_eq];exact hlt
end
end Go.Proofs.YtpcmamoomaddoaaGreatDoor
namespace Go.Proofs.YtpcmamoomaddoaaGreatDoor
open Go.RowKit Go.Maps Go.Sort Go.Shelf
/-- what an iterator over a map's keys gives -/
def KeysG (f:K3→Option Value) (ss:List K3):Prop:=ss.Nodup∧(∀ x∈ss,W3 x∧(f x).isSome=true)∧∀ x,W3 x→(f x).isSome=true→x∈ss
set_option maxRecDepth 100000 in
set_option maxHeartbeats 2000000 in
theorem keys3_in (F:Fence) (n:Nat) (h10:F.fn 203) (hro:F.round=none) (hn:1≤n) (l Bm b nn:Nat) (f:K3→Option Value) (J:List K3→World→Prop)
  (hY:∀ pre x W,J pre W→pre.length < nn→YieldAt F (n - 1) Tryz.prog l #[kv3 x] W fun e W'=>e=.returned (.bool true)∧J (pre++[x]) W'∧KeepsWalks W W')
  (W:World) (hJ:AbidesFrom W.heap.size J) (hm:W.cell? ⟨Bm,0,none⟩=some (.map (some b))) (hown:MapAt k3Enc W b nn f) (h0:J [] W) :
  CallsIn F n Tryz.prog 203 #[.func (.yield l) #[] #[],.pointer (some ⟨Bm,0,none⟩)] W fun e W'=>(∃ v,e=.returned v)∧∃ ss:List K3,KeysG f ss∧J ss W':=by
 refine callsIn_of_wp Tryz.func203 rfl h10 ?_ hro;simp only [Tryz.ntmps203,List.size_toArray,List.length_cons,List.length_nil,Nat.reduceAdd,Nat.reduceSub,Array.replicate_succ,Array.replicate_zero,List.push_toArray,List.append_toArray,List.nil_append,List.cons_append]
 gi_wp2_with (first
  | (gi_at_range;refine wpListIn_rangeM hown rfl _ 210 4 rfl Tryz.underlying210 rfl ?_;intro w0 hrg0 hg0 hs0)
  | gi_in)
 go_frame
 gi_loopw [3] (fun _ wr=>∃ ss:List K3,MapRun k3Enc wr b W.heap.size nn f ss∧J ss wr)
  (fun _ wr=>wr.rangeLeft b W.heap.size)
 case atStart=>exact ⟨[],hrg0,hJ [] W w0 none h0 hg0 (fun r e=>by cases e)⟩
 case round =>
  obtain ⟨ss,hrg,hJs⟩:=hrel
  gi_wp2_with (first
   | (gi_at_next;refine wpListIn_nextM hrg rfl _ rfl rfl ?_ ?_)
   | gi_in)
  · -- nothing is left
   intro hall
   gi_wp2
   go_end0
   obtain ⟨D,left,cnt,h1,h2,h3,h4,h5,h6⟩:=hrg;exact ⟨⟨_,rfl⟩,ss,⟨h4,h5,fun x hx hs=>hall x.1 x.2.1 x.2.2 hx hs⟩,hJs⟩
  · -- an entry has come
   intro xa xb xc c w2 hx hfx hng hrg2 hlt hg2 hs2 hen;have hJ2:J ss w2:=hJ ss wr w2 (some W.heap.size) hJs hg2 (fun r e=>by cases e;exact ⟨Nat.le_refl _,hrg.iter_walk⟩);have hval:k3Enc.val (xa,xb,xc)=.agg #[.string ⟨xa.toArray⟩,.string ⟨xb.toArray⟩,.int .i64 xc]:=rfl;rw [hval] at hen ⊢;obtain ⟨g,hg⟩:∃ g,w2.heap.size=g:=⟨_,rfl⟩;obtain ⟨w3,hw3⟩:∃ x,w2.alloc (.cells #[.string ⟨xa.toArray⟩,.string ⟨xb.toArray⟩,.int .i64 xc] 182)=x:=⟨_,rfl⟩;have hg3:w2.grownBy w3 none:=hw3▸World.grownBy_alloc w2 _ none;have hB3:Blk w3 g 182 #[.string ⟨xa.toArray⟩,.string ⟨xb.toArray⟩,.int .i64 xc]:=hg▸hw3▸Blk.new _ _ _;have y0:w3.cell? ⟨g,0,none⟩=some (.string ⟨xa.toArray⟩):=hB3.cell 0;have y1:w3.cell? ⟨g,1,none⟩=some (.string ⟨xb.toArray⟩):=hB3.cell 1;have y2:w3.cell? ⟨g,2,none⟩=some (.int .i64 xc):=hB3.cell 2;have hJ3:J ss w3:=hJ ss w2 w3 none hJ2 hg3 (fun r e=>by cases e);have hrg3:=hrg2.grown hg3 (by simp) (by simp);obtain ⟨fn,tmps,assign,body,hy,hR⟩:=hY ss (xa,xb,xc) w3 hJ3 (by have:=hrg2.length_le;rw [List.length_append,List.length_singleton] at this;omega)
   dsimp only [kv3] at hy
   clear hs2
   gi_wp2
   refine hR.mono ?_;rintro e W4 ⟨rfl,hJ4,hk4⟩
   gi_wp2
   have hrg4:=hrg3.of_walks hk4;have hle:=(hrg3.left_walks hk4).trans (hrg2.left_grown hg3 (by simp) (by simp))
   go_roundw
   case rel=>exact ⟨ss++[(xa,xb,xc)],hrg4,hJ4⟩
   case measure=>rw [hle];exact hlt
set_option maxHeartbeats 1000000 in
/-- maps.Keys(m): the map is boxed; the function value captures the box -/
theorem mkeys3_in (F:Fence) (n:Nat) (h7:F.fn 156) (hro:F.round=none) (mb:Option Nat) (w:World) :
  CallsIn F n Tryz.prog 156 #[.map mb] w fun e w'=>e=.returned (.func (.func 203) #[] #[.pointer (some ⟨w.heap.size,0,none⟩)])∧w'=w.alloc (.cells #[.map mb] 210):=by
 refine callsIn_of_wp Tryz.func156 rfl h7 ?_ hro;simp only [Tryz.ntmps156,List.size_toArray,List.length_cons,List.length_nil,Nat.reduceAdd,Nat.reduceSub,Array.replicate_succ,Array.replicate_zero,List.push_toArray,List.append_toArray,List.nil_append,List.cons_append]
 gi_wp2
 go_ret;exact ⟨rfl,rfl⟩
theorem keys3_gives (F:Fence) (n:Nat) (h10:F.fn 203) (hro:F.round=none) (hn:1≤n) (Bm b nn:Nat) (f:K3→Option Value) (w:World) (hBm:Bm < w.heap.size)
  (hm:w.cell? ⟨Bm,0,none⟩=some (.map (some b))) (hown:MapAt k3Enc w b nn f) :
  SeqGives F n Tryz.prog 203 #[.pointer (some ⟨Bm,0,none⟩)] kv3 (KeysG f) nn w:=fun l J W hW hJ hY h0=>by
 have hown':MapAt k3Enc W b nn f:=hown.kept (S:=[]) (Kept.of_below hW) (by simp);exact keys3_in F n h10 hro hn l Bm b nn f J hY W hJ ((hW.cell (p:=⟨Bm,0,none⟩) hBm).trans hm) hown' h0
end Go.Proofs.YtpcmamoomaddoaaGreatDoor
