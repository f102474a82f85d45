import Derived.Test.YtpcmamoomaddoaaGreatDoorAcp
import Derived.Maps.RangeWalk
import Derived.Maps.OwnOps
import Derived.Maps.OwnSet
import Derived.Maps.Views
import Derived.Sort.MapsRangeIn
import Derived.Sort.KeysCollected
import Derived.DeepKeys4
import Derived.RangeFuncSeq
import Derived.Shelf.SlIter.Collect
set_option maxRecDepth 100000
set_option maxHeartbeats 32000000
namespace Go.Proofs.YtpcmamoomaddoaaGreatDoor
open Go.Maps Go.RowKit
/-- every element reads as itself -/
def rawV(v:Value):Option (DataW Value × List MemPlace):=some (.held v,[])
abbrev DV:=DataW Value
/-- a kind of keys -/
structure KeyEnc (P:Program) (kt:TypeId) (α:Type) where
 val:α->Value
 ok:α->Prop
 kl:α->Lit
 keyed:Keyed P kt
 of:∀ {x},ok x->keyOf P kt (val x)=some (kl x)
 inv:∀ {v l},keyOf P kt v=some l->∃x,ok x/\v=val x/\l=kl x
 minj:∀ {x y},val x=val y->x=y
section
variable {P:Program} {kt:TypeId} {α:Type} (E:KeyEnc P kt α)
theorem KeyEnc.inj{x y:α}(hx:E.ok x)(hy:E.ok y)(h:E.kl x=E.kl y):x=y:=E.minj (E.keyed.inj (E.of hx) (h▸E.of hy))
theorem KeyEnc.lit{x:α}(hx:E.ok x):WideAt.IsKeyLit (E.kl x):=E.keyed.key (E.of hx)
theorem KeyEnc.same{x y:α}(hx:E.ok x)(hy:E.ok y)(hne:x≠y):(E.kl x).sameKey (E.kl y)=false:=sameKey_ne fun e=>hne (E.inj hx hy e)
/-- the map in block b: at each key its value, if it has one -/
def am(w:World)(b n:Nat)(f:α->Option Value):Prop :=
 ∃D:DV,w.ownsMap P kt rawV b n D/\∀x,E.ok x->match f x with|none=>has D (E.kl x)=false|some v=>∀z,D.atKey (E.kl x) z=.held v
/-- under way: 'done' has come -/
def aK(w:World)(b r n:Nat)(f:α->Option Value)(got:List α):Prop :=
 ∃(D:DV) (left:Lit->Bool) (cnt:Nat),w.ranges P kt rawV b r n D left cnt/\(∀x,E.ok x->match f x with|none=>has D (E.kl x)=false|some v=>∀z,D.atKey (E.kl x) z=.held v) /\
  (∀x,E.ok x->(left (E.kl x)=true↔(f x).isSome=true/\x∉got))/\got.Nodup/\(∀x∈got,E.ok x/\(f x).isSome=true)/\got.length+cnt<=n
variable {E} {w w':World} {b r n:Nat} {f:α->Option Value} {got:List α}
theorem am.lt(h:am E w b n f):b < w.heap.size:=let ⟨_,h,_⟩:=h;h.lt
theorem am.kept{S:List Nat}(h:am E w b n f)(k:Kept S w w')(hb:b∉S):am E w' b n f:=by
 obtain⟨D,h1,h2⟩:=h;have hlt:=h1.lt;obtain⟨es,clock,hb',F,hs,hD⟩:=h1;exact⟨D,⟨es,clock,(k.block b hlt hb).trans hb',F,hs,hD⟩,h2⟩
theorem am.made(w:World):am E (w.alloc (.map #[] 0)) w.heap.size 0 fun _=>none:=⟨_,World.ownsMap_made w P kt rawV,fun _ _=>rfl⟩
theorem am.congr{g:α->Option Value}(h:am E w b n f)(hg:∀x,E.ok x->g x=f x):am E w b n g:=by
 obtain⟨D,h1,h2⟩:=h;exact⟨D,h1,fun x hx=>by rw[hg x hx];exact h2 x hx⟩
theorem Kept.of_turned{S:List Nat}(h:w.grownBy w' (some b))(hb:b∈S):Kept S w w':=Kept.of_grown h fun k e=>by cases e;exact hb
variable {ops:Array Oper} {rest:List Oper} {o:Oper} {a:Act} {Q:Exit->Act->World->Prop}
/-- m[k] -/
theorem aX(h:am E w b n f){x:α}(hx:E.ok x)(hg:o.guard=none)(m k:Operand)(t e:TypeId)(hop:o.op=Op.lookup t m k false)(ht:P.underlying t=some (.map kt e))(z:Value)(hz:∀w,(zeroValue e).run P w=.ok z w)
  (hm:a.eval m=.map (some b)) (hk:a.eval k=E.val x) (hK:wpList P ops Q rest (a.put o.dst ((f x).getD z)) w):wpList P ops Q (o::rest) a w:=by
 obtain⟨D,i,g⟩:=h;refine wpList_plain hg fun K' hK'=>?_;obtain⟨v,l,d,c⟩:=i.lookup E.keyed ht (hz w) (zd:=.held z) (zp:=[]) rfl (E.of hx)
 have j:v=(f x).getD z:=by
  have:=g x hx
  unfold rawV at c
  injection c with c;injection c with c _
  cases hf:f x with
  |none=>rw[hf]at this;rw[atKey_of_not_has this]at c;injection c
  |some u=>rw[hf]at this;rw[this]at c;injection c
 subst j
 unfold Oper.wp
 simp[execOp,hop,hm,hk,d,Result.andThen]
 exact hK' _ _ hK
/-- v, ok := m[k] -/
theorem bT(h:am E w b n f){x:α}(hx:E.ok x)(hg:o.guard=none)(m k:Operand)(t e:TypeId)(hop:o.op=Op.lookup t m k true)(ht:P.underlying t=some (.map kt e))(z:Value)(hz:∀w,(zeroValue e).run P w=.ok z w)
  (hm:a.eval m=.map (some b)) (hk:a.eval k=E.val x) (hK:wpList P ops Q rest (a.put o.dst (.tuple #[(f x).getD z,.bool (f x).isSome])) w):wpList P ops Q (o::rest) a w:=by
 obtain⟨D,j,i⟩:=h;refine wpList_plain hg fun K' hK'=>?_;obtain⟨v,q,d,c⟩:=j.look_ok E.keyed ht (hz w) (zd:=.held z) (zp:=[]) rfl (E.of hx)
 have p:v=(f x).getD z/\has D (E.kl x)=(f x).isSome:=by
  have:=i x hx
  unfold rawV at c
  injection c with c;injection c with c _
  cases hf:f x with
  |none=>rw[hf]at this;rw[atKey_of_not_has this]at c;injection c with c;exact⟨c,this⟩
  |some u=>rw[hf]at this;have g:=has_true_of_atKey this;rw[this]at c;injection c with c;exact⟨c,g⟩
 obtain⟨rfl,l⟩:=p;rw[l]at d
 unfold Oper.wp
 simp[execOp,hop,hm,hk,d,Result.andThen]
 exact hK' _ _ hK
theorem am.put_{x:α}{v:Value}{D:DV}(hx:E.ok x)(hm:IsMap D)(h2:∀y,E.ok y->match f y with|none=>has D (E.kl y)=false|some v=>∀z,D.atKey (E.kl y) z=.held v)[DecidableEq α] :
  ∀y,E.ok y->match (if y=x then some v else f y)with|none=>has (D.put (E.kl x) (.held v)) (E.kl y)=false|some u=>∀z,(D.put (E.kl x) (.held v)).atKey (E.kl y) z=.held u:=by
 intro y b
 by_cases e:y=x
 ·subst e;rw[if_pos rfl];exact fun z=>atKey_put_same hm (E.lit b) _ _
 ·rw[if_neg e];have a:E.kl y≠E.kl x:=fun h=>e (E.inj b hx h);have:=h2 y b
  cases hf:f y with
  |none=>rw[hf]at this;simp only at this ⊢;rw[has_put_other a];exact this
  |some u=>rw[hf]at this;simp only at this ⊢;intro z;rw[atKey_put_other a];exact this z
/-- m[k] = v -/
theorem tM[DecidableEq α](h:am E w b n f){x:α}(hx:E.ok x)(m k v:Operand)(t e:TypeId)(hop:o.op=Op.mapUpdate t m k v)(ht:P.underlying t=some (.map kt e))(hn:n < maxLen)(u:Value)
  (hm:a.eval m=.map (some b)) (hk:a.eval k=E.val x) (hv:a.eval v=u) {K:Act->World->Prop}
  (hK:∀w',am E w' b (n+1) (fun y=>if y=x then some u else f y)->w.grownBy w' (some b)->w'.heap.size=w.heap.size->K (a.put o.dst undef) w'):o.wp P a w K Q:=by
 obtain⟨D,i,l⟩:=h;obtain⟨w',c,j,g⟩:=i.store E.keyed ht hn (val:=u) (d:=.held u) (ps:=[]) (E.of hx) rfl
 unfold Oper.wp
 simp[execOp,hop,hm,hk,hv,c,Result.andThen]
 refine hK w' ⟨_,j,am.put_ hx i.isMap l⟩ g.grown ?_;obtain⟨_,_,es',c',_,rfl⟩:=g
 simp[ChangeMaps.setBlock]
theorem dQ[DecidableEq α](h:am E w b n f){x:α}(hx:E.ok x)(hg:o.guard=none)(m k v:Operand)(t e:TypeId)(hop:o.op=Op.mapUpdate t m k v)(ht:P.underlying t=some (.map kt e))(hn:n < maxLen)(u:Value)
  (hm:a.eval m=.map (some b)) (hk:a.eval k=E.val x) (hv:a.eval v=u)
  (hK:∀w',am E w' b (n+1) (fun y=>if y=x then some u else f y)->w.grownBy w' (some b)->w'.heap.size=w.heap.size->wpList P ops Q rest (a.put o.dst undef) w'):wpList P ops Q (o::rest) a w :=
 wpList_plain hg fun _ hK'=>tM h hx m k v t e hop ht hn u hm hk hv fun w' h1 h2 h3=>hK' _ _ (hK w' h1 h2 h3)
/-- delete(m, k) -/
theorem pw[DecidableEq α](h:am E w b n f){x:α}(hx:E.ok x)(hg:o.guard=none)(m k:Operand)(t e:TypeId)(hop:o.op=Op.call { callee:=Callee.builtin Builtin.delete,args:=#[m,k],argTypes:=#[t,kt] })(ht:P.underlying t=some (.map kt e))
  (hm:a.eval m=.map (some b)) (hk:a.eval k=E.val x)
  (hK:∀w',am E w' b n (fun y=>if y=x then none else f y)->w.grownBy w' (some b)->w'.heap.size=w.heap.size->wpList P ops Q rest (a.put o.dst (.tuple #[])) w'):wpList P ops Q (o::rest) a w:=by
 obtain⟨D,g,d⟩:=h;refine wpList_delete_own w hg m k t kt hop e E.keyed ht rawV b n D hm g _ _ hk (E.of hx) fun w' r1 r2=>?_;refine hK w' ⟨_,r1,fun y hy=>?_⟩ r2.grown ?_
 ·show match (if y=x then none else f y)with|none=>has (D.del (E.kl x)) (E.kl y)=false|some v=>∀z,(D.del (E.kl x)).atKey (E.kl y) z=.held v
  by_cases e:y=x
  ·subst e;rw[if_pos rfl];exact has_del_same
  ·rw[if_neg e];have c:E.kl y≠E.kl x:=fun h=>e (E.inj hy hx h);have:=d y hy
   cases hf:f y with
   |none=>rw[hf]at this;simp only at this ⊢;rw[has_del_other c];exact this
   |some u=>rw[hf]at this;simp only at this ⊢;intro z;rw[atKey_del_other c];exact this z
 ·obtain⟨_,_,es',c',_,rfl⟩:=r2
  simp[ChangeMaps.setBlock]
theorem aK.at_(h:aK E w b r n f got):am E w b n f:=by
 obtain⟨D,left,cnt,h1,h2,_⟩:=h;exact⟨D,h1.owns,h2⟩
theorem aK.lt(h:aK E w b r n f got):r < w.heap.size:=by
 obtain⟨D,left,cnt,h1,_⟩:=h;exact h1.lt
theorem aK.kept{S:List Nat}(h:aK E w b r n f got)(k:Kept S w w')(hb:b∉S)(hr:r∉S):aK E w' b r n f got:=by
 obtain⟨D,left,cnt,h1,h2⟩:=h;have h3:=h1.owns.lt;have h4:=h1.lt;obtain⟨es,clock,since,seen,c0,hb',F,hs,hD,hr',rest⟩:=h1;exact⟨D,left,cnt,⟨es,clock,since,seen,c0,(k.block b h3 hb).trans hb',F,hs,hD,(k.block r h4 hr).trans hr',rest⟩,h2⟩
/-- range m -/
theorem gi(h:am E w b n f)(hg:o.guard=none)(m:Operand)(t e:TypeId)(hop:o.op=Op.range t m)(ht:P.underlying t=some (.map kt e))(hm:a.eval m=.map (some b))
  (hK:∀w',aK E w' b w.heap.size n f []->w.grownBy w' none->w'.heap.size=w.heap.size+1->wpList P ops Q rest (a.put o.dst (.pointer (some ⟨w.heap.size,0,none⟩))) w'):wpList P ops Q (o::rest) a w:=by
 obtain⟨D,d,c⟩:=h;refine wpList_range_own w hg m t hop kt e E.keyed ht rawV b n D hm d fun w' r1 r2 r3=>hK w' ⟨D,_,_,r1,c,fun x hx=>?_,List.nodup_nil,by simp,by simpa using d.size_le⟩ r2 r3;have:=c x hx
 cases hf:f x with
 |none=>rw[hf]at this;simp only at this;rw[this];simp
 |some u=>rw[hf]at this;rw[has_true_of_atKey this];simp
/-- the next one -/
theorem gR(h:aK E w b r n f got)(hg:o.guard=none)(it:Operand)(hop:o.op=Op.next it false)(hit:a.eval it=.pointer (some ⟨r,0,none⟩))
  (hDone:(∀x,E.ok x->(f x).isSome=true->x∈got)->wpList P ops Q rest (a.put o.dst (.tuple #[.bool false])) w)
  (hMore:∀(x:α) (v:Value) (w':World),E.ok x->f x=some v->x∉got->aK E w' b r n f (got++[x])->w'.rangeLeft b r < w.rangeLeft b r->w.grownBy w' (some r)->w'.heap.size=w.heap.size ->
   (Instr.entry (.pointer (some ⟨r,0,none⟩))).run P w'=.ok (.tuple #[E.val x,v]) w'->wpList P ops Q rest (a.put o.dst (.tuple #[.bool true,E.val x,v])) w'):wpList P ops Q (o::rest) a w:=by
 obtain⟨D,j,q,A,t,p,C,B,F⟩:=h;refine wpList_next_ranges w hg it hop kt E.keyed rawV E.val id (fun key kl hkey=>by obtain⟨x,_,i,_⟩:=E.inv hkey;exact⟨x,i⟩) (fun v _ _=>⟨v,rfl⟩) b r n D j q hit A (fun _ hl=>hDone fun x hx k=>?_) fun x c kl y w' cnt' hkey hlk i hat hrg hlt hgr hsz hen=>?_
 ·by_cases hm:x∈got
  ·exact hm
  ·have:=(p x hx).2 ⟨k,hm⟩
   rw[hl]at this;cases this
 ·obtain⟨x',hx',e,rfl⟩:=E.inv hkey;have:=E.minj e;subst this;obtain⟨k,l⟩:=(p x hx').1 hlk
  have m:f x=some c:=by
   have s:=t x hx'
   cases hf:f x with
   |none=>rw[hf]at k;cases k
   |some u =>
    rw[hf]at s;have d:=s .nil;rw[hat]at d
    unfold rawV at i
    injection i with i;rw[<-i]at d;injection d with d;exact congrArg some d.symm
  refine hMore x c w' hx' m l ⟨D,_,cnt',hrg,t,fun z g=>?_,?_,?_,?_⟩ ?_ hgr hsz hen
  ·by_cases e:z=x
   ·subst e;rw[WideAt.sameKey_self (E.lit g)]
    simp
   ·rw[E.same g hx' e,Bool.not_false,Bool.and_true,p z g]
    simp[e]
  ·rw[List.nodup_append];exact⟨C,by simp,fun a ha b hb=>by rw[List.mem_singleton]at hb;subst hb;exact fun e=>l (e▸ha)⟩
  ·intro z g
   rcases List.mem_append.1 g with g|g
   ·exact B z g
   ·rw[List.mem_singleton]at g;exact g▸⟨hx',k⟩
  ·rw[List.length_append,List.length_singleton];omega
  ·rw[hrg.left_eq,A.left_eq];exact hlt
theorem aK.length_le(h:aK E w b r n f got):got.length<=n:=by
 obtain⟨D,left,cnt,_,_,_,_,_,h6⟩:=h;omega
end
open Go.Proofs.Tryz
def aC:KeyEnc prog 9 (List UInt8) where
 val s:=.string ⟨s.toArray⟩
 ok s:=s.length<=maxLen
 kl s:=.string s
 keyed:=Maps.string_keyed underlying9
 of {x} hx:=by
  have:=WideMaps.keyOf_string_mk underlying9 (s:=⟨x.toArray⟩) (by simpa [ByteArray.size]using hx)
  simpa using this
 inv {v l} h:=by
  obtain⟨x,h1,h2,h3⟩:=Maps.keyOf_str underlying9 h;exact⟨x,h3,h1,h2⟩
 minj {x y} h:=by simpa using h
def aM:KeyEnc prog 3 Int where
 val n:=.int .i64 n
 ok n:=(Lit.int .i64 n).wf=true
 kl n:=.int .i64 n
 keyed:=Maps.int_keyed underlying3
 of {x} hx:=Maps.keyOf_int_mk underlying3 hx
 inv {v l} h:=by
  obtain⟨x,h1,h2,h3⟩:=Maps.keyOf_int_inv underlying3 h;exact⟨x,h3,h1,h2⟩
 minj {x y} h:=by simpa using h
/-! ### a key of two strings and an int -/
abbrev K3:=List UInt8 × List UInt8 × Int
def W3(x:K3):Prop:=x.1.length<=maxLen/\x.2.1.length<=maxLen/\(Lit.int .i64 x.2.2).wf=true
structure Key3 (P:Program) (k st it:TypeId):Prop where
 struct : ∃ f g h : Field, P.underlying k = some (.struct #[f, g, h]) ∧ f.type = st ∧ g.type = st ∧ h.type = it ∧ f.offset = 0 ∧ g.offset = 1 ∧ h.offset = 2 ∧ (#[f, g, h].all (·.name != "_") = true)
 str:P.underlying st=some .string
 int:P.underlying it=some (.int .i64)
 cells:P.cellsOf k=3
 one:P.cellsOf st=1
 one':P.cellsOf it=1
 key:P.keyType k=true
 many:∃m,P.types.size=m+1
section
variable {P:Program} {k st it:TypeId}
theorem jc{m:Nat}(hu:P.underlying it=some (.int .i64))(v:Value)(l:List Lit):P.keyLits (m+1) it [v]=some l↔∃a:Int,v=.int .i64 a/\(Lit.int .i64 a).wf=true/\l=[.int .i64 a]:=by
 constructor
 ·intro h;simp only[Program.keyLits,hu]at h
  cases v <;> simp at h
  obtain⟨⟨rfl,hw⟩,rfl⟩:=h;exact⟨_,rfl,hw,rfl⟩
 ·rintro⟨a,rfl,hw,rfl⟩
  simp[Program.keyLits,hu,hw]
theorem em{m:Nat}(hu:P.underlying st=some .string)(v:Value)(l:List Lit):P.keyLits (m+1) st [v]=some l↔∃a:List UInt8,v=.string ⟨a.toArray⟩/\a.length<=maxLen/\l=[.string a]:=by
 constructor
 ·intro h;simp only[Program.keyLits,hu]at h
  cases v <;> simp at h
  rename_i s;obtain⟨hw,rfl⟩:=h;exact⟨s.data.toList,by simp,by rw[Array.length_toList];exact hw,rfl⟩
 ·rintro⟨a,rfl,hw,rfl⟩;simp only[Program.keyLits,hu];exact if_pos hw
theorem xH(h:Key3 P k st it)(a b c:Value)(l:List Lit):P.keyLits (P.types.size+1) k [a,b,c]=some l↔∃x:K3,W3 x/\a=.string ⟨x.1.toArray⟩/\b=.string ⟨x.2.1.toArray⟩/\c=.int .i64 x.2.2/\l=[.string x.1,.string x.2.1,.int .i64 x.2.2]:=by
 obtain⟨⟨f,g,i,B,G,F,E,u,t,s,C⟩,d,j,r,n,hone',_,m,D⟩:=h;rw[D]
 have e:∀M,P.keyLits (M+1) k [a,b,c]=((P.keyLits M st [a]).bind fun x=>(P.keyLits M st [b]).bind fun y=>(P.keyLits M it [c]).bind fun z=>some (x++(y++z))):=by
  intro M;simp only[Program.keyLits,B,r];rw[if_pos ⟨rfl,C⟩];simp only[List.mapM_cons,List.mapM_nil,G,F,E,u,t,s,n,hone',List.drop_zero,List.take_succ_cons,List.take_zero,List.drop_succ_cons]
  cases P.keyLits M st [a] <;> cases P.keyLits M st [b] <;> cases P.keyLits M it [c] <;> simp
 rw[e]
 constructor
 ·intro h;simp only[Option.bind_eq_some_iff,Option.some.injEq]at h;obtain⟨x,A,y,w,z,v,rfl⟩:=h;obtain⟨x,rfl,q,rfl⟩:=(em d a _).1 A;obtain⟨y,rfl,p,rfl⟩:=(em d b _).1 w;obtain⟨z,rfl,o,rfl⟩:=(jc j c _).1 v;exact⟨(x,y,z),⟨q,p,o⟩,rfl,rfl,rfl,rfl⟩
 ·rintro⟨⟨x,y,z⟩,⟨q,p,o⟩,rfl,rfl,rfl,rfl⟩;rw[(em d _ [.string x]).2 ⟨x,rfl,q,rfl⟩,(em d _ [.string y]).2 ⟨y,rfl,p,rfl⟩,(jc j _ [.int .i64 z]).2 ⟨z,rfl,o,rfl⟩]
  rfl
def kv3(x:K3):Value:=.agg #[.string ⟨x.1.toArray⟩,.string ⟨x.2.1.toArray⟩,.int .i64 x.2.2]
def kl3(x:K3):Lit:=.string (keyBytes [.string x.1,.string x.2.1,.int .i64 x.2.2])
theorem sZ(h:Key3 P k st it){x:K3}(hx:W3 x):keyOf P k (kv3 x)=some (kl3 x):=by
 have hl:=(xH h (.string ⟨x.1.toArray⟩) (.string ⟨x.2.1.toArray⟩) (.int .i64 x.2.2) _).2 ⟨x,hx,rfl,rfl,rfl,rfl⟩;obtain⟨⟨f,g,i,hu,_⟩,_,hint,hcs,hone,_,hk,_⟩:=h
 simp[kv3,keyOf,hu,hk,Value.formed,hcs,Value.cells,hl,kl3]
theorem qw(h:Key3 P k st it){v:Value}{l:Lit}(hv:keyOf P k v=some l):∃x:K3,W3 x/\v=kv3 x/\l=kl3 x:=by
 have h':=h;obtain⟨⟨f,g,i,hu,_⟩,_,hint,hcs,hone,_,hk,_⟩:=h'
 unfold keyOf at hv
 rw[hu]at hv;simp only[hk,Bool.true_and]at hv
 split at hv
 ·next hf =>
  cases v <;> simp[Value.formed,hu,hcs]at hf
  rename_i cs;obtain⟨cs⟩:=cs
  rcases cs with _|⟨a,_|⟨b,_|⟨c,_|⟨d,cs⟩⟩⟩⟩ <;> simp at hf
  simp only[Value.cells,Option.map_eq_some_iff]at hv;obtain⟨ls,h1,rfl⟩:=hv;obtain⟨x,hx,rfl,rfl,rfl,rfl⟩:=(xH h a b c ls).1 h1;exact⟨x,hx,rfl,rfl⟩
 ·cases hv
end
theorem oC:Key3 prog 182 9 3 where
 struct:=⟨_,_,_,underlying182,rfl,rfl,rfl,rfl,rfl,rfl,by kernel_rfl⟩
 str:=underlying9
 int:=underlying3
 cells:=by kernel_rfl
 one:=by kernel_rfl
 one':=by kernel_rfl
 key:=by kernel_rfl
 many:=⟨prog.types.size - 1,by kernel_rfl⟩
theorem uX:WideMaps.KeyLaw prog 182:=deep_law_laid (m:=10) (by kernel_rfl) (by decide) (of_decide_eq_true (by kernel_rfl)) (by kernel_rfl) (by kernel_rfl)
def fF:KeyEnc prog 182 K3 where
 val:=kv3
 ok:=W3
 kl:=kl3
 keyed:=Maps.Keyed.of_law uX
 of hx:=sZ oC hx
 inv h:=qw oC h
 minj {x y} h:=by
  obtain⟨a,b,c⟩:=x;obtain⟨a',b',c'⟩:=y
  simpa [kv3]using h
end Go.Proofs.YtpcmamoomaddoaaGreatDoor
namespace Go.Proofs.YtpcmamoomaddoaaGreatDoor
open Go.Maps Go.RowKit
section
variable {P:Program} {kt:TypeId} {α:Type} {E:KeyEnc P kt α} {w w':World} {b r nn:Nat} {f:α->Option Value} {got:List α}
theorem aK.of_walks(h:aK E w b r nn f got)(hk:KeepsWalks w w'):aK E w' b r nn f got:=by
 obtain⟨D,left,cnt,h1,h2⟩:=h;exact⟨D,left,cnt,h1.of_walks hk,h2⟩
theorem aK.iter_walk(h:aK E w b r nn f got):∃o:Obj,w.heap[r]?=some o/\o.isWalk=true:=by
 obtain⟨D,left,cnt,h1,_⟩:=h;exact h1.iter_walk
theorem aK.grown{row:Option Nat}(h:aK E w b r nn f got)(hg:w.grownBy w' row)(h1:some b≠row)(h2:some r≠row):aK E w' b r nn f got:=by
 obtain⟨D,left,cnt,h3,h4⟩:=h;exact⟨D,left,cnt,h3.kept hg h1 h2,h4⟩
theorem aK.left_walks(h:aK E w b r nn f got)(hk:KeepsWalks w w'):w'.rangeLeft b r=w.rangeLeft b r:=by
 obtain⟨D,left,cnt,h1,_⟩:=h;rw[(h1.of_walks hk).left_eq,h1.left_eq]
theorem aK.left_grown{row:Option Nat}(h:aK E w b r nn f got)(hg:w.grownBy w' row)(h1:some b≠row)(h2:some r≠row):w'.rangeLeft b r=w.rangeLeft b r:=by
 obtain⟨D,left,cnt,h3,h4⟩:=h;rw[(h3.kept hg h1 h2).left_eq,h3.left_eq]
variable {F:Fence} {n:Nat} {ops:Array Oper} {rest:List Oper} {o:Oper} {a:Act} {Q:Exit->Act->World->Prop}
/-- range m -/
theorem jo(h:am E w b nn f)(hg:o.guard=none)(m:Operand)(t e:TypeId)(hop:o.op=Op.range t m)(ht:P.underlying t=some (.map kt e))(hm:a.eval m=.map (some b))
  (hK:∀w',aK E w' b w.heap.size nn f []->w.grownBy w' none->w'.heap.size=w.heap.size+1->wpListIn F n P ops Q rest (a.put o.dst (.pointer (some ⟨w.heap.size,0,none⟩))) w'):wpListIn F n P ops Q (o::rest) a w:=by
 obtain⟨D,d,c⟩:=h;refine wpListIn_range_own w hg m t hop kt e E.keyed ht rawV b nn D hm d fun w' r1 r2 r3=>hK w' ⟨D,_,_,r1,c,fun x hx=>?_,List.nodup_nil,by simp,by simpa using d.size_le⟩ r2 r3;have:=c x hx
 cases hf:f x with
 |none=>rw[hf]at this;simp only at this;rw[this];simp
 |some u=>rw[hf]at this;rw[has_true_of_atKey this];simp
/-- the next one -/
theorem jA(h:aK E w b r nn f got)(hg:o.guard=none)(it:Operand)(hop:o.op=Op.next it false)(hit:a.eval it=.pointer (some ⟨r,0,none⟩))
  (hDone:(∀x,E.ok x->(f x).isSome=true->x∈got)->wpListIn F n P ops Q rest (a.put o.dst (.tuple #[.bool false])) w)
  (hMore:∀(x:α) (v:Value) (w':World),E.ok x->f x=some v->x∉got->aK E w' b r nn f (got++[x])->w'.rangeLeft b r < w.rangeLeft b r->w.grownBy w' (some r)->w'.heap.size=w.heap.size ->
   (Instr.entry (.pointer (some ⟨r,0,none⟩))).run P w'=.ok (.tuple #[E.val x,v]) w'->wpListIn F n P ops Q rest (a.put o.dst (.tuple #[.bool true,E.val x,v])) w'):wpListIn F n P ops Q (o::rest) a w:=by
 obtain⟨D,j,q,A,t,p,C,B,G⟩:=h;refine wpListIn_next_ranges w hg it hop kt E.keyed rawV E.val id (fun key kl hkey=>by obtain⟨x,_,i,_⟩:=E.inv hkey;exact⟨x,i⟩) (fun v _ _=>⟨v,rfl⟩) b r nn D j q hit A (fun _ hl=>hDone fun x hx k=>?_) fun x c kl y w' cnt' hkey hlk i hat hrg hlt hgr hsz hen=>?_
 ·by_cases hm:x∈got
  ·exact hm
  ·have:=(p x hx).2 ⟨k,hm⟩
   rw[hl]at this;cases this
 ·obtain⟨x',hx',e,rfl⟩:=E.inv hkey;have:=E.minj e;subst this;obtain⟨k,l⟩:=(p x hx').1 hlk
  have m:f x=some c:=by
   have s:=t x hx'
   cases hf:f x with
   |none=>rw[hf]at k;cases k
   |some u =>
    rw[hf]at s;have d:=s .nil;rw[hat]at d
    unfold rawV at i
    injection i with i;rw[<-i]at d;injection d with d;exact congrArg some d.symm
  refine hMore x c w' hx' m l ⟨D,_,cnt',hrg,t,fun z g=>?_,?_,?_,?_⟩ ?_ hgr hsz hen
  ·by_cases e:z=x
   ·subst e;rw[WideAt.sameKey_self (E.lit g)]
    simp
   ·rw[E.same g hx' e,Bool.not_false,Bool.and_true,p z g]
    simp[e]
  ·rw[List.nodup_append];exact⟨C,by simp,fun a ha b hb=>by rw[List.mem_singleton]at hb;subst hb;exact fun e=>l (e▸ha)⟩
  ·intro z g
   rcases List.mem_append.1 g with g|g
   ·exact B z g
   ·rw[List.mem_singleton]at g;exact g▸⟨hx',k⟩
  ·rw[List.length_append,List.length_singleton];omega
  ·rw[hrg.left_eq,A.left_eq];exact hlt
end
open Go.Proofs.Tryz Go.Shelf Go.Sort
/-- what an iterator over a map's keys gives -/
def pt(f:K3->Option Value)(ss:List K3):Prop:=ss.Nodup/\(∀x∈ss,W3 x/\(f x).isSome=true)/\∀x,W3 x->(f x).isSome=true->x∈ss
theorem uW(F:Fence)(n:Nat)(h10:F.fn 203)(hro:F.round=none)(hn:1<=n)(l Bm b nn:Nat)(f:K3->Option Value)(J:List K3->World->Prop)
  (hY:∀pre x W,J pre W->pre.length < nn->YieldAt F (n - 1) prog l #[kv3 x] W fun e W'=>e=.returned (.bool true)/\J (pre++[x]) W'/\KeepsWalks W W')
  (W:World) (hJ:AbidesFrom W.heap.size J) (hm:W.cell? ⟨Bm,0,none⟩=some (.map (some b))) (hown:am fF W b nn f) (h0:J [] W) :
  CallsIn F n prog 203 #[.func (.yield l) #[] #[],.pointer (some ⟨Bm,0,none⟩)] W fun e W'=>(∃v,e=.returned v)/\∃ss:List K3,pt f ss/\J ss W':=by
 refine callsIn_of_wp func203 rfl h10 ?_ hro;simp only[ntmps203,List.size_toArray,List.length_cons,List.length_nil,Nat.reduceAdd,Nat.reduceSub,Array.replicate_succ,Array.replicate_zero,List.push_toArray,List.append_toArray,List.nil_append,List.cons_append]
 gi_wp2_with (first
  |(gi_at_range;refine jo hown rfl _ 210 4 rfl underlying210 rfl ?_;intro V y M Y)
  |gi_in)
 go_frame
 gi_loopw [3] (fun _ wr=>∃ss:List K3,aK fF wr b W.heap.size nn f ss/\J ss wr)
  (fun _ wr=>wr.rangeLeft b W.heap.size)
 case atStart=>exact⟨[],y,hJ [] W V none h0 M (fun r e=>by cases e)⟩
 case round =>
  obtain⟨ss,o,B⟩:=hrel
  gi_wp2_with (first
   |(gi_at_next;refine jA o rfl _ rfl rfl ?_ ?_)
   |gi_in)
  · -- nothing is s
   intro A
   gi_wp2
   go_end0
   obtain⟨D,s,a1,h1,h2,h3,h4,h5,h6⟩:=o;exact⟨⟨_,rfl⟩,ss,⟨h4,h5,fun x T hs=>A x.1 x.2.1 x.2.2 T hs⟩,B⟩
  · -- an entry has come
   intro k j i c m T a0 Z a G L E N;have Q:J ss m:=hJ ss wr m (some W.heap.size) B L (fun r e=>by cases e;exact⟨Nat.le_refl _,o.iter_walk⟩);have u:fF.val (k,j,i)=.agg #[.string ⟨k.toArray⟩,.string ⟨j.toArray⟩,.int .i64 i]:=rfl;rw[u]at N ⊢;obtain⟨g,hg⟩:∃g,m.heap.size=g:=⟨_,rfl⟩;obtain⟨d,t⟩:∃x,m.alloc (.cells #[.string ⟨k.toArray⟩,.string ⟨j.toArray⟩,.int .i64 i] 182)=x:=⟨_,rfl⟩;have p:m.grownBy d none:=t▸World.grownBy_alloc m _ none;have q:Blk d g 182 #[.string ⟨k.toArray⟩,.string ⟨j.toArray⟩,.int .i64 i]:=hg▸t▸Blk.new _ _ _;have y0:d.cell? ⟨g,0,none⟩=some (.string ⟨k.toArray⟩):=q.cell 0;have y1:d.cell? ⟨g,1,none⟩=some (.string ⟨j.toArray⟩):=q.cell 1;have y2:d.cell? ⟨g,2,none⟩=some (.int .i64 i):=q.cell 2;have P:J ss d:=hJ ss m d none Q p (fun r e=>by cases e);have h:=a.grown p (by simp) (by simp);obtain⟨fn,R,C,U,X,hR⟩:=hY ss (k,j,i) d P (by have:=a.length_le;rw[List.length_append,List.length_singleton]at this;omega)
   dsimp only[kv3]at X
   clear E
   gi_wp2
   refine hR.mono ?_;rintro e W4 ⟨rfl,O,z⟩
   gi_wp2
   have w:=h.of_walks z;have I:=(h.left_walks z).trans (a.left_grown p (by simp) (by simp))
   go_roundw
   case rel=>exact⟨ss++[(k,j,i)],w,O⟩
   case measure=>rw[I];exact G
/-- maps.Keys(m): the map is boxed; the function value captures the box -/
theorem sJ(F:Fence)(n:Nat)(h7:F.fn 156)(hro:F.round=none)(mb:Option Nat)(w:World) :
  CallsIn F n prog 156 #[.map mb] w fun e w'=>e=.returned (.func (.func 203) #[] #[.pointer (some ⟨w.heap.size,0,none⟩)])/\w'=w.alloc (.cells #[.map mb] 210):=by
 refine callsIn_of_wp func156 rfl h7 ?_ hro;simp only[ntmps156,List.size_toArray,List.length_cons,List.length_nil,Nat.reduceAdd,Nat.reduceSub,Array.replicate_succ,Array.replicate_zero,List.push_toArray,List.append_toArray,List.nil_append,List.cons_append]
 gi_wp2
 go_ret;exact⟨rfl,rfl⟩
theorem oB(F:Fence)(n:Nat)(h10:F.fn 203)(hro:F.round=none)(hn:1<=n)(Bm b nn:Nat)(f:K3->Option Value)(w:World)(hBm:Bm < w.heap.size)
  (hm:w.cell? ⟨Bm,0,none⟩=some (.map (some b))) (hown:am fF w b nn f) :
  SeqGives F n prog 203 #[.pointer (some ⟨Bm,0,none⟩)] kv3 (pt f) nn w:=fun l J W hW hJ hY h0=>by
 have hown':am fF W b nn f:=hown.kept (S:=[]) (Kept.of_below hW) (by simp);exact uW F n h10 hro hn l Bm b nn f J hY W hJ ((hW.cell (p:=⟨Bm,0,none⟩) hBm).trans hm) hown' h0
end Go.Proofs.YtpcmamoomaddoaaGreatDoor
