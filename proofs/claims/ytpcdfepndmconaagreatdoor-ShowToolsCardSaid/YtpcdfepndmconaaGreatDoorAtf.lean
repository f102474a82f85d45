/- The value of a polynomial: the program's. -/
import Derived.Test.YtpcdfepndmconaaGreatDoorChk
import Derived.Maps.OwnOps
import Derived.Test.YtpcdfepndmconaaGreatDoorPrm
/- JOINED: Opn Atf -/
/- The example's points opened: Open. -/
namespace Go.Proofs.YtpcdfepndmconaaGreatDoor
open Go.RowKit Go.Maps
theorem zeroB (w:World):(zeroValue 4).run Tryz.prog w=.ok (.bool false) w:=by kernel_rfl
/-- the block of a slice's array -/
def bl:Option Addr→List Nat
 | none=>[]
 | some a=>[a.block]
theorem nb_grown {w w':World} {b n c:Nat} {T:TypeId} {cs:Array Value} {a:Option Addr} (hg:w.grownBy w' (Value.slice a n c).ownBlock) (h:Blk w b T cs) (hb:b∉bl a):Blk w' b T cs :=
 (hg.block b h.lt (fun e=>hb (by
  cases a with
  | none=>cases e
  | some a=>injection e with e;subst e;simp [bl]))).trans h
theorem blk_new' {w:World} {b:Nat} (h:w.heap.size=b) (T:TypeId) (cs:Array Value):Blk (w.alloc (.cells cs T)) b T cs:=h▸Blk.new w T cs
theorem news_blk {w:World} {b:Nat} {T:TypeId} {v:Value} (h:Blk w b T #[v]):∀ j u,[v][j]?=some u→w.cell? ((⟨b,0,none⟩:Addr).add j)=some u:=by
 intro j u hj;rw [add_cell]
 rcases j with _|j
 ·exact (by simpa using hj)▸h.cell 0
 ·simp at hj
def Dis (a b:Option Addr):Prop:=∀ z∈bl a,z∉bl b
theorem own_bl {a:Option Addr} {n c k:Nat} (h:(Value.slice a n c).ownBlock=some k):k∈bl a:=by
 cases a with
 | none=>cases h
 | some a=>injection h with h;subst h;simp [bl]
theorem Kept.grownS {S:List Nat} {W Y Z':World} {a:Option Addr} {n c:Nat} (hg:Y.grownBy Z' (Value.slice a n c).ownBlock) (h:Kept S W Y) (hS:∀ z∈bl a,z∈S):Kept S W Z' :=
 h.grown hg (fun k hk=>Or.inl (hS k (own_bl hk)))
theorem own_bl_lt {w:World} {B:Nat} {e:TypeId} {size n m c:Nat} {a:Option Addr} {xs:List Value} (h:w.ownsRow B e size (.slice a m c) n xs):∀ z∈bl a,B≤z∧z < w.heap.size:=by
 intro z hz
 cases a with
 | none=>simp [bl] at hz
 | some a=>simp [bl] at hz;subst hz;exact h.lt _ rfl
theorem own_nk {w w':World} {S:List Nat} {B c m:Nat} {a:Option Addr} {e:TypeId} {size n:Nat} {xs:List Value} (h:w.ownsRow B e size (.slice a m c) n xs) (k:Kept S w w') (hg:∀ z∈bl a,z∉S) :
  w'.ownsRow B e size (.slice a m c) n xs:=by
 refine ⟨h.1,?_⟩
 rcases h.2 with h1|⟨g',cap,cur,hv,hB,hb,r⟩
 ·exact Or.inl h1
 ·have e1:a=some ⟨g',0,none⟩:=by injection hv
  subst e1;exact Or.inr ⟨g',cap,cur,hv,hB,(k.block g' (Array.getElem?_eq_some_iff.1 hb).1 (hg g' (by simp [bl]))).trans hb,r⟩
theorem Row.cap {w:World} {size n m c:Nat} {a:Option Addr} {l:List Value} (h:Row w size (.slice a n c) m l):n≤c:=by
 obtain ⟨_,_,a',c',hv,hc,_⟩:=h;injection hv with e1 e2 e3;omega
set_option linter.unusedSimpArgs false
end Go.Proofs.YtpcdfepndmconaaGreatDoor
namespace Go.Proofs.YtpcdfepndmconaaGreatDoor
open Go.RowKit
theorem accN_eq (N:Nat) (x:Int) (zs:List Z):∀ k,k≤zs.length→accN N x (upto (back zs) k)=atZ N x ((zs.map (·.1)).drop (zs.length - k))
 | 0,_=>by
  rw [Nat.sub_zero,List.drop_of_length_le (by simp)]
  rfl
 | k+1,h=>by
  rw [upto_succ,accN_snoc,accN_eq N x zs k (by omega)]
  have hlt:zs.length - (k+1) < (zs.map (·.1)).length:=by rw [List.length_map];omega
  rw [List.drop_eq_getElem_cons hlt,show zs.length - (k+1)+1=zs.length - k by omega,atZ_cons]
  have hb:(back zs k).2.1=(zs.map (·.1))[zs.length - (k+1)]:=by
   unfold back
   rw [List.getElem_map]
   simp only
   rw [show zs.length - 1 - k=zs.length - (k+1) by omega,List.getElem?_eq_getElem (by omega)]
   rfl
  rw [hb]
theorem atN_eq (N:Nat) (x:Int) (zs:List Z):atN N x zs=atZ N x (zs.map (·.1)):=by
 unfold atN
 rw [accN_eq N x zs zs.length (Nat.le_refl _),Nat.sub_self,List.drop_zero]
theorem fat_any (N:Nat) (x:Int) (l:List Int) (v:Value) (w:World) (h1:1≤N) (h2:N < 2305843009213693952) (hx:Wire.I64 x) (hv:Row w 1 v l.length (ints l)) (hi:∀ x∈l,Wire.I64 x) (hl:0 < l.length) (hn:l.length≤1000) :
  Calls Tryz.prog 88 #[.int .i64 N,v,.int .i64 x] w fun e w'=>e=.returned (.int .i64 ((atZ N x l:Nat):Int))∧Kept [] w w':=by
 obtain ⟨zs,hz⟩:∃ zs:List Z,zs.map (·.1)=l:=⟨l.pmap (fun x h=>⟨x,h⟩) hi,by rw [List.map_pmap];simp⟩;subst hz;rw [List.length_map] at hv hl hn;rw [←atN_eq];exact at_any N x zs v w h1 h2 hx hv hl hn
end Go.Proofs.YtpcdfepndmconaaGreatDoor
