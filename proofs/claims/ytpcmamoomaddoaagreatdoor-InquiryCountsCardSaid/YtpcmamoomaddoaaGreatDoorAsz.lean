/- Plain: what is parsed is no greater than three nodes a token. -/
import Derived.Test.YtpcmamoomaddoaaGreatDoorAcp
namespace Go.Proofs.YtpcmamoomaddoaaGreatDoor
mutual
theorem size_neg:∀ p:Pd,sizeB (negB p)≤sizeB p
 | .node k l r c ks=>by
  rw [negB]
  split
  ·rw [sizeB,sizeB,sizeL];omega
  ·rw [sizeB,sizeB];have:=sizeL_neg ks;omega
theorem sizeL_neg:∀ l:List Pd,sizeL (negL l)≤sizeL l
 | []=>by rw [negL];omega
 | p::l=>by
  rw [negL,sizeL,sizeL];have:=size_neg p;have:=sizeL_neg l;omega
end
theorem sizeB_pos:∀ p:Pd,1≤sizeB p
 | .node ..=>by rw [sizeB];omega
theorem length_sizeL:∀ l:List Pd,l.length≤sizeL l
 | []=>by simp
 | p::l=>by
  have:=sizeB_pos p;have:=length_sizeL l;rw [sizeL,List.length_cons];omega
theorem sizeL_app:∀ l m:List Pd,sizeL (l++m)=sizeL l+sizeL m
 | [],m=>by rw [List.nil_append,sizeL];omega
 | p::l,m=>by rw [List.cons_append,sizeL,sizeL,sizeL_app l m];omega
section
variable {ts:List Tok}
theorem take_next {s:Bs} {i:Nat} {u:Unit} {j:Nat} (h:takeP ts s i=.ok (u,j)):j=i+1:=by
 unfold takeP at h
 split at h
 ·injection h with h;injection h with _ h;exact h.symm
 ·cases h
theorem number_next {i:Nat} {u:Int} {j:Nat} (h:numberP ts i=.ok (u,j)):j=i+1:=by
 unfold numberP at h
 split at h
 ·cases h
 ·split at h
  ·injection h with h;injection h with _ h;exact h.symm
  ·cases h
theorem name_next {i:Nat} {u:Bs} {j:Nat} (h:nameP ts i=.ok (u,j)):j=i+1:=by
 unfold nameP at h
 split at h
 ·cases h
 ·split at h
  ·injection h with h;injection h with _ h;exact h.symm
  ·cases h
theorem sum_next {i:Nat} {s:Sm} {j:Nat} (h:sumP ts i=.ok (s,j)):i+1≤j:=by
 unfold sumP at h
 split at h
 ·obtain ⟨n,j1,h1,h2⟩:=bnd_ok h;injection h2 with h2;injection h2 with _ h2;have:=number_next h1;omega
 ·split at h
  ·obtain ⟨n,j1,h1,h2⟩:=bnd_ok h;injection h2 with h2;injection h2 with _ h2;have:=number_next h1;omega
  ·obtain ⟨x,j1,h1,h⟩:=bnd_ok h;obtain ⟨_,j2,h2,h⟩:=bnd_ok h;obtain ⟨y,j3,h3,h⟩:=bnd_ok h;have:=name_next h1;have:=take_next h2;have:=name_next h3
   split at h
   ·obtain ⟨n,j4,h4,h⟩:=bnd_ok h;injection h with h;injection h with _ h;have:=number_next h4;omega
   ·split at h
    ·obtain ⟨n,j4,h4,h⟩:=bnd_ok h;injection h with h;injection h with _ h;have:=number_next h4;omega
    ·injection h with h;injection h with _ h;omega
/-- three nodes a token, at most -/
def Lean3 (e:Nat→Res Pd):Prop:=∀ i p j,e i=.ok (p,j)→i+1≤j∧sizeB p≤3*(j - i)
theorem sep_size {skip:Nat→Bool} {e:Nat→Res Pd} (he:Lean3 e):∀ (f i:Nat) (acc l:List Pd) (j:Nat),sepP skip e f i acc=.ok (l,j) →
  i+1≤j∧sizeL l≤sizeL acc+3*(j - i)∧acc.length+1≤l.length∧(acc.length+2≤l.length→sizeL l+1≤sizeL acc+3*(j - i))
 | 0,_,_,_,_,h=>by simp [sepP] at h
 | f+1,i,acc,l,j,h=>by
  rw [sepP] at h;obtain ⟨x,j1,hx,h⟩:=bnd_ok h;obtain ⟨h1,h2⟩:=he _ _ _ hx
  split at h
  ·obtain ⟨h3,h4,h5,h6⟩:=sep_size he f _ _ _ _ h;rw [sizeL_app,sizeL,sizeL] at h4 h6;rw [List.length_append,List.length_singleton] at h5 h6;refine ⟨by omega,by omega,by omega,fun _=>by omega⟩
  ·injection h with h;injection h with h h';subst h;rw [sizeL_app,sizeL,sizeL,List.length_append,List.length_singleton];refine ⟨by omega,by omega,by omega,fun hh=>by omega⟩
theorem one_size {k:Int} {l:List Pd} {n:Nat} (h1:1≤l.length) (h2:sizeL l≤n) (h3:2≤l.length→sizeL l+1≤n):sizeB (one k l)≤n:=by
 match l,h1,h2,h3 with
 | [p],_,h2,_=>rw [sizeL,sizeL] at h2;exact h2
 | p::q::l,_,_,h3 =>
  show sizeB (.node k [] [] 0 (p::q::l))≤n
  have:=h3 (by simp);rw [sizeB];omega
theorem chk_size {p q:Pd} {i j:Nat} (h:chk p i=.ok (q,j)):q=p∧j=i:=by
 unfold chk at h
 split at h
 ·injection h with h;injection h with h h';exact ⟨h.symm,h'.symm⟩
 ·cases h
theorem most_size (a b:Sm) (n:Int):sizeB (mostB a b n)=1:=by unfold mostB;rw [sizeB,sizeL]
theorem compare_size {a:Sm} {i j:Nat} {p:Pd} (h:compareP ts a i=.ok (p,j)):i+2≤j∧sizeB p≤3:=by
 unfold compareP at h
 split at h
 ·cases h
 ·next s hs =>
  obtain ⟨b,j1,hb,h⟩:=bnd_ok h;have:=sum_next hb;obtain ⟨rfl,rfl⟩:=chk_size h;have hm:=List.mem_of_find?_eq_some hs;simp only [signOf,List.mem_cons,List.not_mem_nil,or_false] at hm;refine ⟨by omega,?_⟩
  rcases hm with rfl|rfl|rfl|rfl|rfl|rfl <;> simp [sizeB,sizeL,most_size]
theorem range_size {a:Sm}:Lean3 (rangeP ts a):=by
 intro i p j h
 unfold rangeP at h
 obtain ⟨m,j1,h1,h⟩:=bnd_ok h;obtain ⟨n,j2,h2,h⟩:=bnd_ok h;have:=number_next h1
 have h3:j1≤j2:=by
  split at h2
  ·have:=number_next h2;omega
  ·injection h2 with h2;injection h2 with _ h2;omega
 split at h
 ·cases h
 ·injection h with h;injection h with h h';subst h;subst h';refine ⟨by omega,?_⟩
  unfold inPd
  rw [sizeB,sizeL,sizeL,sizeL,most_size,most_size];omega
theorem member_size {a:Sm} {i j:Nat} {p:Pd} (h:memberP ts a i=.ok (p,j)):i+1≤j∧sizeB p≤3*(j - i):=by
 unfold memberP at h
 obtain ⟨_,j1,h1,h⟩:=bnd_ok h;obtain ⟨l,j2,hl,h⟩:=bnd_ok h;obtain ⟨_,j3,h3,h⟩:=bnd_ok h;obtain ⟨rfl,rfl⟩:=chk_size h;obtain ⟨s1,s2,s3,s4⟩:=sep_size range_size _ _ _ _ _ hl;have:=take_next h1;have:=take_next h3;rw [sizeL] at s2 s4;refine ⟨by omega,one_size (by simpa using s3) (by omega) fun hh=>?_⟩;have:=s4 (by simpa using hh);omega
variable {u:Nat→Res Pd}
theorem all_size (hu:Lean3 u):Lean3 (allP ts u):=by
 intro i p j h
 unfold allP at h
 obtain ⟨l,j1,hl,h⟩:=bnd_ok h;injection h with h;injection h with h h';subst h;subst h';obtain ⟨s1,s2,s3,s4⟩:=sep_size hu _ _ _ _ _ hl;rw [sizeL] at s2 s4;refine ⟨by omega,one_size (by simpa using s3) (by omega) fun hh=>?_⟩;have:=s4 (by simpa using hh);omega
theorem some_size (hu:Lean3 u):Lean3 (someP ts u):=by
 intro i p j h
 unfold someP at h
 obtain ⟨l,j1,hl,h⟩:=bnd_ok h;injection h with h;injection h with h h';subst h;subst h';obtain ⟨s1,s2,s3,s4⟩:=sep_size (all_size hu) _ _ _ _ _ hl;rw [sizeL] at s2 s4;refine ⟨by omega,one_size (by simpa using s3) (by omega) fun hh=>?_⟩;have:=s4 (by simpa using hh);omega
theorem least_size (hu:Lean3 u):Lean3 (leastP ts u):=by
 intro i p j h
 unfold leastP at h
 obtain ⟨_,j1,h1,h⟩:=bnd_ok h;obtain ⟨c,j2,h2,h⟩:=bnd_ok h;obtain ⟨_,j3,h3,h⟩:=bnd_ok h;obtain ⟨_,j4,h4,h⟩:=bnd_ok h;obtain ⟨l,j5,hl,h⟩:=bnd_ok h;obtain ⟨_,j6,h6,h⟩:=bnd_ok h;obtain ⟨s1,s2,s3,s4⟩:=sep_size (some_size hu) _ _ _ _ _ hl;have:=take_next h1;have:=number_next h2;have:=take_next h3;have:=take_next h4;have:=take_next h6
 split at h
 ·cases h
 ·injection h with h;injection h with h h';subst h;subst h';rw [sizeL] at s2;rw [sizeB];omega
theorem unit_size:∀ f:Nat,Lean3 (unitP ts f)
 | 0=>by intro i p j h;simp [unitP] at h
 | f+1=>by
  intro i p j h;have ih:=unit_size f;rw [unitP] at h
  split at h
  ·obtain ⟨q,j1,hq,h⟩:=bnd_ok h;injection h with h;injection h with h h';subst h;have:=ih _ _ _ hq;have:=size_neg q;omega
  ·split at h
   ·obtain ⟨q,j1,hq,h⟩:=bnd_ok h;obtain ⟨_,j2,h2,h⟩:=bnd_ok h;injection h with h;injection h with h h';subst h;have:=some_size ih _ _ _ hq;have:=take_next h2;omega
   ·split at h
    ·have:=least_size ih _ _ _ h;omega
    ·obtain ⟨a,j1,ha,h⟩:=bnd_ok h;have:=sum_next ha
     split at h
     ·have:=member_size h;omega
     ·have:=compare_size h;omega
end
end Go.Proofs.YtpcmamoomaddoaaGreatDoor
