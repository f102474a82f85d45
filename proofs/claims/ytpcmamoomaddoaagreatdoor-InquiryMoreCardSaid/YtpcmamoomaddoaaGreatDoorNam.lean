import Derived.Test.YtpcmamoomaddoaaGreatDoorSiz
set_option maxRecDepth 100000
set_option maxHeartbeats 32000000
namespace Go.Proofs.YtpcmamoomaddoaaGreatDoor
open Go.RowKit
open Go.Proofs.Tryz
open Lib(hid)
mutual
/-- no name is long -/
def ct:Pd->Bool
 | .node _ l r _ ks=>decide (l.length<=1000)&&decide (r.length<=1000)&&ez ks
def ez:List Pd->Bool
 | []=>true
 |p::l=>ct p&&ez l
end
theorem eV:∀l:List Pd,ez l=true↔∀p∈l,ct p=true
 | []=>by simp[ez]
 |p::l=>by simp[ez,eV l]
theorem oG{s:Bs}(h:cn s=true):s.length<=20:=by
 unfold cn cE at h
 simp only[Bool.and_eq_true,decide_eq_true_eq]at h;exact h.1.1.2
theorem gk{s:Bs}(h:aG s=true):s.length<=41:=by
 unfold aG at h
 split at h
 ·cases h
 ·next a b hc =>
  rw[Bool.and_eq_true]at h;have h1:=oG h.1;have h2:=oG h.2
  unfold cutB at hc
  split at hc
  ·injection hc with hc;injection hc with e1 e2;rw[<-e2,List.length_drop]at h2;rw[<-e1]at h1;omega
  ·cases hc
theorem lN{s:Bs}(h:aR s=true):s.length<=41:=by
 unfold aR at h
 rw[Bool.or_eq_true]at h
 rcases h with h|h
 ·rw[List.isEmpty_iff]at h;subst h;simp
 ·exact gk h
mutual
theorem cj:∀p:Pd,formedB p=true->ct p=true
 | .node k l r c ks=>by
  intro h;rw[formedB]at h;rw[ct]
  split at h
  ·simp only[Bool.and_eq_true,List.isEmpty_iff]at h;obtain⟨⟨⟨rfl,h1⟩,h2⟩,_⟩:=h;have:=lN h1;have:=lN h2
   simp[ez]
   omega
  ·split at h
   ·simp only[Bool.and_eq_true,List.isEmpty_iff]at h;obtain⟨⟨⟨_,rfl⟩,rfl⟩,h⟩:=h
    simp[eB ks h]
   ·split at h
    ·simp only[Bool.and_eq_true,List.isEmpty_iff]at h;obtain⟨⟨⟨_,rfl⟩,rfl⟩,h⟩:=h
     simp[eB ks h]
    ·cases h
theorem eB:∀l:List Pd,bS l=true->ez l=true
 | []=>fun _=>rfl
 |p::l=>by
  intro h;rw[bS,Bool.and_eq_true]at h;rw[ez,cj p h.1,eB l h.2]
  rfl
end
theorem lh{B:Nat}(l r:Bs)(cc:Int)(ka:Option Addr)(kn kc:Nat)(w:World)(hkn:kn<=9223372036854775807)(hl:l.length<=1000)(hr:r.length<=1000)(hE:EnvB B w) :
  Calls prog 123 #[.agg #[.int .i64 0,.string ⟨l.toArray⟩,.string ⟨r.toArray⟩,.int .i64 cc,.slice ka kn kc]] w fun e w'=>e=.returned (.bool (decide (kn=0)&&aR l&&aR r&&dt cc))/\Kept [] w w':=by
 obtain⟨W,z⟩:∃W,w.alloc (.cells #[.int .i64 0,.string ⟨l.toArray⟩,.string ⟨r.toArray⟩,.int .i64 cc,.slice ka kn kc] 46)=W:=⟨_,rfl⟩;have o:Kept [] w W:=z▸(Kept.refl _ _).alloc _;have q:Blk W w.heap.size 46 #[.int .i64 0,.string ⟨l.toArray⟩,.string ⟨r.toArray⟩,.int .i64 cc,.slice ka kn kc]:=z▸Blk.new _ _ _;have V:W.cell? ⟨w.heap.size,0,none⟩=some (.int .i64 0):=q.cell 0;have U:W.cell? ⟨w.heap.size,1,none⟩=some (.string ⟨l.toArray⟩):=q.cell 1;have T:W.cell? ⟨w.heap.size,2,none⟩=some (.string ⟨r.toArray⟩):=q.cell 2;have R:W.cell? ⟨w.heap.size,3,none⟩=some (.int .i64 cc):=q.cell 3;have Q:W.cell? ⟨w.heap.size,4,none⟩=some (.slice ka kn kc):=q.cell 4;have p:∀(s:Bs),s.length<=1000->∀w',Kept [] W w'->Calls prog 161 #[.string ⟨s.toArray⟩] w' fun e w2=>e=.returned (.bool (aR s))/\Kept [] w' w2:=fun s hs w' k=>sI s w' (by omega) (hE.kept0 (o.trans k));obtain⟨P,y⟩:∃b,aR l=b:=⟨_,rfl⟩;obtain⟨O,x⟩:∃b,aR r=b:=⟨_,rfl⟩;have u:=hid (p l hl);have t:=hid (p r hr);have m:=hid q;have v:=hid o;have j:=hid z;rw[y]at u ⊢;rw[x]at t ⊢;clear z o q p hE y x hl hr
 by_cases hn0:kn=0
 ·subst hn0;simp only[decide_true,Bool.true_and]
  cases P
  ·simp only[Bool.false_and]
   go_enter func123,ntmps123
   go_upto_region 1 with(fail);have hW':=j.out;rw[hW'];clear hW' j;go_wp2_with (first|(go_at_call 161;(with_reducible refine(u.out W (Kept.refl _ _)).mono ?_);(rintro e d ⟨rfl,i⟩;have c:=m.out.kept i (by simp);have M:d.cell? ⟨w.heap.size,0,none⟩=some (.int .i64 0):=c.cell 0;have L:d.cell? ⟨w.heap.size,1,none⟩=some (.string ⟨l.toArray⟩):=c.cell 1;have J:d.cell? ⟨w.heap.size,2,none⟩=some (.string ⟨r.toArray⟩):=c.cell 2;have I:d.cell? ⟨w.heap.size,3,none⟩=some (.int .i64 cc):=c.cell 3;have G:d.cell? ⟨w.heap.size,4,none⟩=some (.slice ka 0 kc):=c.cell 4;have g:=hid i;clear i))|(go_at_call 161;refine(t.out d g.out).mono ?_;rintro e f ⟨rfl,h⟩;have a:=(m.out.kept g.out (by simp)).kept h (by simp);have F:f.cell? ⟨w.heap.size,0,none⟩=some (.int .i64 0):=a.cell 0;have E:f.cell? ⟨w.heap.size,1,none⟩=some (.string ⟨l.toArray⟩):=a.cell 1;have D:f.cell? ⟨w.heap.size,2,none⟩=some (.string ⟨r.toArray⟩):=a.cell 2;have C:f.cell? ⟨w.heap.size,3,none⟩=some (.int .i64 cc):=a.cell 3;have A:f.cell? ⟨w.heap.size,4,none⟩=some (.slice ka 0 kc):=a.cell 4;have n:=hid (g.out.trans h);clear h));go_ret;exact⟨rfl,v.out.trans g.out⟩
  ·cases O
   ·simp only[Bool.false_and,Bool.and_false]
    go_enter func123,ntmps123
    go_upto_region 1 with(fail);have hW':=j.out;rw[hW'];clear hW' j;go_wp2_with (first|(go_at_call 161;(with_reducible refine(u.out W (Kept.refl _ _)).mono ?_);(rintro e d ⟨rfl,i⟩;have c:=m.out.kept i (by simp);have M:d.cell? ⟨w.heap.size,0,none⟩=some (.int .i64 0):=c.cell 0;have L:d.cell? ⟨w.heap.size,1,none⟩=some (.string ⟨l.toArray⟩):=c.cell 1;have J:d.cell? ⟨w.heap.size,2,none⟩=some (.string ⟨r.toArray⟩):=c.cell 2;have I:d.cell? ⟨w.heap.size,3,none⟩=some (.int .i64 cc):=c.cell 3;have G:d.cell? ⟨w.heap.size,4,none⟩=some (.slice ka 0 kc):=c.cell 4;have g:=hid i;clear i))|(go_at_call 161;refine(t.out d g.out).mono ?_;rintro e f ⟨rfl,h⟩;have a:=(m.out.kept g.out (by simp)).kept h (by simp);have F:f.cell? ⟨w.heap.size,0,none⟩=some (.int .i64 0):=a.cell 0;have E:f.cell? ⟨w.heap.size,1,none⟩=some (.string ⟨l.toArray⟩):=a.cell 1;have D:f.cell? ⟨w.heap.size,2,none⟩=some (.string ⟨r.toArray⟩):=a.cell 2;have C:f.cell? ⟨w.heap.size,3,none⟩=some (.int .i64 cc):=a.cell 3;have A:f.cell? ⟨w.heap.size,4,none⟩=some (.slice ka 0 kc):=a.cell 4;have n:=hid (g.out.trans h);clear h));go_ret;exact⟨rfl,v.out.trans n.out⟩
   ·simp only[Bool.true_and]
    unfold dt
    by_cases h1:-1099511627776<=cc
    ·by_cases h2:cc < 1099511627776
     ·rw[decide_eq_true h1,decide_eq_true h2]
      go_enter func123,ntmps123
      go_upto_region 1 with(fail);have hW':=j.out;rw[hW'];clear hW' j;go_wp2_with (first|(go_at_call 161;(with_reducible refine(u.out W (Kept.refl _ _)).mono ?_);(rintro e d ⟨rfl,i⟩;have c:=m.out.kept i (by simp);have M:d.cell? ⟨w.heap.size,0,none⟩=some (.int .i64 0):=c.cell 0;have L:d.cell? ⟨w.heap.size,1,none⟩=some (.string ⟨l.toArray⟩):=c.cell 1;have J:d.cell? ⟨w.heap.size,2,none⟩=some (.string ⟨r.toArray⟩):=c.cell 2;have I:d.cell? ⟨w.heap.size,3,none⟩=some (.int .i64 cc):=c.cell 3;have G:d.cell? ⟨w.heap.size,4,none⟩=some (.slice ka 0 kc):=c.cell 4;have g:=hid i;clear i))|(go_at_call 161;refine(t.out d g.out).mono ?_;rintro e f ⟨rfl,h⟩;have a:=(m.out.kept g.out (by simp)).kept h (by simp);have F:f.cell? ⟨w.heap.size,0,none⟩=some (.int .i64 0):=a.cell 0;have E:f.cell? ⟨w.heap.size,1,none⟩=some (.string ⟨l.toArray⟩):=a.cell 1;have D:f.cell? ⟨w.heap.size,2,none⟩=some (.string ⟨r.toArray⟩):=a.cell 2;have C:f.cell? ⟨w.heap.size,3,none⟩=some (.int .i64 cc):=a.cell 3;have A:f.cell? ⟨w.heap.size,4,none⟩=some (.slice ka 0 kc):=a.cell 4;have n:=hid (g.out.trans h);clear h));go_ret;exact⟨rfl,v.out.trans n.out⟩
     ·have h2':1099511627776<=cc:=by omega
      rw[decide_eq_true h1,decide_eq_false h2]
      go_enter func123,ntmps123
      go_upto_region 1 with(fail);have hW':=j.out;rw[hW'];clear hW' j;go_wp2_with (first|(go_at_call 161;(with_reducible refine(u.out W (Kept.refl _ _)).mono ?_);(rintro e d ⟨rfl,i⟩;have c:=m.out.kept i (by simp);have M:d.cell? ⟨w.heap.size,0,none⟩=some (.int .i64 0):=c.cell 0;have L:d.cell? ⟨w.heap.size,1,none⟩=some (.string ⟨l.toArray⟩):=c.cell 1;have J:d.cell? ⟨w.heap.size,2,none⟩=some (.string ⟨r.toArray⟩):=c.cell 2;have I:d.cell? ⟨w.heap.size,3,none⟩=some (.int .i64 cc):=c.cell 3;have G:d.cell? ⟨w.heap.size,4,none⟩=some (.slice ka 0 kc):=c.cell 4;have g:=hid i;clear i))|(go_at_call 161;refine(t.out d g.out).mono ?_;rintro e f ⟨rfl,h⟩;have a:=(m.out.kept g.out (by simp)).kept h (by simp);have F:f.cell? ⟨w.heap.size,0,none⟩=some (.int .i64 0):=a.cell 0;have E:f.cell? ⟨w.heap.size,1,none⟩=some (.string ⟨l.toArray⟩):=a.cell 1;have D:f.cell? ⟨w.heap.size,2,none⟩=some (.string ⟨r.toArray⟩):=a.cell 2;have C:f.cell? ⟨w.heap.size,3,none⟩=some (.int .i64 cc):=a.cell 3;have A:f.cell? ⟨w.heap.size,4,none⟩=some (.slice ka 0 kc):=a.cell 4;have n:=hid (g.out.trans h);clear h));go_ret;exact⟨by simp[h2'],v.out.trans n.out⟩
    ·have h1':cc < -1099511627776:=by omega
     rw[decide_eq_false h1];simp only[Bool.false_and]
     go_enter func123,ntmps123
     go_upto_region 1 with(fail);have hW':=j.out;rw[hW'];clear hW' j;go_wp2_with (first|(go_at_call 161;(with_reducible refine(u.out W (Kept.refl _ _)).mono ?_);(rintro e d ⟨rfl,i⟩;have c:=m.out.kept i (by simp);have M:d.cell? ⟨w.heap.size,0,none⟩=some (.int .i64 0):=c.cell 0;have L:d.cell? ⟨w.heap.size,1,none⟩=some (.string ⟨l.toArray⟩):=c.cell 1;have J:d.cell? ⟨w.heap.size,2,none⟩=some (.string ⟨r.toArray⟩):=c.cell 2;have I:d.cell? ⟨w.heap.size,3,none⟩=some (.int .i64 cc):=c.cell 3;have G:d.cell? ⟨w.heap.size,4,none⟩=some (.slice ka 0 kc):=c.cell 4;have g:=hid i;clear i))|(go_at_call 161;refine(t.out d g.out).mono ?_;rintro e f ⟨rfl,h⟩;have a:=(m.out.kept g.out (by simp)).kept h (by simp);have F:f.cell? ⟨w.heap.size,0,none⟩=some (.int .i64 0):=a.cell 0;have E:f.cell? ⟨w.heap.size,1,none⟩=some (.string ⟨l.toArray⟩):=a.cell 1;have D:f.cell? ⟨w.heap.size,2,none⟩=some (.string ⟨r.toArray⟩):=a.cell 2;have C:f.cell? ⟨w.heap.size,3,none⟩=some (.int .i64 cc):=a.cell 3;have A:f.cell? ⟨w.heap.size,4,none⟩=some (.slice ka 0 kc):=a.cell 4;have n:=hid (g.out.trans h);clear h));go_ret;exact⟨rfl,v.out.trans n.out⟩
 ·have N:((kn:Int)==0)=false:=by simpa using hn0
  rw[decide_eq_false hn0];simp only[Bool.false_and]
  go_enter func123,ntmps123
  go_upto_region 1 with(fail);have hW':=j.out;rw[hW'];clear hW' j;go_wp2_with fail;go_ret;exact⟨rfl,v.out⟩
theorem ep:∀l:List Pd,bS l=!(l.any fun q=>!formedB q)
 | []=>rfl
 |p::l=>by rw[bS,List.any_cons,ep l];cases formedB p <;> simp
theorem qC{B:Nat}:∀(m:Nat) (p:Pd) (cs:List Value) (w:World),sizeB p<=m->ct p=true->PdR w cs p->EnvB B w ->
  Calls prog 75 #[.agg cs.toArray] w fun e w'=>e=.returned (.bool (formedB p))/\Kept [] w w':=by
 intro m
 induction m with
 |zero=>intro p cs w hm;cases p;rw[sizeB]at hm;omega
 |succ m ih =>
  rintro⟨v,l,r,j,D⟩ cs w hm U hp hE;obtain⟨R,Q,rfl,u⟩:=hp.rows;rw[sizeB]at hm;rw[ct]at U;simp only[Bool.and_eq_true,decide_eq_true_eq]at U;obtain⟨⟨hl,hr⟩,a4⟩:=U;obtain⟨_,_,a6,a1,_⟩:=u.form;clear a6
  -- the closure on a kid
  have T:∀q∈D,∀cq w',Kept [] w w'->PdR w' cq q->Calls prog 124 #[.agg cq.toArray] w' fun e w2=>e=.returned (.bool (!formedB q))/\Kept [] w' w2:=by
   intro q hq cq w' k V
   have a5:sizeB q<=m:=by have:=bh hq;omega
   have a0:=(eV D).1 a4 q hq;obtain⟨qk,Z,Y,qc,C⟩:=q;obtain⟨qa,I,rfl,_⟩:=V.rows;obtain⟨W,L⟩:∃W,w'.alloc (.cells #[.int .i64 qk,.string ⟨Z.toArray⟩,.string ⟨Y.toArray⟩,.int .i64 qc,.slice qa C.length I] 46)=W:=⟨_,rfl⟩;have h:Kept [] w' W:=L▸(Kept.refl _ _).alloc _;have z:Blk W w'.heap.size 46 #[.int .i64 qk,.string ⟨Z.toArray⟩,.string ⟨Y.toArray⟩,.int .i64 qc,.slice qa C.length I]:=L▸Blk.new _ _ _;have c0:W.cell? ⟨w'.heap.size,0,none⟩=some (.int .i64 qk):=z.cell 0;have c1:W.cell? ⟨w'.heap.size,1,none⟩=some (.string ⟨Z.toArray⟩):=z.cell 1;have c2:W.cell? ⟨w'.heap.size,2,none⟩=some (.string ⟨Y.toArray⟩):=z.cell 2;have c3:W.cell? ⟨w'.heap.size,3,none⟩=some (.int .i64 qc):=z.cell 3;have c4:W.cell? ⟨w'.heap.size,4,none⟩=some (.slice qa C.length I):=z.cell 4;have IH:=hid (ih _ _ W a5 a0 (PdR.kept h V) (hE.kept0 (k.trans h)));have n:=hid h;have c:=hid L;obtain⟨b,hb⟩:∃b,formedB (.node qk Z Y qc C)=b:=⟨_,rfl⟩;rw[hb]at IH ⊢;clear L h z V a0 hb k u hp ih
   show Calls _ _ #[.agg #[.int .i64 qk,.string ⟨Z.toArray⟩,.string ⟨Y.toArray⟩,.int .i64 qc,.slice qa C.length I]] _ _
   go_enter func124,ntmps124
   go_upto_region 1 with(fail);have hW':=c.out;rw[hW'];clear hW' c;go_wp2_with (go_at_call 75;refine IH.out.mono ?_;rintro e w5 ⟨rfl,J⟩);go_ret;exact⟨rfl,n.out.trans J⟩
  obtain⟨d,y⟩:∃d,D.length=d:=⟨_,rfl⟩;rw[y]at a1;obtain⟨W,L⟩:∃W,w.alloc (.cells #[.int .i64 v,.string ⟨l.toArray⟩,.string ⟨r.toArray⟩,.int .i64 j,.slice R d Q] 46)=W:=⟨_,rfl⟩;have h:Kept [] w W:=L▸(Kept.refl _ _).alloc _;have z:Blk W w.heap.size 46 #[.int .i64 v,.string ⟨l.toArray⟩,.string ⟨r.toArray⟩,.int .i64 j,.slice R d Q]:=L▸Blk.new _ _ _;have c0:W.cell? ⟨w.heap.size,0,none⟩=some (.int .i64 v):=z.cell 0;have c1:W.cell? ⟨w.heap.size,1,none⟩=some (.string ⟨l.toArray⟩):=z.cell 1;have c2:W.cell? ⟨w.heap.size,2,none⟩=some (.string ⟨r.toArray⟩):=z.cell 2;have c3:W.cell? ⟨w.heap.size,3,none⟩=some (.int .i64 j):=z.cell 3;have c4:W.cell? ⟨w.heap.size,4,none⟩=some (.slice R d Q):=z.cell 4
  have E:aj PdR 5 W (.slice R d Q) D:=by
   rw[<-y];exact u.kept (fun _ _ x=>PdR.kept h x) h
  have a3:Calls prog 52 #[.slice R d Q,.func (.func 124) #[] #[]] W fun e w'=>e=.returned (.bool (D.any fun q=>!formedB q))/\Kept [] W w' :=
   oI (fun q=>!formedB q) E fun a ha cs w' k hR=>T a ha cs w' (h.trans k) hR
  have X:=hid (fun(h0:v=0)=>lh l r j R d Q W a1 hl hr (hE.kept0 h));have A:=hid a3;have n:=hid h;have c:=hid L;rw[formedB,y]
  show Calls prog 75 #[.agg #[.int .i64 v,.string ⟨l.toArray⟩,.string ⟨r.toArray⟩,.int .i64 j,.slice R d Q]] w _
  clear L h z a3 T u E hp ih hl hr
  by_cases h0:v=0
  ·subst h0;have HV:Hid (Calls prog 123 #[.agg #[.int .i64 0,.string ⟨l.toArray⟩,.string ⟨r.toArray⟩,.int .i64 j,.slice R d Q]] W fun e w'=>e=.returned (.bool (decide (d=0)&&aR l&&aR r&&dt j))/\Kept [] W w'):=hid (X.out rfl)
   have he:decide (d=0)=D.isEmpty:=by
    cases D with
    |nil=>simp at y;subst y;rfl
    |cons x t=>simp at y;simp;omega
   rw[he]at HV;rw[if_pos rfl];obtain⟨bb,i⟩:∃b,(D.isEmpty&&aR l&&aR r&&dt j)=b:=⟨_,rfl⟩;rw[i]at HV ⊢;clear X he i
   go_enter func75,ntmps75
   go_upto_region 1 with(fail);have hW':=c.out;rw[hW'];clear hW' c;go_wp2_with (go_at_call 123;refine HV.out.mono ?_;rintro e w5 ⟨rfl,J⟩);go_ret;exact⟨rfl,n.out.trans J⟩
  ·rw[if_neg h0];clear X
   by_cases h1:v=1
   ·subst h1;rw[if_pos (Or.inl rfl)]
    by_cases hn2:d < 2
    ·have hn2':(d:Int) < 2:=by omega
     rw[decide_eq_false (show ¬2<=d by omega)];simp only[Bool.false_and]
     go_enter func75,ntmps75
     go_upto_region 1 with(fail);have hW':=c.out;rw[hW'];clear hW' c;go_wp2_with fail;go_ret;exact⟨rfl,n.out⟩
    ·have hn2':¬(d:Int) < 2:=by omega
     by_cases hcz:j=0
     ·subst hcz
      rcases l with _|⟨P,O⟩
      ·rcases r with _|⟨N,M⟩
       ·rw[decide_eq_true (show 2<=d by omega),decide_eq_true (rfl:(0:Int)=0)];simp only[List.isEmpty_nil,Bool.true_and,Bool.and_true];rw[ep];obtain⟨bb,i⟩:∃b,(D.any fun q=>!formedB q)=b:=⟨_,rfl⟩;rw[i]at A ⊢;clear i
        go_enter func75,ntmps75
        go_upto_region 1 with(fail);have hW':=c.out;rw[hW'];clear hW' c;go_wp2_with (go_at_call 52;refine A.out.mono ?_;rintro e w5 ⟨rfl,J⟩);go_ret;exact⟨rfl,n.out.trans J⟩
       ·rw[decide_eq_true (show 2<=d by omega),decide_eq_true (rfl:(0:Int)=0)];have F:((N::M:Bs)==[])=false:=rfl;obtain⟨r,f⟩:∃r,N::M=r:=⟨_,rfl⟩
        have o:r.isEmpty=false:=by rw[<-f];rfl
        rw[f]at F c2 c ⊢;rw[o];simp only[Bool.and_false,Bool.false_and];clear f o
        go_enter func75,ntmps75
        go_upto_region 1 with(fail);have hW':=c.out;rw[hW'];clear hW' c;go_wp2_with fail;go_ret;exact⟨rfl,n.out⟩
      ·rw[decide_eq_true (show 2<=d by omega),decide_eq_true (rfl:(0:Int)=0)];have G:((P::O:Bs)==[])=false:=rfl;obtain⟨l,g⟩:∃l,P::O=l:=⟨_,rfl⟩
       have s:l.isEmpty=false:=by rw[<-g];rfl
       rw[g]at G c1 c ⊢;rw[s];simp only[Bool.and_false,Bool.false_and];clear g s
       go_enter func75,ntmps75
       go_upto_region 1 with(fail);have hW':=c.out;rw[hW'];clear hW' c;go_wp2_with fail;go_ret;exact⟨rfl,n.out⟩
     ·have a2:(j != 0)=true:=by simpa using hcz
      rw[decide_eq_false hcz];simp only[Bool.false_and,Bool.and_false]
      go_enter func75,ntmps75
      go_upto_region 1 with(fail);have hW':=c.out;rw[hW'];clear hW' c;go_wp2_with fail;go_ret;exact⟨rfl,n.out⟩
   ·by_cases h2:v=2
    ·subst h2;rw[if_pos (Or.inr rfl)]
     by_cases hn2:d < 2
     ·have hn2':(d:Int) < 2:=by omega
      rw[decide_eq_false (show ¬2<=d by omega)];simp only[Bool.false_and]
      go_enter func75,ntmps75
      go_upto_region 1 with(fail);have hW':=c.out;rw[hW'];clear hW' c;go_wp2_with fail;go_ret;exact⟨rfl,n.out⟩
     ·have hn2':¬(d:Int) < 2:=by omega
      by_cases hcz:j=0
      ·subst hcz
       rcases l with _|⟨P,O⟩
       ·rcases r with _|⟨N,M⟩
        ·rw[decide_eq_true (show 2<=d by omega),decide_eq_true (rfl:(0:Int)=0)];simp only[List.isEmpty_nil,Bool.true_and,Bool.and_true];rw[ep];obtain⟨bb,i⟩:∃b,(D.any fun q=>!formedB q)=b:=⟨_,rfl⟩;rw[i]at A ⊢;clear i
         go_enter func75,ntmps75
         go_upto_region 1 with(fail);have hW':=c.out;rw[hW'];clear hW' c;go_wp2_with (go_at_call 52;refine A.out.mono ?_;rintro e w5 ⟨rfl,J⟩);go_ret;exact⟨rfl,n.out.trans J⟩
        ·rw[decide_eq_true (show 2<=d by omega),decide_eq_true (rfl:(0:Int)=0)];have F:((N::M:Bs)==[])=false:=rfl;obtain⟨r,f⟩:∃r,N::M=r:=⟨_,rfl⟩
         have o:r.isEmpty=false:=by rw[<-f];rfl
         rw[f]at F c2 c ⊢;rw[o];simp only[Bool.and_false,Bool.false_and];clear f o
         go_enter func75,ntmps75
         go_upto_region 1 with(fail);have hW':=c.out;rw[hW'];clear hW' c;go_wp2_with fail;go_ret;exact⟨rfl,n.out⟩
       ·rw[decide_eq_true (show 2<=d by omega),decide_eq_true (rfl:(0:Int)=0)];have G:((P::O:Bs)==[])=false:=rfl;obtain⟨l,g⟩:∃l,P::O=l:=⟨_,rfl⟩
        have s:l.isEmpty=false:=by rw[<-g];rfl
        rw[g]at G c1 c ⊢;rw[s];simp only[Bool.and_false,Bool.false_and];clear g s
        go_enter func75,ntmps75
        go_upto_region 1 with(fail);have hW':=c.out;rw[hW'];clear hW' c;go_wp2_with fail;go_ret;exact⟨rfl,n.out⟩
      ·have a2:(j != 0)=true:=by simpa using hcz
       rw[decide_eq_false hcz];simp only[Bool.false_and,Bool.and_false]
       go_enter func75,ntmps75
       go_upto_region 1 with(fail);have hW':=c.out;rw[hW'];clear hW' c;go_wp2_with fail;go_ret;exact⟨rfl,n.out⟩
    ·rw[if_neg (by omega)]
     by_cases h3:v=3
     ·subst h3;rw[if_pos rfl]
      by_cases hc1:j < 1
      ·rw[decide_eq_false (show ¬1<=j by omega)];simp only[Bool.false_and]
       go_enter func75,ntmps75
       go_upto_region 1 with(fail);have hW':=c.out;rw[hW'];clear hW' c;go_wp2_with fail;go_ret;exact⟨rfl,n.out⟩
      ·by_cases hc2:(d:Int) < j
       ·rw[decide_eq_false (show ¬j<=(d:Int)by omega)];simp only[Bool.false_and,Bool.and_false]
        go_enter func75,ntmps75
        go_upto_region 1 with(fail);have hW':=c.out;rw[hW'];clear hW' c;go_wp2_with fail;go_ret;exact⟨rfl,n.out⟩
       ·have a7:¬j > (d:Int):=by omega
        rcases l with _|⟨P,O⟩
        ·rcases r with _|⟨N,M⟩
         ·rw[decide_eq_true (show j<=(d:Int)by omega),decide_eq_true (show 1<=j by omega)];simp only[List.isEmpty_nil,Bool.true_and,Bool.and_true];rw[ep];obtain⟨bb,i⟩:∃b,(D.any fun q=>!formedB q)=b:=⟨_,rfl⟩;rw[i]at A ⊢;clear i
          go_enter func75,ntmps75
          go_upto_region 1 with(fail);have hW':=c.out;rw[hW'];clear hW' c;go_wp2_with (go_at_call 52;refine A.out.mono ?_;rintro e w5 ⟨rfl,J⟩);go_ret;exact⟨rfl,n.out.trans J⟩
         ·rw[decide_eq_true (show j<=(d:Int)by omega),decide_eq_true (show 1<=j by omega)];have F:((N::M:Bs)==[])=false:=rfl;obtain⟨r,f⟩:∃r,N::M=r:=⟨_,rfl⟩
          have o:r.isEmpty=false:=by rw[<-f];rfl
          rw[f]at F c2 c ⊢;rw[o];simp only[Bool.and_false,Bool.false_and];clear f o
          go_enter func75,ntmps75
          go_upto_region 1 with(fail);have hW':=c.out;rw[hW'];clear hW' c;go_wp2_with fail;go_ret;exact⟨rfl,n.out⟩
        ·rw[decide_eq_true (show j<=(d:Int)by omega),decide_eq_true (show 1<=j by omega)];have G:((P::O:Bs)==[])=false:=rfl;obtain⟨l,g⟩:∃l,P::O=l:=⟨_,rfl⟩
         have s:l.isEmpty=false:=by rw[<-g];rfl
         rw[g]at G c1 c ⊢;rw[s];simp only[Bool.and_false,Bool.false_and];clear g s
         go_enter func75,ntmps75
         go_upto_region 1 with(fail);have hW':=c.out;rw[hW'];clear hW' c;go_wp2_with fail;go_ret;exact⟨rfl,n.out⟩
     ·rw[if_neg h3]
      have b0:(v==0)=false:=by simpa using h0
      have b1:(v==1)=false:=by simpa using h1
      have b2:(v==2)=false:=by simpa using h2
      have b3:(v==3)=false:=by simpa using h3
      go_enter func75,ntmps75
      go_upto_region 1 with(fail);have hW':=c.out;rw[hW'];clear hW' c;go_wp2_with fail;go_ret;exact⟨rfl,n.out⟩
theorem cA{B:Nat}{w:World}{p:Pd}{cs:List Value}(hp:PdR w cs p)(hsh:ct p=true)(hE:EnvB B w) :
  Calls prog 33 #[.agg cs.toArray] w fun e w'=>e=.returned (.bool (aP p))/\Kept [] w w':=by
 obtain⟨g,l,r,j,u⟩:=p;obtain⟨n,m,rfl,_⟩:=hp.rows;obtain⟨f,q⟩:∃f,u.length=f:=⟨_,rfl⟩;obtain⟨W,s⟩:∃W,w.alloc (.cells #[.int .i64 g,.string ⟨l.toArray⟩,.string ⟨r.toArray⟩,.int .i64 j,.slice n f m] 46)=W:=⟨_,rfl⟩;rw[q]at hp ⊢;have c:Kept [] w W:=s▸(Kept.refl _ _).alloc _;have i:Blk W w.heap.size 46 #[.int .i64 g,.string ⟨l.toArray⟩,.string ⟨r.toArray⟩,.int .i64 j,.slice n f m]:=s▸Blk.new _ _ _;have T:W.cell? ⟨w.heap.size,0,none⟩=some (.int .i64 g):=i.cell 0;have R:W.cell? ⟨w.heap.size,1,none⟩=some (.string ⟨l.toArray⟩):=i.cell 1;have Q:W.cell? ⟨w.heap.size,2,none⟩=some (.string ⟨r.toArray⟩):=i.cell 2;have P:W.cell? ⟨w.heap.size,3,none⟩=some (.int .i64 j):=i.cell 3;have O:W.cell? ⟨w.heap.size,4,none⟩=some (.slice n f m):=i.cell 4;have h:=PdR.kept c hp;have v:=hid (lB h);have C:=hid (fun w' (k:Kept [] W w')=>qC _ _ _ w' (Nat.le_refl _) hsh (PdR.kept k h) (hE.kept0 (c.trans k)));have F:=hid i;have A:=hid c;have t:=hid s
 unfold aP
 obtain⟨E,y⟩:∃b,dG (.node g l r j u)=b:=⟨_,rfl⟩;obtain⟨U,x⟩:∃b,formedB (.node g l r j u)=b:=⟨_,rfl⟩;rw[y]at v ⊢;rw[x]at C ⊢;clear s c i hp h hE hsh y x q
 show Calls _ _ #[.agg #[.int .i64 g,.string ⟨l.toArray⟩,.string ⟨r.toArray⟩,.int .i64 j,.slice n f m]] _ _
 cases E
 ·go_enter func33,ntmps33
  go_upto_region 1 with(fail);have hW':=t.out;rw[hW'];clear hW' t;go_wp2_with (go_at_call 73;refine v.out.mono ?_;rintro e d ⟨rfl,o⟩);go_ret;exact⟨rfl,A.out.trans o⟩
 ·go_enter func33,ntmps33
  go_upto_region 1 with(fail);have hW':=t.out;rw[hW'];clear hW' t;go_wp2_with (first|(go_at_call 73;refine v.out.mono ?_;rintro e d ⟨rfl,o⟩;have a:=F.out.kept o (by simp);have N:d.cell? ⟨w.heap.size,0,none⟩=some (.int .i64 g):=a.cell 0;have M:d.cell? ⟨w.heap.size,1,none⟩=some (.string ⟨l.toArray⟩):=a.cell 1;have L:d.cell? ⟨w.heap.size,2,none⟩=some (.string ⟨r.toArray⟩):=a.cell 2;have J:d.cell? ⟨w.heap.size,3,none⟩=some (.int .i64 j):=a.cell 3;have I:d.cell? ⟨w.heap.size,4,none⟩=some (.slice n f m):=a.cell 4;have z:=hid o;clear o a)|(go_at_call 75;refine(C.out d z.out).mono ?_;rintro e G ⟨rfl,D⟩));go_ret;exact⟨rfl,(A.out.trans z.out).trans D⟩
theorem om{B:Nat}{w:World}{p:Pd}{cs:List Value}(hp:PdR w cs p)(hv:aP p=true)(hsz:sizeB p<=100000)(hE:EnvB B w) :
  Calls prog 32 #[.agg cs.toArray] w (qQ w (atomsB p)):=by
 have D:formedB p=true:=by unfold aP at hv;rw[Bool.and_eq_true]at hv;exact hv.2
 have x:=cj p D;obtain⟨A,E⟩:∃A,atomsB p=A:=⟨_,rfl⟩
 have i:∀(W:World) (g:Nat),Kept [] w W->Blk W g 46 cs.toArray->Calls prog 74 #[.slice (some ⟨g,0,none⟩) 1 1] W (qQ W A):=fun W g k hb=>by
  have O:aj PdR 5 W (.slice (some ⟨g,0,none⟩) 1 1) [p]:=⟨[cs],rfl,fun c hc=>by rw[List.mem_singleton]at hc;exact hc▸hp.len,fun j a ha=>by
   rcases j with _|j
   ·simp at ha;subst ha;exact⟨cs,rfl,PdR.kept k hp⟩
   ·simp at ha,by
    have:=al (size:=5) (n:=1) hb (by rw[hp.len]) (by decide)
    simpa using this⟩
  have:=sH O (fun q hq=>by rw[List.mem_singleton]at hq;exact hq▸D) (by simp[sizeL];omega);rw[show atomsL [p]=atomsB p by simp[atomsL],E]at this;exact this
 rw[E]
 have F:∀(W:World),Kept [] w W->Calls prog 33 #[.agg cs.toArray] W fun e w'=>e=.returned (.bool true)/\Kept [] W w':=fun W k=>by
  have:=cA (PdR.kept k hp) x (hE.kept0 k)
  rwa [hv]at this
 obtain⟨m,l,r,t,N⟩:=p;obtain⟨s,o,rfl,_⟩:=hp.rows;obtain⟨d,y⟩:∃d,N.length=d:=⟨_,rfl⟩;rw[y]at F i ⊢;clear y hp hv hE D x E hsz;obtain⟨W,z⟩:∃W,w.alloc (.cells #[.int .i64 m,.string ⟨l.toArray⟩,.string ⟨r.toArray⟩,.int .i64 t,.slice s d o] 46)=W:=⟨_,rfl⟩;have f:Kept [] w W:=z▸(Kept.refl _ _).alloc _;have h:Blk W w.heap.size 46 #[.int .i64 m,.string ⟨l.toArray⟩,.string ⟨r.toArray⟩,.int .i64 t,.slice s d o]:=z▸Blk.new _ _ _;have c0:W.cell? ⟨w.heap.size,0,none⟩=some (.int .i64 m):=h.cell 0;have c1:W.cell? ⟨w.heap.size,1,none⟩=some (.string ⟨l.toArray⟩):=h.cell 1;have c2:W.cell? ⟨w.heap.size,2,none⟩=some (.string ⟨r.toArray⟩):=h.cell 2;have c3:W.cell? ⟨w.heap.size,3,none⟩=some (.int .i64 t):=h.cell 3;have c4:W.cell? ⟨w.heap.size,4,none⟩=some (.slice s d o):=h.cell 4;have Y:=hid (F W f);have X:=hid i;have V:=hid h;have L:=hid f;have J:=hid z;clear z f h F i
 show Calls _ _ #[.agg #[.int .i64 m,.string ⟨l.toArray⟩,.string ⟨r.toArray⟩,.int .i64 t,.slice s d o]] _ _
 go_enter func32,ntmps32
 go_upto_region 1 with(fail);have hW':=J.out;rw[hW'];clear hW' J
 go_wp2_with (first
  |(go_at_call 33;refine Y.out.mono ?_;rintro e v ⟨rfl,C⟩;have b:=V.out.kept C (by simp);have d0:v.cell? ⟨w.heap.size,0,none⟩=some (.int .i64 m):=b.cell 0;have d1:v.cell? ⟨w.heap.size,1,none⟩=some (.string ⟨l.toArray⟩):=b.cell 1;have d2:v.cell? ⟨w.heap.size,2,none⟩=some (.string ⟨r.toArray⟩):=b.cell 2;have d3:v.cell? ⟨w.heap.size,3,none⟩=some (.int .i64 t):=b.cell 3;have d4:v.cell? ⟨w.heap.size,4,none⟩=some (.slice s d o):=b.cell 4;have I:=hid C;clear C b)
  |(go_at_call 74;refine(X.out _ _ ((L.out.trans I.out).alloc _) (Blk.new _ _ _)).mono ?_;rintro e Z ⟨u,M,rfl,U,T,R,Q,P⟩))
 go_ret;have G:=(L.out.trans I.out).alloc (.cells #[.int .i64 m,.string ⟨l.toArray⟩,.string ⟨r.toArray⟩,.int .i64 t,.slice s d o] 46);exact⟨u,M,rfl,U,T,R,ownsRow_base_a Q G.size,G.trans P⟩
end Go.Proofs.YtpcmamoomaddoaaGreatDoor
