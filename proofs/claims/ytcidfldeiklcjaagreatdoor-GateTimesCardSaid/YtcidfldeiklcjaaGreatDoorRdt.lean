import Derived.Test.YtcidfldeiklcjaaGreatDoorRgo
set_option maxRecDepth 100000
set_option maxHeartbeats 32000000
namespace Go.Proofs.YtcidfldeiklcjaaGreatDoor.Bf
variable {G:Gf} {n:Nat}
def SndW(G:Gf)(n:Nat)(D:Gf):Prop:=∀a b,a < n->b < n->D a b=far\/(D a b < far/\∃l,Walk G n a b l/\wt G l=D a b)
structure Dst (G:Gf) (n m:Nat) (B:Int) (D:Gf):Prop where
 snd:SndW G n D
 tri:∀k,k < m->∀a b,a < n->b < n->D a k < far->D k b < far->D a b<=D a k+D k b
 ed:∀a b,a < n->b < n->D a b<=G a b
 di:∀a,a < n->D a a<=0
 bd:∀a b,a < n->b < n->D a b=far\/(-B<=D a b/\D a b<=B)
structure Sta (G:Gf) (n m:Nat) (B:Int) (D0 D:Gf) (a b:Nat):Prop where
 snd:SndW G n D
 le:∀x y,x < n->y < n->D x y<=D0 x y
 todo:∀x y,(a < x\/(a=x/\b<=y))->D x y=D0 x y
 did:∀x y,x < n->y < n->(x < a\/(x=a/\y < b))->D0 x m < far->D0 m y < far->D x y<=D0 x m+D0 m y
 form:0<=D0 m m->∀x y,x < n->y < n->D x y=D0 x y\/(D0 x m < far/\D0 m y < far/\D x y=D0 x m+D0 m y)
 bmm:D m m=far\/(-(2*B)<=D m m/\D m m<=2*B)
 bm:∀x,x < n->(D x m=far\/(-(3*B)<=D x m/\D x m<=3*B))/\(D m x=far\/(-(3*B)<=D m x/\D m x<=3*B))
 bd:∀x y,x < n->y < n->D x y=far\/(-(6*B)<=D x y/\D x y<=6*B)
theorem qI{a b c:Nat}{l r:List Nat}(h1:Walk G n a b l)(h2:Walk G n b c r):∃q,Walk G n a c q/\wt G q=wt G l+wt G r:=by
 obtain⟨p,rfl⟩:=List.getLast?_eq_some_iff.1 h1.last;obtain⟨t,rfl⟩:=cI h2;obtain⟨h3,h4⟩:=jd h1 h2;exact⟨_,h3,h4⟩
variable {m:Nat} {B:Int} {D0 D:Gf} {a b:Nat}
theorem tu(hm:m < n)(h:Dst G n m B D0):Sta G n m B D0 D0 0 0 := ⟨h.snd,fun _ _ _ _=>Int.le_refl _,fun _ _ _=>rfl,fun x y _ _ hd=>by omega,fun _ x y _ _=>Or.inl rfl,by
  rcases h.bd m m hm hm with h1|h1
  ·exact Or.inl h1
  ·exact Or.inr (by omega),fun x hx=>⟨by
  rcases h.bd x m hx hm with h1|h1
  ·exact Or.inl h1
  ·exact Or.inr (by omega),by
  rcases h.bd m x hm hx with h1|h1
  ·exact Or.inl h1
  ·exact Or.inr (by omega)⟩,fun x y hx hy=>by
  rcases h.bd x y hx hy with h1|h1
  ·exact Or.inl h1
  ·exact Or.inr (by omega)⟩
theorem xU(h:Sta G n m B D0 D a n):Sta G n m B D0 D (a+1) 0 := ⟨h.snd,h.le,fun x y hd=>by
  by_cases e:x=a
  ·omega
  ·exact h.todo x y (by omega),fun x y hx hy hd=>h.did x y hx hy (by omega),h.form,h.bmm,h.bm,h.bd⟩
theorem pj(h:Sta G n m B D0 D a b)(ha:a < n)(hb:b < n)(hm:m < n)(hs:¬(D a m < far/\D m b < far)):Sta G n m B D0 D a (b+1) := ⟨h.snd,h.le,fun x y hd=>h.todo x y (by omega),fun x y hx hy hd h1 h2=>by
  by_cases e:x < a\/(x=a/\y < b)
  ·exact h.did x y hx hy e h1 h2
  ·obtain⟨rfl,rfl⟩:x=a/\y=b:=by omega
   have h3:=h.le x m hx hm;have h4:=h.le m y hm hy
   exact absurd ⟨by omega,by omega⟩ hs,h.form,h.bmm,h.bm,h.bd⟩
theorem uY(hBf:6*B < far)(h:Sta G n m B D0 D a b)(h0:Dst G n m B D0)(ha:a < n)(hb:b < n)(hm:m < n)(h1:D a m < far)(h2:D m b < far) :
  Sta G n m B D0 (fun x y=>if x=a/\y=b then min (D a b) (D a m+D m b)else D x y) a (b+1):=by
 have f:=(h.bm a ha).1;have d:=(h.bm b hb).2;have i:=h.bd a b ha hb
 have J:-(3*B)<=D a m/\D a m<=3*B:=by rcases f with e|e;omega;exact e
 have I:-(3*B)<=D m b/\D m b<=3*B:=by rcases d with e|e;omega;exact e
 have F:=h.le a m ha hm;have E:=h.le m b hm hb;have C:=h.le a b ha hb;refine⟨fun x y hx hy=>?_,fun x y hx hy=>?_,fun x y hd=>?_,fun x y hx hy hd g1 c=>?_,fun hmm x y hx hy=>?_,?_,fun x hx=>⟨?_,?_⟩,fun x y hx hy=>?_⟩
 ·by_cases e:x=a/\y=b
  ·simp only[if_pos e];obtain⟨rfl,rfl⟩:=e
   by_cases hc:D x y<=D x m+D m y
   ·rw[Int.min_eq_left hc];exact h.snd x y hx hy
   ·rw[Int.min_eq_right (by omega)];refine Or.inr ⟨by omega,?_⟩
    rcases h.snd x m hx hm with g|⟨_,l,u,o⟩
    ·omega
    rcases h.snd m y hm hy with g|⟨_,r,p,j⟩
    ·omega
    obtain⟨q,s,k⟩:=qI u p;exact⟨q,s,by omega⟩
  ·simp only[if_neg e];exact h.snd x y hx hy
 ·by_cases e:x=a/\y=b
  ·simp only[if_pos e];obtain⟨rfl,rfl⟩:=e;omega
  ·simp only[if_neg e];exact h.le x y hx hy
 ·rw[if_neg (by omega)];exact h.todo x y (by omega)
 ·by_cases e:x=a/\y=b
  ·simp only[if_pos e];obtain⟨rfl,rfl⟩:=e;omega
  ·simp only[if_neg e];exact h.did x y hx hy (by omega) g1 c
 ·by_cases e:x=a/\y=b
  ·simp only[if_pos e];obtain⟨rfl,rfl⟩:=e
   have A:D x m=D0 x m:=by
    rcases h.form hmm x m hx hm with g|⟨_,_,g⟩ <;> omega
   have z:D m y=D0 m y:=by
    rcases h.form hmm m y hm hy with g|⟨_,_,g⟩ <;> omega
   by_cases hc:D x y<=D x m+D m y
   ·rw[Int.min_eq_left hc];exact h.form hmm x y hx hy
   ·rw[Int.min_eq_right (by omega)];exact Or.inr ⟨by omega,by omega,by omega⟩
  ·simp only[if_neg e];exact h.form hmm x y hx hy
 ·by_cases e:m=a/\m=b
  ·simp only[if_pos e];obtain⟨w,v⟩:=e;subst w;subst v;have:=h.todo m m (Or.inr ⟨rfl,Nat.le_refl _⟩)
   rcases h0.bd m m hm hm with g|g
   ·omega
   ·right;omega
  ·simp only[if_neg e];exact h.bmm
 ·by_cases e:x=a/\m=b
  ·simp only[if_pos e];obtain⟨rfl,rfl⟩:=e;have t:=h.todo x m (Or.inr ⟨rfl,Nat.le_refl _⟩);have c:=h.bmm
   rcases h0.bd x m hx hm with g|g
   ·omega
   ·rcases c with c|c
    ·omega
    ·right;omega
  ·simp only[if_neg e];exact(h.bm x hx).1
 ·by_cases e:m=a/\x=b
  ·simp only[if_pos e];obtain⟨rfl,rfl⟩:=e;have t:=h.todo m x (Or.inr ⟨rfl,Nat.le_refl _⟩);have c:=h.bmm
   rcases h0.bd m x hm hx with g|g
   ·omega
   ·rcases c with c|c
    ·omega
    ·right;omega
  ·simp only[if_neg e];exact(h.bm x hx).2
 ·by_cases e:x=a/\y=b
  ·simp only[if_pos e];obtain⟨rfl,rfl⟩:=e
   rcases i with g|g
   ·right;omega
   ·right;omega
  ·simp only[if_neg e];exact h.bd x y hx hy
theorem uZ(hBf:6*B < far)(h:Sta G n m B D0 D n 0)(h0:Dst G n m B D0)(hm:m < n)(hno:∀a,a < n->¬D a a < 0):Dst G n (m+1) (2*B) D:=by
 have c:0<=D0 m m:=by
  have:=h.le m m hm hm;have:=hno m hm;omega
 have s:∀x,x < n->D x m=D0 x m:=fun x hx=>by
  have:=h.le x m hx hm
  rcases h.form c x m hx hm with g|⟨_,_,g⟩ <;> omega
 have r:∀y,y < n->D m y=D0 m y:=fun y hy=>by
  have:=h.le m y hm hy
  rcases h.form c m y hm hy with g|⟨_,_,g⟩ <;> omega
 refine⟨h.snd,fun k hk x y hx hy g1 g2=>?_,fun x y hx hy=>Int.le_trans (h.le x y hx hy) (h0.ed x y hx hy),fun x hx=>Int.le_trans (h.le x x hx hx) (h0.di x hx),fun x y hx hy=>?_⟩
 ·by_cases e:k=m
  ·subst e;rw[s x hx]at g1 ⊢;rw[r y hy]at g2 ⊢;exact h.did x y hx hy (Or.inl hx) g1 g2
  ·have d:k < m:=by omega
   have b:k < n:=by omega
   have f:=h.did x y hx hy (Or.inl hx);have u:=h.le x y hx hy
   rcases h.form c x k hx b with q|⟨p,o,q⟩ <;> rcases h.form c k y b hy with v|⟨r1,r2,v⟩
   ·have:=h0.tri k d x y hx hy (by omega) (by omega);omega
   ·have t:=h0.tri k d x m hx hm (by omega) r1;have l:=h0.bd x m hx hm
    by_cases hf:D0 x m < far
    ·have:=f hf r2;omega
    ·rcases l with l|l
     ·rcases h0.bd x k hx b with j|j <;> rcases h0.bd k m b hm with i|i <;> omega
     ·rcases h0.bd x k hx b with j|j <;> rcases h0.bd k m b hm with i|i <;> omega
   ·have t:=h0.tri k d m y hm hy o (by omega)
    by_cases hf:D0 m y < far
    ·have:=f p hf;omega
    ·have l:=h0.bd m y hm hy
     rcases l with l|l
     ·rcases h0.bd m k hm b with j|j <;> rcases h0.bd k y b hy with i|i <;> omega
     ·rcases h0.bd m k hm b with j|j <;> rcases h0.bd k y b hy with i|i <;> omega
   ·have t:=h0.tri k d m m hm hm o r1;have:=f p r2;omega
 ·rcases h.form c x y hx hy with q|⟨p,o,q⟩
  ·rcases h0.bd x y hx hy with g|g
   ·exact Or.inl (by omega)
   ·exact Or.inr (by omega)
  ·rcases h0.bd x m hx hm with g|g
   ·omega
   ·rcases h0.bd m y hm hy with g'|g'
    ·omega
    ·exact Or.inr (by omega)
theorem xV(h:SndW G n D)(ha:a < n)(hd:D a a < 0)(t:Nat->Int):¬Feas G n t:=fun hf=>by
 rcases h a a ha ha with g|⟨_,l,hl,hw⟩
 ·unfold far at g;omega
 ·have:=fL hf _ _ _ hl;omega
theorem xi(hB:∀a b,a < n->b < n->G a b=far\/(-B<=G a b/\G a b<=B))(hB0:0<=B)(hBf:6*B < far)(hD:∀a b,a < n->b < n->D a b=if a=b then min (G a b) 0 else G a b):Dst G n 0 B D:=by
 refine⟨fun x y hx hy=>?_,fun k hk=>by omega,fun x y hx hy=>?_,fun x hx=>?_,fun x y hx hy=>?_⟩
 ·rw[hD x y hx hy]
  by_cases e:x=y
  ·subst e;rw[if_pos rfl]
   by_cases hc:G x x<=0
   ·rw[Int.min_eq_left hc]
    have c:G x x < far:=by unfold far;omega
    exact Or.inr ⟨c,[x,x],⟨rfl,rfl,by simp;exact hx,c,trivial⟩,by simp[wt]⟩
   ·rw[Int.min_eq_right (by omega)];exact Or.inr ⟨by unfold far;omega,[x],gM hx,by simp[wt]⟩
  ·rw[if_neg e]
   rcases hB x y hx hy with g|g
   ·exact Or.inl g
   ·by_cases c:G x y < far
    ·exact Or.inr ⟨c,[x,y],⟨rfl,rfl,by simp;exact⟨hx,hy⟩,c,trivial⟩,by simp[wt]⟩
    ·exact Or.inr ⟨by omega,by omega⟩
 ·rw[hD x y hx hy];split <;> omega
 ·rw[hD x x hx hx,if_pos rfl];omega
 ·rw[hD x y hx hy]
  split
  ·rcases hB x y hx hy with g|g
   ·right;unfold far at g;omega
   ·right;omega
  ·exact hB x y hx hy
end Go.Proofs.YtcidfldeiklcjaaGreatDoor.Bf
namespace Go.Proofs.YtcidfldeiklcjaaGreatDoor
open Go.RowKit Bf Tm
open Lib(hid)
structure Flt (w:World) (db n c:Nat) (D:Gf):Prop where
 cell:∀a b,a < n->b < n->w.cell? ⟨db,a*n+b,none⟩=some (.int .i64 (D a b))
 fz:∀k,w.frozen? ⟨db,k,none⟩=false
 lt:db < w.heap.size
 cc:n*n<=c
section
variable {w w':World} {db n c:Nat} {D H:Gf}
theorem Flt.kept(h:Flt w db n c D)(k:Kept [] w w'):Flt w' db n c D := ⟨fun a b ha hb=>Kept.cellOf (h.cell a b ha hb) _ k,fun j=>by rw[World.frozen?_of_block (k.block db h.lt (by simp))];exact h.fz j,Nat.lt_of_lt_of_le h.lt k.size,h.cc⟩
theorem Flt.congr(h:Flt w db n c D)(e:∀a b,a < n->b < n->D a b=H a b):Flt w db n c H := ⟨fun a b ha hb=>by rw[<-e a b ha hb];exact h.cell a b ha hb,h.fz,h.lt,h.cc⟩
theorem Flt.set_(h:Flt w db n c D){a b:Nat}(ha:a < n)(hb:b < n)(x:Int):Flt (w.setCell ⟨db,a*n+b,none⟩ x) db n c fun i j=>if i=a/\j=b then x else D i j:=by
 refine⟨fun i j hi hj=>?_,fun k=>?_,?_,h.cc⟩
 ·by_cases e:i=a/\j=b
  ·rw[if_pos e,e.1,e.2];exact World.cell?_setCell_same _ _ _ (h.cell a b ha hb)
  ·rw[if_neg e,World.cell?_setCell_other _ _ _ _ (fun e2=>e (sJ hj hb (by injection e2 with _ e3;exact e3.symm)))];exact h.cell i j hi hj
 ·have:=h.fz k
  simpa using this
 ·have:=h.lt
  simpa using this
end
theorem eT(w:World)(T:TypeId):(w.alloc (.cells #[] T)).ownsRow w.heap.size T 1 (.slice (some ⟨w.heap.size,0,none⟩) 0 0) 0 [] := ⟨rfl,.inr ⟨w.heap.size,0,#[],rfl,Nat.le_refl _,heap_alloc_new w _,Nat.le_refl _,by simp[maxLen],rfl,rfl⟩⟩
theorem km{a b n:Nat}(hb:b < n):(a*n+b) / n=a/\(a*n+b) % n=b:=by
 constructor
 ·rw[Nat.mul_comm,Nat.mul_add_div (by omega),Nat.div_eq_of_lt hb];rfl
 ·rw[Nat.mul_comm,Nat.mul_add_mod];exact Nat.mod_eq_of_lt hb
def jL(n:Nat)(G:Gf):List Int:=(List.range (n*n)).map fun j=>G (j / n) (j % n)
theorem nD(n:Nat)(G:Gf):(jL n G).length=n*n:=by simp[jL]
theorem nE{n k:Nat}{G:Gf}(h:k < n*n):(jL n G)[k]?=some (G (k / n) (k % n)):=by simp[jL,h]
theorem FlW.row{w:World}{gp wb n c:Nat}{G:Gf}(h:FlW w gp wb n c G)(hn:n<=100):Row w 1 (.slice (some ⟨wb,0,none⟩) (n*n) c) (n*n) (ints (jL n G)):=by
 have f:n*n<=100*100:=Nat.mul_le_mul hn hn;refine⟨by simp[ints,nD],by omega,_,_,rfl,h.cc,fun h0=>⟨_,_,rfl,fun k u hu=>?_⟩⟩
 have b:k < n*n:=by
  have:=(List.getElem?_eq_some_iff.1 hu).1
  simpa [ints,nD]using this
 have a:0 < n:=Nat.pos_of_mul_pos_right (Nat.lt_of_le_of_lt (Nat.zero_le _) b) |> fun h=>h;have d:=h.cell (k / n) (k % n) (Nat.div_lt_of_lt_mul b) (Nat.mod_lt _ a);rw[Nat.div_add_mod']at d
 have e:(ints (jL n G))[k]?=some (.int .i64 (G (k / n) (k % n))):=by simp[ints,nE b]
 rw[e]at hu;injection hu with hu;rw[Nat.zero_add,<-hu];exact d
theorem oK{w:World}{B db n c:Nat}{G:Gf}(h:w.ownsRow B 3 1 (.slice (some ⟨db,0,none⟩) (n*n) c) (n*n) (ints (jL n G))):Flt w db n c G:=by
 refine⟨fun a b ha hb=>?_,fun j=>h.frozenAt j,(h.lt db rfl).2,?_⟩
 ·have hl:=ju ha hb;rw[h.cellAt _ (by omega)];simp only[ints,List.getElem?_map,nE hl,Option.map_some];rw[(km hb).1,(km hb).2]
 ·rcases h.2 with⟨h0,_⟩|⟨g',cap,cur,hv,_,_,hcap,_⟩
  ·cases h0
  ·injection hv with _ _ e3;omega
def Kb(m:Nat):Int:=8589934592*((2 ^ m:Nat):Int)
theorem yS(m:Nat):Kb (m+1)=2*Kb m:=by unfold Kb;rw[Nat.pow_succ];generalize 2 ^ m=z;omega
theorem zk{m:Nat}(h:m<=16):0<=Kb m/\Kb m<=562949953421312:=by
 have:2 ^ m<=2 ^ 16:=Nat.pow_le_pow_right (by omega) h
 unfold Kb
 generalize 2 ^ m=z at *
 omega
theorem ixf{a b n am q:Nat}(ham:a*n=am)(hq:n*n=q)(ha:a < n)(hb:b < n)(hn:n<=16) :
  ((a:Int)*(n:Int)=(am:Int))/\IntKind.i64.wrap (am:Int)=(am:Int)/\IntKind.i64.wrap ((am:Int)+(b:Int))=(am:Int)+(b:Int)/\(0:Int)<=(am:Int)+(b:Int)/\(am:Int)+(b:Int) < (q:Int)/\((am:Int)+(b:Int)).toNat=am+b/\am+b < q:=by
 have h1:=ju ha hb;rw[ham,hq]at h1
 have h2:q<=256:=by rw[<-hq];exact Nat.mul_le_mul hn hn
 refine⟨by rw[<-ham];simp,?_,?_,by omega,by omega,by omega,h1⟩
 ·rw[IntKind.wrap_i64];omega
 ·rw[IntKind.wrap_i64];omega
def DistE(G:Gf)(n:Nat)(w:World)(e:Ending)(w':World):Prop:=Kept [] w w' /\
 ((∃db c D,e=.returned (.tuple #[.slice (some ⟨db,0,none⟩) (n*n) c,.bool true])/\Flt w' db n c D/\Dst G n n (Kb n) D/\(∀a,a < n->¬D a a < 0)/\w.heap.size<=db) \/
  (e=.returned (.tuple #[(),.bool false])/\∀t,¬Feas G n t))
theorem mD(gp wb n c:Nat)(G:Gf)(w:World)(h:FlW w gp wb n c G)(hg:GBd n G)(hn0:0 < n)(hn:n<=16) :
  Calls Tryz.prog 32 #[.pointer (some ⟨gp,0,none⟩)] w (DistE G n w):=by
 have HF:=hid h;have HG:=hid hg;have n0:=h.n0;have w0:=h.w0;obtain⟨q,Z⟩:=nm (n*n)
 have b0:q<=256:=by rw[<-Z];exact Nat.mul_le_mul hn hn
 have al:0 < q:=by rw[<-Z];exact Nat.mul_pos hn0 hn0
 have Q:=hid Z;have HR:=hid (h.row (by omega:n<=100));rw[Z]at w0 HR;have ac:=Kept.cellOf w0 _ ((Kept.refl [] w).alloc (.cells #[] 3));clear h hg Z
 go_enter Tryz.func32,Tryz.ntmps32
 go_wp2_with (at_builtin;refine aE rfl _ _ rfl w.heap.size (.slice (some ⟨w.heap.size,0,none⟩) 0 0) 0 [] rfl (by exact eT w _) (.slice (some ⟨wb,0,none⟩) q c) q (jL n G) rfl (HR.out.kept (kr.alloc _)) (by omega) (by simp) ?_);intro a' c' w1 ho a4 an;have s:=ho;obtain⟨X,C,hv,O,b1⟩:=s.form al;injection hv with hv1 _ hv3;subst hv1;subst hv3;have a3:Kept [] w w1:=((Kept.refl [] w).alloc _).fresh a4 (fun z hz=>by have:=(ak (eT w 3) z hz).1;exact this);rw[<-Q.out]at s;have a7:=oK s;have aa:=hid a7;clear ho s a4 an a7 ac;go_wp2_with fail
 go_loopw [6] (fun i wr=>∃k:Nat,k<=n/\i=k/\Flt wr X n c' (fun a b=>if a=b/\a < k then min (G a b) 0 else G a b)/\Kept [] w wr) (fun i _=>n - (intOf i).toNat)
 case atStart=>exact⟨0,Nat.zero_le _,rfl,aa.out.congr fun a b _ _=>by simp,a3⟩
 case round =>
  obtain⟨k,hk,rfl,F,d⟩:=hrel;have l:=hid F;clear F
  by_cases hkn:k < n
  ·have hkn':decide ((k:Int) < (n:Int))=true:=by simpa using hkn
   obtain⟨am,j⟩:=nm (k*n);obtain⟨f1,f2,f3,f4,f5,f6,f7⟩:=ixf j Q hkn hkn hn;have xc:=l.cell k k hkn hkn;have xf:=l.fz (am+k);obtain⟨g,N⟩:=nm (G k k);rw[j,if_neg (by omega),N]at xc;have ap:=hid N;have U:=hid j;clear N j;go_wp2_with fail
   go_roundw
   case rel =>
    refine⟨k+1,by omega,by go_num,?_,d.setCell (Or.inr O) _⟩;have h1:=l.set_ hkn hkn (min g 0);rw[U.out]at h1;refine h1.congr fun a b V hb=>?_
    by_cases e:a=k/\b=k
    ·rw[if_pos e,e.1,e.2,if_pos ⟨rfl,by omega⟩,ap.out]
    ·rw[if_neg e]
     by_cases e2:a=b/\a < k
     ·rw[if_pos e2,if_pos ⟨e2.1,by omega⟩]
     ·rw[if_neg e2,if_neg (by omega)]
   case measure=>simp[intOf];omega
  ·have hkn':decide ((k:Int) < (n:Int))=false:=by simpa using hkn
   have a2:n=k:=by omega
   have hZ:Dst G n 0 (Kb 0) (fun a b=>if a=b/\a < k then min (G a b) 0 else G a b):=by
    refine xi (fun a b V hb=>?_) (by decide) (by decide) (fun a b V hb=>?_)
    ·rcases HG a b V hb with h|h
     ·exact Or.inl h
     ·exact Or.inr (by simpa [Kb]using h)
    ·by_cases e:a=b
     ·rw[if_pos e,if_pos ⟨e,by omega⟩]
     ·rw[if_neg e,if_neg (fun h=>e h.1)]
   have HZ:=hid hZ;clear hZ;subst a2;go_wp2_with fail
   go_loopw [7] (fun i wr2=>∃(m:Nat) (D:Gf),m<=n/\i=m/\Flt wr2 X n c' D/\Dst G n m (Kb m) D/\(0 < m->∀a,a < n->¬D a a < 0)/\Kept [] w wr2) (fun i _=>n - (intOf i).toNat)
   case atStart=>exact⟨0,_,Nat.zero_le _,rfl,l.out,HZ.out,fun h=>by omega,d⟩
   case round =>
    clear HZ l aa d a3 hkn hkn';obtain⟨m,D0,hm,rfl,A,hD,v,d⟩:=hrel;have T:=hid A;have HD:=hid hD;have ao:=hid v;clear A hD v
    by_cases hmn:m < n
    ·have hmn':decide ((m:Int) < (n:Int))=true:=by simpa using hmn
     obtain⟨ah,ad⟩:=zk (show m<=16 by omega)
     have I:6*Kb m < far:=by unfold far;omega
     generalize hK:Kb m=K at ah ad I HD
     have HK:=hid hK;clear hK;go_wp2_with fail
     go_loopw [8] (fun i wr3=>∃(a:Nat) (D:Gf),a<=n/\i=a/\Flt wr3 X n c' D/\Sta G n m K D0 D a 0/\Kept [] w wr3) (fun i _=>n - (intOf i).toNat)
     case atStart=>exact⟨0,_,Nat.zero_le _,rfl,T,tu hmn HD,d⟩
     case round =>
      clear T d;obtain⟨a,D,V,rfl,A,F,d⟩:=hrel;have E:=hid A;have l:=hid F;clear A F
      by_cases han:a < n
      ·have han':decide ((a:Int) < (n:Int))=true:=by simpa using han
       go_wp2_with fail
       go_loopw [9] (fun i wr4=>∃(b:Nat) (D:Gf),b<=n/\i=b/\Flt wr4 X n c' D/\Sta G n m K D0 D a b/\Kept [] w wr4) (fun i _=>n - (intOf i).toNat)
       case atStart=>exact⟨0,_,Nat.zero_le _,rfl,E,l,d⟩
       case round =>
        clear E l d;obtain⟨b,Y,hb,rfl,A,F,d⟩:=hrel;have f:=hid A;have l:=hid F;clear A F
        by_cases hbn:b < n
        ·have hbn':decide ((b:Int) < (n:Int))=true:=by simpa using hbn
         obtain⟨am,j⟩:=nm (a*n);obtain⟨mm,M⟩:=nm (m*n);obtain⟨f1,f2,f3,f4,f5,f6,f7⟩:=ixf j Q han hmn hn;obtain⟨g1,g2,g3,g4,g5,g6,g7⟩:=ixf M Q hmn hbn hn;obtain⟨_,_,e3,e4,e5,e6,e7⟩:=ixf j Q han hbn hn;have x1:=f.cell a m han hmn;have x2:=f.cell m b hmn hbn;have x3:=f.cell a b han hbn;have xf:=f.fz (am+b);have s1:=(l.bm a han).1;have s2:=(l.bm b hbn).2;obtain⟨p,L⟩:=nm (Y a m);obtain⟨r,hr⟩:=nm (Y m b);obtain⟨g,hg⟩:=nm (Y a b);rw[L]at x1 s1;rw[hr]at x2 s2;rw[hg]at x3;rw[j]at x1 x3;rw[M]at x2;have R:=hid L;have P:=hid hr;have av:=hid hg;have U:=hid j;have S1:=hid s1;have S2:=hid s2;clear L hr hg j M s1 s2
         by_cases C:p < 1152921504606846976
         ·have c1':decide (p < 1152921504606846976)=true:=by simpa using C
          by_cases c2:r < 1152921504606846976
          ·have c2':decide (r < 1152921504606846976)=true:=by simpa using c2
           have t1:-(3*K)<=p/\p<=3*K:=by rcases S1.out with e|e;unfold far at e;omega;exact e
           have t2:-(3*K)<=r/\r<=3*K:=by rcases S2.out with e|e;unfold far at e;omega;exact e
           have hw:IntKind.i64.wrap (p+r)=p+r:=by rw[IntKind.wrap_i64];omega
           clear t1 t2;go_upto_region 17 with(fail)
           go_still_tail 33,(by kernel_rfl)
           go_wp2_with fail
           go_roundw
           case rel =>
            refine⟨b+1,_,by omega,by go_num,?_,uY I l.out HD.out han hbn hmn (by rw[R.out];exact C) (by rw[P.out];exact c2),(d.setCell (Or.inr O) _).drew⟩;have h1:=f.set_ han hbn (min g (p+r));rw[U.out]at h1;refine Flt.kept (h1.congr fun x y _ _=>?_) kr.drew;rw[R.out,P.out,av.out]
           case measure=>simp[intOf];omega
          ·have c2':decide (r < 1152921504606846976)=false:=by simpa using c2
           go_wp2_with fail
           go_roundw
           case rel=>exact⟨b+1,Y,by omega,by go_num,f.out,pj l.out han hbn hmn (by rw[R.out,P.out];exact fun h=>c2 h.2),d⟩
           case measure=>simp[intOf];omega
         ·have c1':decide (p < 1152921504606846976)=false:=by simpa using C
          go_wp2_with fail
          go_roundw
          case rel=>exact⟨b+1,Y,by omega,by go_num,f.out,pj l.out han hbn hmn (by rw[R.out];exact fun h=>C h.1),d⟩
          case measure=>simp[intOf];omega
        ·have hbn':decide ((b:Int) < (n:Int))=false:=by simpa using hbn
         have a5:b=n:=by omega
         have o:=l.out;rw[a5]at o;have u:=hid (xU o);clear o;go_wp2_with fail
         go_roundw
         case rel=>exact⟨a+1,Y,by omega,by go_num,f.out,u.out,d⟩
         case measure=>simp[intOf];omega
      ·have han':decide ((a:Int) < (n:Int))=false:=by simpa using han
       have a6:a=n:=by omega
       have o:=l.out;rw[a6]at o;have u:=hid o;clear o l;go_wp2_with fail
       go_loopw [10] (fun i wr5=>∃x:Nat,x<=n/\i=x/\Flt wr5 X n c' D/\(∀z,z < x->¬D z z < 0)/\Kept [] w wr5) (fun i _=>n - (intOf i).toNat)
       case atStart=>exact⟨0,Nat.zero_le _,rfl,E.out,fun z hz=>by omega,d⟩
       case round =>
        clear E d;obtain⟨x,hx,rfl,A,a0,d⟩:=hrel;have f:=hid A;have a9:=hid a0;clear A a0
        by_cases hxn:x < n
        ·have hxn':decide ((x:Int) < (n:Int))=true:=by simpa using hxn
         obtain⟨xm,J⟩:=nm (x*n);obtain⟨f1,f2,f3,f4,f5,f6,f7⟩:=ixf J Q hxn hxn hn;have x1:=f.cell x x hxn hxn;obtain⟨p,L⟩:=nm (D x x);rw[L,J]at x1;have R:=hid L;clear L J
         by_cases C:p < 0
         ·have c1':decide (p < 0)=true:=by simpa using C
          go_wp2_with fail
          go_ret2
          exact⟨d,Or.inr ⟨rfl,fun t=>xV u.out.snd hxn (by rw[R.out];exact C) t⟩⟩
         ·have c1':decide (p < 0)=false:=by simpa using C
          go_wp2_with fail
          go_roundw
          case rel =>
           refine⟨x+1,by omega,by go_num,f.out,fun z hz=>?_,d⟩
           by_cases e:z=x
           ·rw[e,R.out];exact C
           ·exact a9.out z (by omega)
          case measure=>simp[intOf];omega
        ·have hxn':decide ((x:Int) < (n:Int))=false:=by simpa using hxn
         have v:=fun z (hz:z < n)=>a9.out z (by omega);have HN:=hid v;have B:=hid (uZ I u HD hmn v);clear v;go_wp2_with fail
         go_roundw
         case rel=>exact⟨m+1,D,by omega,by go_num,f.out,by rw[yS,HK.out];exact B.out,fun _=>HN.out,d⟩
         case measure=>simp[intOf];omega
    ·have hmn':decide ((m:Int) < (n:Int))=false:=by simpa using hmn
     have a1:m=n:=by omega
     have B:=HD.out;rw[a1]at B;have ab:=hid B;clear B;go_wp2_with fail
     go_ret2
     exact⟨d,Or.inl ⟨X,c',D0,by rw[Q.out];rfl,T.out,ab.out,fun a V=>by have:=ao.out (by omega) a V;omega,O⟩⟩
end Go.Proofs.YtcidfldeiklcjaaGreatDoor
