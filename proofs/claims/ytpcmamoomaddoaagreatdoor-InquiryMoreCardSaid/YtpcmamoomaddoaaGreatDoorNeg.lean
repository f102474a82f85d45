import Derived.Test.YtpcmamoomaddoaaGreatDoorCmp
set_option maxRecDepth 100000
set_option maxHeartbeats 32000000
namespace Go.Proofs.YtpcmamoomaddoaaGreatDoor
mutual
theorem nL:∀p:Pd,sizeB (negB p)<=sizeB p
 | .node k l r c ks=>by
  rw[negB]
  split
  ·rw[sizeB,sizeB,sizeL];omega
  ·rw[sizeB,sizeB];have:=lC ks;omega
theorem lC:∀l:List Pd,sizeL (negL l)<=sizeL l
 | []=>by rw[negL];omega
 |p::l=>by
  rw[negL,sizeL,sizeL];have:=nL p;have:=lC l;omega
end
theorem rV:∀p:Pd,1<=sizeB p
 | .node ..=>by rw[sizeB];omega
theorem cW:∀l:List Pd,l.length<=sizeL l
 | []=>by simp
 |p::l=>by
  have:=rV p;have:=cW l;rw[sizeL,List.length_cons];omega
theorem dg:∀l m:List Pd,sizeL (l++m)=sizeL l+sizeL m
 | [],m=>by rw[List.nil_append,sizeL];omega
 |p::l,m=>by rw[List.cons_append,sizeL,sizeL,dg l m];omega
section
variable {ts:List Tok}
theorem cR{s:Bs}{i:Nat}{u:Unit}{j:Nat}(h:bz ts s i=.ok (u,j)):j=i+1:=by
 unfold bz at h
 split at h
 ·injection h with h;injection h with _ h;exact h.symm
 ·cases h
theorem bY{i:Nat}{u:Int}{j:Nat}(h:aO ts i=.ok (u,j)):j=i+1:=by
 unfold aO at h
 split at h
 ·cases h
 ·split at h
  ·injection h with h;injection h with _ h;exact h.symm
  ·cases h
theorem lO{i:Nat}{u:Bs}{j:Nat}(h:dH ts i=.ok (u,j)):j=i+1:=by
 unfold dH at h
 split at h
 ·cases h
 ·split at h
  ·injection h with h;injection h with _ h;exact h.symm
  ·cases h
theorem nH{i:Nat}{s:Sm}{j:Nat}(h:sumP ts i=.ok (s,j)):i+1<=j:=by
 unfold sumP at h
 split at h
 ·obtain⟨n,j1,h1,h2⟩:=az h;injection h2 with h2;injection h2 with _ h2;have:=bY h1;omega
 ·split at h
  ·obtain⟨n,j1,h1,h2⟩:=az h;injection h2 with h2;injection h2 with _ h2;have:=bY h1;omega
  ·obtain⟨x,j1,h1,h⟩:=az h;obtain⟨_,j2,h2,h⟩:=az h;obtain⟨y,j3,h3,h⟩:=az h;have:=lO h1;have:=cR h2;have:=lO h3
   split at h
   ·obtain⟨n,j4,h4,h⟩:=az h;injection h with h;injection h with _ h;have:=bY h4;omega
   ·split at h
    ·obtain⟨n,j4,h4,h⟩:=az h;injection h with h;injection h with _ h;have:=bY h4;omega
    ·injection h with h;injection h with _ h;omega
/-- three nodes a token, at most -/
def iA(e:Nat->Res Pd):Prop:=∀i p j,e i=.ok (p,j)->i+1<=j/\sizeB p<=3*(j - i)
theorem fu{skip:Nat->Bool}{e:Nat->Res Pd}(he:iA e):∀(f i:Nat) (acc l:List Pd) (j:Nat),sepP skip e f i acc=.ok (l,j) ->
  i+1<=j/\sizeL l<=sizeL acc+3*(j - i)/\acc.length+1<=l.length/\(acc.length+2<=l.length->sizeL l+1<=sizeL acc+3*(j - i))
 |0,_,_,_,_,h=>by simp[sepP]at h
 |f+1,i,acc,l,j,h=>by
  rw[sepP]at h;obtain⟨x,j1,hx,h⟩:=az h;obtain⟨h1,h2⟩:=he _ _ _ hx
  split at h
  ·obtain⟨h3,h4,h5,h6⟩:=fu he f _ _ _ _ h;rw[dg,sizeL,sizeL]at h4 h6;rw[List.length_append,List.length_singleton]at h5 h6;refine⟨by omega,by omega,by omega,fun _=>by omega⟩
  ·injection h with h;injection h with h h';subst h;rw[dg,sizeL,sizeL,List.length_append,List.length_singleton];refine⟨by omega,by omega,by omega,fun hh=>by omega⟩
theorem jT{k:Int}{l:List Pd}{n:Nat}(h1:1<=l.length)(h2:sizeL l<=n)(h3:2<=l.length->sizeL l+1<=n):sizeB (one k l)<=n:=by
 match l,h1,h2,h3 with
 | [p],_,h2,_=>rw[sizeL,sizeL]at h2;exact h2
 |p::q::l,_,_,h3 =>
  show sizeB (.node k [] [] 0 (p::q::l))<=n
  have:=h3 (by simp);rw[sizeB];omega
theorem oU{p q:Pd}{i j:Nat}(h:chk p i=.ok (q,j)):q=p/\j=i:=by
 unfold chk at h
 split at h
 ·injection h with h;injection h with h h';exact⟨h.symm,h'.symm⟩
 ·cases h
theorem iO(a b:Sm)(n:Int):sizeB (aJ a b n)=1:=by unfold aJ;rw[sizeB,sizeL]
theorem nf{a:Sm}{i j:Nat}{p:Pd}(h:cY ts a i=.ok (p,j)):i+2<=j/\sizeB p<=3:=by
 unfold cY at h
 split at h
 ·cases h
 ·next s hs =>
  obtain⟨b,j1,hb,h⟩:=az h;have:=nH hb;obtain⟨rfl,rfl⟩:=oU h;have hm:=List.mem_of_find?_eq_some hs;simp only[signOf,List.mem_cons,List.not_mem_nil,or_false]at hm;refine⟨by omega,?_⟩
  rcases hm with rfl|rfl|rfl|rfl|rfl|rfl <;> simp[sizeB,sizeL,iO]
theorem pQ{a:Sm}:iA (fx ts a):=by
 intro i p j h
 unfold fx at h
 obtain⟨m,j1,h1,h⟩:=az h;obtain⟨n,j2,h2,h⟩:=az h;have:=bY h1
 have h3:j1<=j2:=by
  split at h2
  ·have:=bY h2;omega
  ·injection h2 with h2;injection h2 with _ h2;omega
 split at h
 ·cases h
 ·injection h with h;injection h with h h';subst h;subst h';refine⟨by omega,?_⟩
  unfold inPd
  rw[sizeB,sizeL,sizeL,sizeL,iO,iO];omega
theorem ov{a:Sm}{i j:Nat}{p:Pd}(h:dJ ts a i=.ok (p,j)):i+1<=j/\sizeB p<=3*(j - i):=by
 unfold dJ at h
 obtain⟨_,j1,h1,h⟩:=az h;obtain⟨l,j2,hl,h⟩:=az h;obtain⟨_,j3,h3,h⟩:=az h;obtain⟨rfl,rfl⟩:=oU h;obtain⟨s1,s2,s3,s4⟩:=fu pQ _ _ _ _ _ hl;have:=cR h1;have:=cR h3;rw[sizeL]at s2 s4;refine⟨by omega,jT (by simpa using s3) (by omega) fun hh=>?_⟩;have:=s4 (by simpa using hh);omega
variable {u:Nat->Res Pd}
theorem vJ(hu:iA u):iA (allP ts u):=by
 intro i p j h
 unfold allP at h
 obtain⟨l,j1,hl,h⟩:=az h;injection h with h;injection h with h h';subst h;subst h';obtain⟨s1,s2,s3,s4⟩:=fu hu _ _ _ _ _ hl;rw[sizeL]at s2 s4;refine⟨by omega,jT (by simpa using s3) (by omega) fun hh=>?_⟩;have:=s4 (by simpa using hh);omega
theorem lA(hu:iA u):iA (dw ts u):=by
 intro i p j h
 unfold dw at h
 obtain⟨l,j1,hl,h⟩:=az h;injection h with h;injection h with h h';subst h;subst h';obtain⟨s1,s2,s3,s4⟩:=fu (vJ hu) _ _ _ _ _ hl;rw[sizeL]at s2 s4;refine⟨by omega,jT (by simpa using s3) (by omega) fun hh=>?_⟩;have:=s4 (by simpa using hh);omega
theorem qq(hu:iA u):iA (fb ts u):=by
 intro i p j h
 unfold fb at h
 obtain⟨_,j1,h1,h⟩:=az h;obtain⟨c,j2,h2,h⟩:=az h;obtain⟨_,j3,h3,h⟩:=az h;obtain⟨_,j4,h4,h⟩:=az h;obtain⟨l,j5,hl,h⟩:=az h;obtain⟨_,j6,h6,h⟩:=az h;obtain⟨s1,s2,s3,s4⟩:=fu (lA hu) _ _ _ _ _ hl;have:=cR h1;have:=bY h2;have:=cR h3;have:=cR h4;have:=cR h6
 split at h
 ·cases h
 ·injection h with h;injection h with h h';subst h;subst h';rw[sizeL]at s2;rw[sizeB];omega
theorem fR:∀f:Nat,iA (cB ts f)
 |0=>by intro i p j h;simp[cB]at h
 |f+1=>by
  intro i p j h;have ih:=fR f;rw[cB]at h
  split at h
  ·obtain⟨q,j1,hq,h⟩:=az h;injection h with h;injection h with h h';subst h;have:=ih _ _ _ hq;have:=nL q;omega
  ·split at h
   ·obtain⟨q,j1,hq,h⟩:=az h;obtain⟨_,j2,h2,h⟩:=az h;injection h with h;injection h with h h';subst h;have:=lA ih _ _ _ hq;have:=cR h2;omega
   ·split at h
    ·have:=qq ih _ _ _ h;omega
    ·obtain⟨a,j1,ha,h⟩:=az h;have:=nH ha
     split at h
     ·have:=ov h;omega
     ·have:=nf h;omega
end
open Go.Proofs.Tryz Go.RowKit
open Lib(hid)
theorem td{w2:World}{tmps:Array Value}{v0 v1 v2 X:Value}{b:Nat}{R:Ending->World->Prop}(hb:Blk w2 b 182 #[v0,v1,v2])(h2:tmps[2]?.getD undef=.pointer (some ⟨b,0,none⟩))
  (hX:.agg #[v0,v1,v2]=X) (hR:R (.returned X) w2) :
  bodyPost prog Tryz.f200 R Exit.ret { tmps:=tmps,defers:=[] } w2:=by
 subst hX;have c0:w2.cell? ⟨b,0,none⟩=some v0:=hb.cell 0;have c1:w2.cell? ⟨b,1,none⟩=some v1:=hb.cell 1;have c2:w2.cell? ⟨b,2,none⟩=some v2:=hb.cell 2;refine bodyPost_ret (v:=.agg #[v0,v1,v2]) ?_ rfl hR;simp only[results,results200]
 simp[go_sem,h2,c0,c1,c2]
theorem iQ(k:Int)(l r:Bs)(c:Int)(a:Option Addr)(n m:Nat)(w:World) :
  Calls prog 200 #[.agg #[.int .i64 k,.string ⟨l.toArray⟩,.string ⟨r.toArray⟩,.int .i64 c,.slice a n m]] w fun e w'=>e=.returned (.agg #[.string ⟨l.toArray⟩,.string ⟨r.toArray⟩,.int .i64 c])/\Kept [] w w':=by
 go_enter func200,ntmps200
 go_wp2_with fail;exact td (Blk.new1 _ _ _ _) rfl rfl ⟨rfl,((Kept.refl _ _).alloc _).alloc _⟩
theorem mN{w2:World}{tmps:Array Value}{v0 v1 v2 X:Value}{b:Nat}{R:Ending->World->Prop}(hb:Blk w2 b 182 #[v0,v1,v2])(h2:tmps[2]?.getD undef=.pointer (some ⟨b,0,none⟩))
  (hX:.agg #[v0,v1,v2]=X) (hR:R (.returned X) w2) :
  bodyPost prog Tryz.f231 R Exit.ret { tmps:=tmps,defers:=[] } w2:=by
 subst hX;have c0:w2.cell? ⟨b,0,none⟩=some v0:=hb.cell 0;have c1:w2.cell? ⟨b,1,none⟩=some v1:=hb.cell 1;have c2:w2.cell? ⟨b,2,none⟩=some v2:=hb.cell 2;refine bodyPost_ret (v:=.agg #[v0,v1,v2]) ?_ rfl hR;simp only[results,results231]
 simp[go_sem,h2,c0,c1,c2]
theorem mO(l r:Bs)(c:Int)(w:World)(h1:-2199023255552<=c)(h2:c<=2199023255552) :
  Calls prog 231 #[.agg #[.string ⟨l.toArray⟩,.string ⟨r.toArray⟩,.int .i64 c]] w fun e w'=>e=.returned (.agg #[.string ⟨r.toArray⟩,.string ⟨l.toArray⟩,.int .i64 (-c - 1)])/\Kept [] w w':=by
 go_enter func231,ntmps231
 go_wp2_with fail;exact mN (Blk.new1 _ _ _ _) rfl rfl ⟨rfl,((Kept.refl _ _).alloc _).alloc _⟩
theorem vC{w2:World}{tmps:Array Value}{v0 v1 v2 v3 v4 X:Value}{b:Nat}{R:Ending->World->Prop}(hb:Blk w2 b 46 #[v0,v1,v2,v3,v4])(h2:tmps[2]?.getD undef=.pointer (some ⟨b,0,none⟩))
  (hX:.agg #[v0,v1,v2,v3,v4]=X) (hR:R (.returned X) w2) :
  bodyPost prog Tryz.f232 R Exit.ret { tmps:=tmps,defers:=[] } w2:=by
 subst hX;have c0:w2.cell? ⟨b,0,none⟩=some v0:=hb.cell 0;have c1:w2.cell? ⟨b,1,none⟩=some v1:=hb.cell 1;have c2:w2.cell? ⟨b,2,none⟩=some v2:=hb.cell 2;have c3:w2.cell? ⟨b,3,none⟩=some v3:=hb.cell 3;have c4:w2.cell? ⟨b,4,none⟩=some v4:=hb.cell 4;refine bodyPost_ret (v:=.agg #[v0,v1,v2,v3,v4]) ?_ rfl hR;simp only[results,results232]
 simp[go_sem,h2,c0,c1,c2,c3,c4]
theorem vD(l r:Bs)(c:Int)(w:World) :
  Calls prog 232 #[.agg #[.string ⟨l.toArray⟩,.string ⟨r.toArray⟩,.int .i64 c]] w fun e w'=>e=.returned (.agg #[.int .i64 0,.string ⟨l.toArray⟩,.string ⟨r.toArray⟩,.int .i64 c,.slice none 0 0])/\Kept [] w w':=by
 go_enter func232,ntmps232
 go_wp2_with fail;exact vC (Blk.new1 _ _ _ _) rfl rfl ⟨rfl,((Kept.refl _ _).alloc _).alloc _⟩
theorem jY:∀l:List Pd,negL l=l.map negB
 | []=>rfl
 |p::l=>by rw[negL,List.map_cons,jY l]
theorem fa{w2:World}{tmps:Array Value}{v0 v1 v2 v3 v4 X:Value}{b:Nat}{R:Ending->World->Prop}(hb:Blk w2 b 46 #[v0,v1,v2,v3,v4])(h2:tmps[2]?.getD undef=.pointer (some ⟨b,0,none⟩))
  (hX:.agg #[v0,v1,v2,v3,v4]=X) (hR:R (.returned X) w2) :
  bodyPost prog Tryz.f195 R Exit.ret { tmps:=tmps,defers:=[] } w2:=by
 subst hX;have c0:w2.cell? ⟨b,0,none⟩=some v0:=hb.cell 0;have c1:w2.cell? ⟨b,1,none⟩=some v1:=hb.cell 1;have c2:w2.cell? ⟨b,2,none⟩=some v2:=hb.cell 2;have c3:w2.cell? ⟨b,3,none⟩=some v3:=hb.cell 3;have c4:w2.cell? ⟨b,4,none⟩=some v4:=hb.cell 4;refine bodyPost_ret (v:=.agg #[v0,v1,v2,v3,v4]) ?_ rfl hR;simp only[results,results195]
 simp[go_sem,h2,c0,c1,c2,c3,c4]
def NegE(w:World)(p:Pd)(e:Ending)(w':World):Prop:=∃v,e=.returned v/\Kept [] w w'/\PdN w.heap.size w' v (negB p)
theorem qh:∀(m:Nat),m<=100000->∀(p:Pd) (cs:List Value) (w:World),sizeB p<=m->formedB p=true->PdR w cs p->Calls prog 195 #[.agg cs.toArray] w (NegE w p):=by
 obtain⟨i0,hi,d0,cz,cy⟩:=info_parts eK;intro m
 induction m with
 |zero=>intro _ p cs w E;cases p;rw[sizeB]at E;omega
 |succ m ih =>
  rintro hM ⟨C,l,r,u,M⟩ cs w E F hp;have ih:=ih (by omega);obtain⟨ka,kc,rfl,D⟩:=hp.rows;rw[sizeB]at E;obtain⟨_,_,d4,d3,_⟩:=D.form;obtain⟨J,br⟩:∃J,M.length=J:=⟨_,rfl⟩;rw[br]at D d3 ⊢;have cl:Hid (J<=100000):=hid (by have:=cW M;omega);clear d4
  show Calls _ _ #[.agg #[.int .i64 C,.string ⟨l.toArray⟩,.string ⟨r.toArray⟩,.int .i64 u,.slice ka J kc]] w _
  obtain⟨W,hW⟩:∃W,(w.alloc (.cells #[.int .i64 C,.string ⟨l.toArray⟩,.string ⟨r.toArray⟩,.int .i64 u,.slice ka J kc] 46)).alloc (.cells #[.int .i64 0,.string ⟨#[]⟩,.string ⟨#[]⟩,.int .i64 0,.slice none 0 0] 46)=W:=⟨_,rfl⟩;have ab:Kept [] w W:=hW▸((Kept.refl _ _).alloc _).alloc _;have n:Blk W w.heap.size 46 #[.int .i64 C,.string ⟨l.toArray⟩,.string ⟨r.toArray⟩,.int .i64 u,.slice ka J kc]:=hW▸(Blk.new _ _ _).alloc _;have an:Blk W (w.heap.size+1) 46 #[.int .i64 0,.string ⟨#[]⟩,.string ⟨#[]⟩,.int .i64 0,.slice none 0 0]:=hW▸Blk.new1 _ _ _ _
  have aa:W.heap.size=w.heap.size+2:=by rw[<-hW];simp
  rw[formedB]at F
  by_cases h0:C=0
  ·rw[if_pos h0]at F;subst h0;simp only[Bool.and_eq_true,List.isEmpty_iff]at F;obtain⟨⟨⟨rfl,_⟩,_⟩,hr⟩:=F
   have bo:-2199023255552<=u/\u<=2199023255552:=by
    unfold dt at hr
    simp only[Bool.and_eq_true,decide_eq_true_eq]at hr;omega
   have d6:=n.cell 0;have q0:W.cell? ⟨w.heap.size,0,none⟩=some (.int .i64 0):=n.cell 0;have q1:W.cell? ⟨w.heap.size,1,none⟩=some (.string ⟨l.toArray⟩):=n.cell 1;have q2:W.cell? ⟨w.heap.size,2,none⟩=some (.string ⟨r.toArray⟩):=n.cell 2;have q3:W.cell? ⟨w.heap.size,3,none⟩=some (.int .i64 u):=n.cell 3;have q4:W.cell? ⟨w.heap.size,4,none⟩=some (.slice ka J kc):=n.cell 4;have H1:=hid (iQ 0 l r u ka J kc W);have bb:=hid ab;have aq:=hid an;have HW:=hid hW;clear hW ab n an D d6 hp
   go_enter func195,ntmps195
   go_upto_region 1 with(fail);have hW':=HW.out;rw[hW'];clear hW' HW;go_wp2_with (first|(go_at_call 200;(with_reducible refine H1.out.mono ?_);rintro e w5 ⟨rfl,k5⟩)|(go_at_call 231;refine(mO l r u w5 bo.1 bo.2).mono ?_;rintro e w6 ⟨rfl,k6⟩)|(go_at_call 232;refine(vD r l (-u - 1) w6).mono ?_;rintro e w7 ⟨rfl,k7⟩;have K7:=bb.out.trans ((k5.trans k6).trans k7);have t:=aq.out.kept ((k5.trans k6).trans k7) (by simp);have c0:w7.cell? ⟨w.heap.size+1,0,none⟩=some (.int .i64 0):=t.cell 0;have c1:w7.cell? ⟨w.heap.size+1,1,none⟩=some (.string ⟨#[]⟩):=t.cell 1;have c2:w7.cell? ⟨w.heap.size+1,2,none⟩=some (.string ⟨#[]⟩):=t.cell 2;have c3:w7.cell? ⟨w.heap.size+1,3,none⟩=some (.int .i64 0):=t.cell 3;have c4:w7.cell? ⟨w.heap.size+1,4,none⟩=some (.slice none 0 0):=t.cell 4;have f0:=t.frozen 0;have f1:=t.frozen 1;have f2:=t.frozen 2;have f3:=t.frozen 3;have f4:=t.frozen 4;have e2:=hid t;have dq:=hid K7;clear t K7 k5 k6 k7));refine fa (((((e2.out.set_ 0 _).set_ 1 _).set_ 2 _).set_ 3 _).set_ 4 _) rfl rfl ?_;refine⟨_,rfl,?_,?_⟩
   ·exact(((((dq.out.setCell (Or.inr (Nat.le_succ _)) _).setCell (Or.inr (Nat.le_succ _)) _).setCell (Or.inr (Nat.le_succ _)) _).setCell (Or.inr (Nat.le_succ _)) _).setCell (Or.inr (Nat.le_succ _)) _)
   ·rw[negB,if_pos rfl];exact PdN.atom _ _ _ _ _
  ·rw[if_neg h0]at F
   have d5:C=1\/C=2\/C=3:=by
    by_cases h1:C=1\/C=2
    ·omega
    ·rw[if_neg h1]at F
     by_cases h3:C=3
     ·omega
     ·rw[if_neg h3]at F;cases F
   have b9:C=3->1<=u/\u<=J:=by
    intro h3;rw[if_neg (by omega),if_pos h3]at F;simp only[Bool.and_eq_true,decide_eq_true_eq]at F;omega
   have c7:∀q∈M,formedB q=true:=by
    by_cases h1:C=1\/C=2
    ·rw[if_pos h1]at F;simp only[Bool.and_eq_true]at F;exact(bD M).1 F.2
    ·rw[if_neg h1,if_pos (by omega)]at F;simp only[Bool.and_eq_true]at F;exact(bD M).1 F.2
   have e3:(C==0)=false:=by simpa using h0
   have q0:W.cell? ⟨w.heap.size,0,none⟩=some (.int .i64 C):=n.cell 0;have q1:W.cell? ⟨w.heap.size,1,none⟩=some (.string ⟨l.toArray⟩):=n.cell 1;have q2:W.cell? ⟨w.heap.size,2,none⟩=some (.string ⟨r.toArray⟩):=n.cell 2;have q3:W.cell? ⟨w.heap.size,3,none⟩=some (.int .i64 u):=n.cell 3;have q4:W.cell? ⟨w.heap.size,4,none⟩=some (.slice ka J kc):=n.cell 4;obtain⟨V,hV⟩:∃V,W.alloc (.cells #[.int .i64 C,.string ⟨#[]⟩,.string ⟨#[]⟩,.int .i64 0,.slice none 0 0] 46)=V:=⟨_,rfl⟩;have ac:Kept [] W V:=hV▸(Kept.refl _ _).alloc _;obtain⟨G,hG⟩:∃G,w.heap.size+2=G:=⟨_,rfl⟩
   have bG:Blk V G 46 #[.int .i64 C,.string ⟨#[]⟩,.string ⟨#[]⟩,.int .i64 0,.slice none 0 0]:=by
    rw[<-hG,<-aa];exact hV▸Blk.new _ _ _
   have bb:=hid (ab.trans ac);have be:=hid (n.kept ac (by simp));have aq:=hid (an.kept ac (by simp));have bd:=hid bG;have b1:=hid D;have HV:=hid hV;have HW:=hid hW;have cv:=hid c7;have d9:=hid aa;have d7:Hid (V.heap.size=G+1):=hid (by rw[<-hV,<-hG];simp[aa]);clear hV hW ab ac n an bG D hp F c7 aa
   go_enter func195,ntmps195
   go_upto_region 1 with(fail);have hW':=HW.out;rw[hW'];clear hW' HW;go_upto_region 4 with(fail);have hV':=HV.out;rw[hV',d9.out,hG];clear hV' HV;have q4:V.cell? ⟨w.heap.size,4,none⟩=some (.slice ka J kc):=be.out.cell 4;go_wp2_with fail
   go_loopw [19] (fun v wr=>∃(j:Nat) (kv:Value),j<=J/\v=.int .i64 j/\Kept [] w wr/\Kept [G] V wr/\Blk wr G 46 #[.int .i64 C,.string ⟨#[]⟩,.string ⟨#[]⟩,.int .i64 0,kv] /\
    Grow PdR 5 46 (G+1) (List.range (G+1)++obl kv) wr kv (negL (M.take j))/\G+1<=wr.heap.size) (fun v _=>J - (intOf v).toNat)
   case atStart=>exact⟨0,_,Nat.zero_le _,rfl,bb.out,Kept.refl _ _,bd.out,Grow.nil_ _ _ _ _ _ _,by have:=bd.out.lt;omega⟩
   case round =>
    obtain⟨j,kv,hj,rfl,b7,b8,a0,T,e4⟩:=hrel
    have Z:(negL (M.take j)).length=j:=by rw[ej,List.length_take];omega
    obtain⟨ka',kc',rfl⟩:=T.form (by decide);obtain⟨c,b6⟩:∃c,negL (M.take j)=c:=⟨_,rfl⟩;rw[b6]at T a0 Z;have ci:=hid b6;have b3:=hid Z;clear b6 Z;have ap:=hid b7;have dm:=hid b8;have b0:=be.out.kept b8 (by simp;omega);have av:=aq.out.kept b8 (by simp;omega);have ad:=T.ge;have co:=hid ad
    by_cases hlt:j < J
    ·have hlt':(j:Int) < (J:Int):=by omega
     have bn:=b1.out.kept (fun _ _ x=>PdR.kept b7 x) b7;obtain⟨b,X,rfl,hc⟩:=bn.at_ (by omega);obtain⟨cq,h1,h2,h3⟩:=hc j M[j] (List.getElem?_eq_getElem (by omega));obtain⟨q,hq⟩:∃q,M[j]=q:=⟨_,rfl⟩;rw[hq]at h2
     have d1:sizeB q<=m:=by have:=bh (hq▸List.getElem_mem (by omega):q∈M);omega
     have d2:formedB q=true:=cv.out q (hq▸List.getElem_mem (by omega))
     have N:negL (M.take (j+1))=negL (M.take j)++[negB q]:=by
      rw[List.take_succ_eq_append_getElem (by omega),hq,jY,jY,List.map_append]
      rfl
     rw[ci.out]at N;have ca:=hid N;have HG:=hid T;have a4:=hid a0;clear N hq hc bn T a0 ad;obtain⟨qk,ql,qr,qc,Q⟩:=q;obtain⟨qa,a6,rfl,_⟩:=h2.rows;have y0:wr.cell? ⟨b,X+j*5,none⟩=some (.int .i64 qk):=h3 0 _ (by decide) rfl;have y1:wr.cell? ⟨b,X+j*5+1,none⟩=some (.string ⟨ql.toArray⟩):=h3 1 _ (by decide) rfl;have y2:wr.cell? ⟨b,X+j*5+2,none⟩=some (.string ⟨qr.toArray⟩):=h3 2 _ (by decide) rfl;have y3:wr.cell? ⟨b,X+j*5+3,none⟩=some (.int .i64 qc):=h3 3 _ (by decide) rfl;have y4:wr.cell? ⟨b,X+j*5+4,none⟩=some (.slice qa Q.length a6):=h3 4 _ (by decide) rfl;obtain⟨g,T⟩:∃g,wr.heap.size=g:=⟨_,rfl⟩;obtain⟨I,a7⟩:∃x,wr.alloc (.cells #[.int .i64 qk,.string ⟨ql.toArray⟩,.string ⟨qr.toArray⟩,.int .i64 qc,.slice qa Q.length a6] 46)=x:=⟨_,rfl⟩;have kA:Kept [] wr I:=a7▸(Kept.refl _ _).alloc _;have U:Blk I g 46 #[.int .i64 qk,.string ⟨ql.toArray⟩,.string ⟨qr.toArray⟩,.int .i64 qc,.slice qa Q.length a6]:=T▸a7▸Blk.new _ _ _
     have bv:I.heap.size=g+1:=by rw[<-a7,<-T];simp
     go_upto_region 7 with(fail);have IH:=hid (fun(w':World) (k:Kept [] I w')=>ih (.node qk ql qr qc Q) _ w' d1 d2 (PdR.kept (kA.trans k) h2));have SS:∀y∈obl (.slice ka' c.length kc'),G+1<=y/\y < g:=fun y hy=>T▸co.out y hy
     have b5:∀y,y<=G->y∉obl (.slice ka' c.length kc'):=fun y hy E=>by have:=(SS y E).1;omega
     have R:∀y,g<=y->y∉obl (.slice ka' c.length kc'):=fun y hy E=>by have:=(SS y E).2;omega
     have s0:∀w',Kept (obl (.slice ka' c.length kc')) I w'->w'.cell? ⟨G,4,none⟩=some (.slice ka' c.length kc'):=fun w' k=>((a4.out.kept kA (by simp)).kept k (b5 _ (Nat.le_refl _))).cell 4;have s1:∀w',Kept (obl (.slice ka' c.length kc')) I w'->w'.cell? ⟨g,0,none⟩=some (.int .i64 qk):=fun w' k=>(U.kept k (R _ (Nat.le_refl _))).cell 0;have s2:∀w',Kept (obl (.slice ka' c.length kc')) I w'->w'.cell? ⟨g,1,none⟩=some (.string ⟨ql.toArray⟩):=fun w' k=>(U.kept k (R _ (Nat.le_refl _))).cell 1;have s3:∀w',Kept (obl (.slice ka' c.length kc')) I w'->w'.cell? ⟨g,2,none⟩=some (.string ⟨qr.toArray⟩):=fun w' k=>(U.kept k (R _ (Nat.le_refl _))).cell 2;have s4:∀w',Kept (obl (.slice ka' c.length kc')) I w'->w'.cell? ⟨g,3,none⟩=some (.int .i64 qc):=fun w' k=>(U.kept k (R _ (Nat.le_refl _))).cell 3;have s5:∀w',Kept (obl (.slice ka' c.length kc')) I w'->w'.cell? ⟨g,4,none⟩=some (.slice qa Q.length a6):=fun w' k=>(U.kept k (R _ (Nat.le_refl _))).cell 4;have cp:=hid (HG.out.step (X':=List.range (G+1)++obl (.slice ka' c.length kc')) kA (fun z _ E=>by simp at E) (fun z hz _=>by simp at hz) (fun z hz=>Or.inl hz));have b4:=hid (a4.out.kept kA (by simp));have cm:=hid kA;have a3:=hid bv;have ao:=hid T;clear h1 h2 h3 y0 y1 y2 y3 y4 a7 kA U T bv;refine ar [7] (fun w'=>Kept (obl (.slice ka' c.length kc')) I w') (by kernel_rfl) (Kept.refl _ _).drew (fun hH=>?_);refine ah [1,5,6,7] (i:=0) (v:=?tv0) rfl (by kernel_rfl) (by kernel_rfl) (by kernel_rfl) (by kernel_rfl) (fun _ _ _ h=>h) (Or.inl ⟨by rfl,?ty0⟩) hH ?tr0
     case ty0=>intro w' O;(try dsimp only at O);go_simp;first|done|with_reducible rfl
     simp only[Act.put,List.setIfInBounds_toArray,List.set_cons_zero,List.set_cons_succ];refine ah [5,6,7] (i:=1) (v:=?tv1) rfl (by kernel_rfl) (by kernel_rfl) (by kernel_rfl) (by kernel_rfl) (fun _ _ _ h=>h) (Or.inl ⟨by rfl,?ty1⟩) hH ?tr1
     case ty1=>intro w' O;(try dsimp only at O);go_simp;first|done|with_reducible rfl
     simp only[Act.put,List.setIfInBounds_toArray,List.set_cons_zero,List.set_cons_succ];refine ah [3,4,5,6,7] (i:=2) (v:=?tv2) rfl (by kernel_rfl) (by kernel_rfl) (by kernel_rfl) (by kernel_rfl) (fun _ _ _ h=>h) (Or.inl ⟨by rfl,?ty2⟩) hH ?tr2
     case ty2=>intro w' O;(try dsimp only at O);go_simp;first|done|with_reducible rfl
     simp only[Act.put,List.setIfInBounds_toArray,List.set_cons_zero,List.set_cons_succ];refine ai (rs:=[3]) (by kernel_rfl) (by simp) ?_;refine ae.cons rfl (fun K hK=>?_) ae.nil;go_simp;refine(IH.out _ (Kept.refl _ _).drew).mono ?_;rintro e w6 ⟨v,rfl,k6,cs,rfl,a9⟩;obtain⟨p,hp⟩:∃p,negB (.node qk ql qr qc Q)=p:=⟨_,rfl⟩;rw[hp]at a9;have N:=ca.out;rw[hp]at N;have c9:=hid N;obtain⟨pk,pl,pr,pc,A⟩:=p;obtain⟨pa,L,rfl,_⟩:=a9.get.rows;have K6:Kept [] I w6:=(Kept.refl _ _).drew.trans k6;refine hK.out _ _ (K6.mono (by simp)) (fun hH=>?_);clear hK K k6 hp N ca
     (try simp only[Act.put,List.setIfInBounds_toArray,List.set_cons_zero,List.set_cons_succ])
     refine ai (rs:=[4]) (by kernel_rfl) (by simp) ?_;refine ae.cons rfl (fun K hK=>?_) ae.nil;go_simp;refine hK.out _ _ (hH.alloc _) (fun hH=>?_);clear hK K
     (try simp only[Act.put,List.setIfInBounds_toArray,List.set_cons_zero,List.set_cons_succ])
     refine ai (rs:=[5]) (by kernel_rfl) (by simp) ?_;refine ae.cons rfl (fun K hK=>?_) ae.nil;have k7:Kept [] I (w6.alloc (.cells #[.int .i64 pk,.string ⟨pl.toArray⟩,.string ⟨pr.toArray⟩,.int .i64 pc,.slice pa A.length L] 46)):=K6.alloc _
     have c6:Grow PdR 5 46 (G+1) (List.range (G+1)++obl (.slice ka' c.length kc')) (w6.alloc (.cells #[.int .i64 pk,.string ⟨pl.toArray⟩,.string ⟨pr.toArray⟩,.int .i64 pc,.slice pa A.length L] 46)) (.slice ka' c.length kc') c :=
      cp.out.step k7 (fun z _ E=>by simp at E) (fun z hz _=>by simp at hz) (fun z hz=>Or.inl hz)
     have au:aw (List.range (G+1)++obl (.slice ka' c.length kc')) (fun w=>PdR w [.int .i64 pk,.string ⟨pl.toArray⟩,.string ⟨pr.toArray⟩,.int .i64 pc,.slice pa A.length L] (.node pk pl pr pc A)) (w6.alloc (.cells #[.int .i64 pk,.string ⟨pl.toArray⟩,.string ⟨pr.toArray⟩,.int .i64 pc,.slice pa A.length L] 46)) :=
      (a9.step ((Kept.refl [] w6).alloc _) (by simp) (fun z hz=>Or.inl hz)).less (fun z hz=>by
       rcases List.mem_append.1 hz with h|h
       ·exact Or.inl (List.mem_range.2 (by have:=List.mem_range.1 h;have:=a3.out;have:=ao.out;show z < I.heap.size;omega))
       ·exact Or.inl (List.mem_range.2 (by have:=(SS z h).2;have:=a3.out;show z < I.heap.size;omega)))
     refine bg rfl _ _ 44 rfl i0 _ 72 underlying44 hi d0 cz cy rfl (by decide) (by decide) rfl c6 _ [.int .i64 pk,.string ⟨pl.toArray⟩,.string ⟨pr.toArray⟩,.int .i64 pc,.slice pa A.length L] (.node pk pl pr pc A) rfl (al (cs:=[.int .i64 pk,.string ⟨pl.toArray⟩,.string ⟨pr.toArray⟩,.int .i64 pc,.slice pa A.length L]) (Blk.new _ _ _) rfl (by decide)) au (by simp[Value.oneCell']) (by have:=b3.out;have:=cl.out;omega) (by simp only[World.size_alloc];have:=K6.size;have:=a3.out;have:=ao.out;omega) (fun z hz=>List.mem_append_right _ hz) ?_;intro a' c' w8 c5 k8 bp;have ag:Kept (obl (.slice ka' c.length kc')) I w8:=(k7.mono (by simp)).trans k8;refine hK.out _ _ ag (fun hH=>?_);clear hK K
     (try simp only[Act.put,List.setIfInBounds_toArray])
     refine ah [7] (i:=6) (v:=?tv6) rfl (by kernel_rfl) (by kernel_rfl) (by kernel_rfl) (by kernel_rfl) (fun _ _ _ h=>h) (Or.inl ⟨by rfl,?ty6⟩) hH ?tr6
     case ty6=>intro w' O;(try dsimp only at O);go_simp;first|done|with_reducible rfl
     simp only[Act.put];have af:=b4.out.kept ag (b5 _ (Nat.le_refl _));have x4:w8.cell? ⟨G,4,none⟩=some (.slice ka' c.length kc'):=af.cell 4;have x5:=af.frozen 4;have cx:=hid af;have cu:=hid c5;have K8:=hid ag;have cb:=hid bp;have da:=hid (World.size_alloc w6 (.cells #[.int .i64 pk,.string ⟨pl.toArray⟩,.string ⟨pr.toArray⟩,.int .i64 pc,.slice pa A.length L] 46));have ds:=hid K6.size;clear af c5 ag bp k8 c6 au a9 k7 K6 s0 s1 s2 s3 s4 s5;refine ai (rs:=[7]) (by kernel_rfl) (by simp) ?_;refine ae.last rfl (by kernel_rfl) (fun K hK=>?_);go_simp;refine hK.out _ _ ?_;clear hK K
     (try simp only[Act.put,List.setIfInBounds_toArray,List.set_cons_zero,List.set_cons_succ])
     refine ak (by kernel_rfl) ?_ _;obtain⟨w9,a8⟩:∃x,w8.setCell ⟨G,4,none⟩ (.slice a' (c.length+1) c')=x:=⟨_,rfl⟩;rw[a8];have Y:Kept [G] w8 w9:=a8▸(Kept.refl _ _).setCell (Or.inl (by simp)) _;have c8:Blk w9 G 46 #[.int .i64 C,.string ⟨#[]⟩,.string ⟨#[]⟩,.int .i64 0,.slice a' (c.length+1) c']:=a8▸cx.out.set_ 4 _
     have bt:∀y∈obl (.slice a' (c.length+1) c'),G+1<=y:=fun y hy=>by
      rcases cb.out y hy with h|h
      ·exact(SS y h).1
      ·have:=da.out;have:=ds.out;have:=a3.out;have:=ao.out;omega
     have bx:=cu.out.step (X':=List.range (G+1)++obl (.slice a' (c.length+1) c')) Y (fun y hy E=>by rw[List.mem_singleton]at E;have:=bt y hy;omega) (fun y hy _=>by rw[List.mem_singleton]at hy;exact List.mem_append_left _ (List.mem_append_left _ (List.mem_range.2 (by omega)))) (fun y hy=>by
      rcases List.mem_append.1 hy with h|h
      ·exact Or.inl (List.mem_append_left _ (List.mem_append_left _ h))
      ·exact Or.inl (List.mem_append_right _ h))
     have bs:Kept [] w w9:=((ap.out.trans cm.out).fresh K8.out (fun y hy=>by have:=(SS y hy).1;omega)).fresh Y (fun y hy=>by rw[List.mem_singleton]at hy;omega);have bk:Kept [G] V w9:=((dm.out.trans (cm.out.mono (by simp))).then_ K8.out (fun y hy E=>by have:=(SS y E).1;have:=d7.out;omega)).trans Y
     have bl:G+1<=w9.heap.size:=by have:=K8.out.size;have:=Y.size;have:=a3.out;have:=ao.out;omega
     have e1:=hid c8;have du:=hid bx;have dn:=hid bs;have d8:=hid bk;have dc:Hid (negL (M.take (j+1))=c++[.node pk pl pr pc A]):=hid c9.out;clear a8 Y c8 bt bx bs bk cx cu K8 cb x4 x5 hH SS b5 R cp b4 HG a4 IH;go_wp2_with fail
     go_roundw
     case rel =>
      refine⟨j+1,.slice a' (c.length+1) c',by omega,by go_num,dn.out,d8.out,e1.out,?_,bl⟩;rw[dc.out];exact du.out
     case measure=>simp[intOf];omega
    ·obtain rfl:j=J:=by omega
     have bq:negL M=c:=by rw[<-ci.out,List.take_of_length_le (by omega)]
     have bc:=hid bq;have ba:=hid (T.done (X':=List.range (G+1)) (fun z hz=>Or.inl (List.mem_append_left _ hz)) (fun z hz E=>by have:=(ad z hz).1;have:=List.mem_range.1 E;omega) (by have:=cl.out;have:=b3.out;omega));have o:=hid a0;have a5:=hid av;have s:=hid b0;clear bq T a0 ad av b0 b1 cv co be aq bd ih
     rcases d5 with rfl|rfl|rfl
     ·clear b9;have u0:wr.cell? ⟨w.heap.size,0,none⟩=some (.int .i64 1):=s.out.cell 0;have u3:wr.cell? ⟨w.heap.size,3,none⟩=some (.int .i64 u):=s.out.cell 3;have u4:wr.cell? ⟨w.heap.size,4,none⟩=some (.slice ka j kc):=s.out.cell 4;have e0:wr.cell? ⟨G,0,none⟩=some (.int .i64 1):=o.out.cell 0;have g0:=o.out.frozen 0;go_upto_region 16 with(fail);obtain⟨a,f⟩:∃x,wr.setCell ⟨G,0,none⟩ (.int .i64 2)=x:=⟨_,rfl⟩;rw[f];have B:Blk a G 46 #[.int .i64 2,.string ⟨#[]⟩,.string ⟨#[]⟩,.int .i64 0,.slice ka' c.length kc']:=f▸o.out.set_ 0 _;have P:Kept [G] wr a:=f▸(Kept.refl _ _).setCell (Or.inl (by simp)) _;have d:=a5.out.kept P (by simp;omega);have c0:a.cell? ⟨G,0,none⟩=some (.int .i64 2):=B.cell 0;have c1:a.cell? ⟨G,1,none⟩=some (.string ⟨#[]⟩):=B.cell 1;have c2:a.cell? ⟨G,2,none⟩=some (.string ⟨#[]⟩):=B.cell 2;have c3:a.cell? ⟨G,3,none⟩=some (.int .i64 0):=B.cell 3;have c4:a.cell? ⟨G,4,none⟩=some (.slice ka' c.length kc'):=B.cell 4;have t0:a.cell? ⟨w.heap.size+1,0,none⟩=some (.int .i64 0):=d.cell 0;have t1:a.cell? ⟨w.heap.size+1,1,none⟩=some (.string ⟨#[]⟩):=d.cell 1;have t2:a.cell? ⟨w.heap.size+1,2,none⟩=some (.string ⟨#[]⟩):=d.cell 2;have t3:a.cell? ⟨w.heap.size+1,3,none⟩=some (.int .i64 0):=d.cell 3;have t4:a.cell? ⟨w.heap.size+1,4,none⟩=some (.slice none 0 0):=d.cell 4;have f0:=d.frozen 0;have f1:=d.frozen 1;have f2:=d.frozen 2;have f3:=d.frozen 3;have f4:=d.frozen 4;have a1:=hid (ba.out.step (X':=List.range (G+1)) P (fun y hy _=>by rw[List.mem_singleton]at hy;exact List.mem_range.2 (by omega)) (fun y hy=>Or.inl hy))
      have a2:=hid (ap.out.fresh P (fun y hy=>by rw[List.mem_singleton]at hy;omega));have B2:=hid d;clear f B P d u0 u3 u4 e0 g0;go_wp2_with fail;refine fa (((((B2.out.set_ 0 _).set_ 1 _).set_ 2 _).set_ 3 _).set_ 4 _) rfl rfl ?_;have kF:=((((((Kept.refl [w.heap.size+1] a).setCell (p:=⟨w.heap.size+1,0,none⟩) (Or.inl (by simp)) (.int .i64 2)).setCell (p:=⟨w.heap.size+1,1,none⟩) (Or.inl (by simp)) (.string ⟨#[]⟩)).setCell (p:=⟨w.heap.size+1,2,none⟩) (Or.inl (by simp)) (.string ⟨#[]⟩)).setCell (p:=⟨w.heap.size+1,3,none⟩) (Or.inl (by simp)) (.int .i64 0)).setCell (p:=⟨w.heap.size+1,4,none⟩) (Or.inl (by simp)) (.slice ka' c.length kc'));refine⟨_,rfl,a2.out.fresh kF (fun y hy=>by rw[List.mem_singleton]at hy;omega),?_⟩;rw[negB,bc.out];exact⟨[.int .i64 2,.string ⟨#[]⟩,.string ⟨#[]⟩,.int .i64 0,.slice ka' c.length kc'],rfl,(a1.out.imp fun w' hr=>PdR.of_rows (l:=[]) (r:=[]) hr).step kF (fun y hy _=>by rw[List.mem_singleton]at hy;exact List.mem_range.2 (by omega)) (fun y hy=>Or.inl (List.mem_range.2 (by have:=List.mem_range.1 hy;omega)))⟩
     ·clear b9;have u0:wr.cell? ⟨w.heap.size,0,none⟩=some (.int .i64 2):=s.out.cell 0;have u3:wr.cell? ⟨w.heap.size,3,none⟩=some (.int .i64 u):=s.out.cell 3;have u4:wr.cell? ⟨w.heap.size,4,none⟩=some (.slice ka j kc):=s.out.cell 4;have e0:wr.cell? ⟨G,0,none⟩=some (.int .i64 2):=o.out.cell 0;have g0:=o.out.frozen 0;go_upto_region 16 with(fail);obtain⟨a,f⟩:∃x,wr.setCell ⟨G,0,none⟩ (.int .i64 1)=x:=⟨_,rfl⟩;rw[f];have B:Blk a G 46 #[.int .i64 1,.string ⟨#[]⟩,.string ⟨#[]⟩,.int .i64 0,.slice ka' c.length kc']:=f▸o.out.set_ 0 _;have P:Kept [G] wr a:=f▸(Kept.refl _ _).setCell (Or.inl (by simp)) _;have d:=a5.out.kept P (by simp;omega);have c0:a.cell? ⟨G,0,none⟩=some (.int .i64 1):=B.cell 0;have c1:a.cell? ⟨G,1,none⟩=some (.string ⟨#[]⟩):=B.cell 1;have c2:a.cell? ⟨G,2,none⟩=some (.string ⟨#[]⟩):=B.cell 2;have c3:a.cell? ⟨G,3,none⟩=some (.int .i64 0):=B.cell 3;have c4:a.cell? ⟨G,4,none⟩=some (.slice ka' c.length kc'):=B.cell 4;have t0:a.cell? ⟨w.heap.size+1,0,none⟩=some (.int .i64 0):=d.cell 0;have t1:a.cell? ⟨w.heap.size+1,1,none⟩=some (.string ⟨#[]⟩):=d.cell 1;have t2:a.cell? ⟨w.heap.size+1,2,none⟩=some (.string ⟨#[]⟩):=d.cell 2;have t3:a.cell? ⟨w.heap.size+1,3,none⟩=some (.int .i64 0):=d.cell 3;have t4:a.cell? ⟨w.heap.size+1,4,none⟩=some (.slice none 0 0):=d.cell 4;have f0:=d.frozen 0;have f1:=d.frozen 1;have f2:=d.frozen 2;have f3:=d.frozen 3;have f4:=d.frozen 4;have a1:=hid (ba.out.step (X':=List.range (G+1)) P (fun y hy _=>by rw[List.mem_singleton]at hy;exact List.mem_range.2 (by omega)) (fun y hy=>Or.inl hy))
      have a2:=hid (ap.out.fresh P (fun y hy=>by rw[List.mem_singleton]at hy;omega));have B2:=hid d;clear f B P d u0 u3 u4 e0 g0;go_wp2_with fail;refine fa (((((B2.out.set_ 0 _).set_ 1 _).set_ 2 _).set_ 3 _).set_ 4 _) rfl rfl ?_;have kF:=((((((Kept.refl [w.heap.size+1] a).setCell (p:=⟨w.heap.size+1,0,none⟩) (Or.inl (by simp)) (.int .i64 1)).setCell (p:=⟨w.heap.size+1,1,none⟩) (Or.inl (by simp)) (.string ⟨#[]⟩)).setCell (p:=⟨w.heap.size+1,2,none⟩) (Or.inl (by simp)) (.string ⟨#[]⟩)).setCell (p:=⟨w.heap.size+1,3,none⟩) (Or.inl (by simp)) (.int .i64 0)).setCell (p:=⟨w.heap.size+1,4,none⟩) (Or.inl (by simp)) (.slice ka' c.length kc'));refine⟨_,rfl,a2.out.fresh kF (fun y hy=>by rw[List.mem_singleton]at hy;omega),?_⟩;rw[negB,bc.out];exact⟨[.int .i64 1,.string ⟨#[]⟩,.string ⟨#[]⟩,.int .i64 0,.slice ka' c.length kc'],rfl,(a1.out.imp fun w' hr=>PdR.of_rows (l:=[]) (r:=[]) hr).step kF (fun y hy _=>by rw[List.mem_singleton]at hy;exact List.mem_range.2 (by omega)) (fun y hy=>Or.inl (List.mem_range.2 (by have:=List.mem_range.1 hy;omega)))⟩
     ·obtain⟨e6,e5⟩:1<=u/\u<=j:=b9 rfl;have u0:wr.cell? ⟨w.heap.size,0,none⟩=some (.int .i64 3):=s.out.cell 0;have u3:wr.cell? ⟨w.heap.size,3,none⟩=some (.int .i64 u):=s.out.cell 3;have u4:wr.cell? ⟨w.heap.size,4,none⟩=some (.slice ka j kc):=s.out.cell 4;have e0:wr.cell? ⟨G,3,none⟩=some (.int .i64 0):=o.out.cell 3;have g0:=o.out.frozen 3;go_upto_region 16 with(fail);obtain⟨a,f⟩:∃x,wr.setCell ⟨G,3,none⟩ (.int .i64 ((j:Int) - u+1))=x:=⟨_,rfl⟩;rw[f];have B:Blk a G 46 #[.int .i64 3,.string ⟨#[]⟩,.string ⟨#[]⟩,.int .i64 ((j:Int) - u+1),.slice ka' c.length kc']:=f▸o.out.set_ 3 _;have P:Kept [G] wr a:=f▸(Kept.refl _ _).setCell (Or.inl (by simp)) _;have d:=a5.out.kept P (by simp;omega);have c0:a.cell? ⟨G,0,none⟩=some (.int .i64 3):=B.cell 0;have c1:a.cell? ⟨G,1,none⟩=some (.string ⟨#[]⟩):=B.cell 1;have c2:a.cell? ⟨G,2,none⟩=some (.string ⟨#[]⟩):=B.cell 2;have c3:a.cell? ⟨G,3,none⟩=some (.int .i64 ((j:Int) - u+1)):=B.cell 3;have c4:a.cell? ⟨G,4,none⟩=some (.slice ka' c.length kc'):=B.cell 4;have t0:a.cell? ⟨w.heap.size+1,0,none⟩=some (.int .i64 0):=d.cell 0;have t1:a.cell? ⟨w.heap.size+1,1,none⟩=some (.string ⟨#[]⟩):=d.cell 1;have t2:a.cell? ⟨w.heap.size+1,2,none⟩=some (.string ⟨#[]⟩):=d.cell 2;have t3:a.cell? ⟨w.heap.size+1,3,none⟩=some (.int .i64 0):=d.cell 3;have t4:a.cell? ⟨w.heap.size+1,4,none⟩=some (.slice none 0 0):=d.cell 4;have f0:=d.frozen 0;have f1:=d.frozen 1;have f2:=d.frozen 2;have f3:=d.frozen 3;have f4:=d.frozen 4
      have a1:=hid (ba.out.step (X':=List.range (G+1)) P (fun y hy _=>by rw[List.mem_singleton]at hy;exact List.mem_range.2 (by omega)) (fun y hy=>Or.inl hy));have a2:=hid (ap.out.fresh P (fun y hy=>by rw[List.mem_singleton]at hy;omega));have B2:=hid d;clear f B P d u0 u3 u4 e0 g0;go_wp2_with fail;refine fa (((((B2.out.set_ 0 _).set_ 1 _).set_ 2 _).set_ 3 _).set_ 4 _) rfl rfl ?_;have kF:=((((((Kept.refl [w.heap.size+1] a).setCell (p:=⟨w.heap.size+1,0,none⟩) (Or.inl (by simp)) (.int .i64 3)).setCell (p:=⟨w.heap.size+1,1,none⟩) (Or.inl (by simp)) (.string ⟨#[]⟩)).setCell (p:=⟨w.heap.size+1,2,none⟩) (Or.inl (by simp)) (.string ⟨#[]⟩)).setCell (p:=⟨w.heap.size+1,3,none⟩) (Or.inl (by simp)) (.int .i64 ((j:Int) - u+1))).setCell (p:=⟨w.heap.size+1,4,none⟩) (Or.inl (by simp)) (.slice ka' c.length kc'));refine⟨_,rfl,a2.out.fresh kF (fun y hy=>by rw[List.mem_singleton]at hy;omega),?_⟩;rw[negB,bc.out,br]
      show PdN w.heap.size _ _ (.node 3 [] [] ((j:Int) - u+1) c)
      exact⟨[.int .i64 3,.string ⟨#[]⟩,.string ⟨#[]⟩,.int .i64 ((j:Int) - u+1),.slice ka' c.length kc'],rfl,(a1.out.imp fun w' hr=>PdR.of_rows (l:=[]) (r:=[]) hr).step kF (fun y hy _=>by rw[List.mem_singleton]at hy;exact List.mem_range.2 (by omega)) (fun y hy=>Or.inl (List.mem_range.2 (by have:=List.mem_range.1 hy;omega)))⟩
end Go.Proofs.YtpcmamoomaddoaaGreatDoor
