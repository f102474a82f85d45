import Derived.Test.YtpcmamoomaddoaaGreatDoorSgn
import Derived.OrdersHeld
set_option maxRecDepth 100000
set_option maxHeartbeats 32000000
namespace Go.Proofs.YtpcmamoomaddoaaGreatDoor
open Go.RowKit
open Go.Proofs.Tryz
open Lib(hid)
/-- two kids that a slice literal lays -/
theorem PdN.pair{B:Nat}{w:World}{g:Nat}{T:TypeId}{c1 c2:List Value}{p1 p2:Pd}(hb:Blk w g T (c1++c2).toArray)(hg:B<=g)(h1:aw (List.range B) (fun w=>PdR w c1 p1) w)(h2:aw (List.range B) (fun w=>PdR w c2 p2) w)(k c:Int)(l r:Bs) :
  PdN B w (.agg #[.int .i64 k,.string ⟨l.toArray⟩,.string ⟨r.toArray⟩,.int .i64 c,.slice (some ⟨g,0,none⟩) 2 2]) (.node k l r c [p1,p2]):=by
 refine⟨[.int .i64 k,.string ⟨l.toArray⟩,.string ⟨r.toArray⟩,.int .i64 c,.slice (some ⟨g,0,none⟩) 2 2],rfl,?_⟩;refine((aw.blk hb (fun hm=>by have:=List.mem_range.1 hm;omega)).and (h1.and h2)).imp fun w' h=>?_;obtain⟨m,e,d⟩:=h;refine PdR.of_rows ⟨[c1,c2],rfl,?_,?_,?_⟩
 ·intro x f;simp only[List.mem_cons,List.not_mem_nil,or_false]at f
  rcases f with rfl|rfl
  ·exact e.len
  ·exact d.len
 ·intro j a b
  rcases j with _|_|j
  ·simp at b;subst b;exact⟨c1,rfl,e⟩
  ·simp at b;subst b;exact⟨c2,rfl,d⟩
  ·simp at b
 ·have i:(c1++c2).length=2*5:=by rw[List.length_append,e.len,d.len]
  have:=al (size:=5) (n:=2) m i (by decide)
  simpa using this
theorem eu(B:Nat)(w:World)(l r:Bs)(c:Int):aw (List.range B) (fun w=>PdR w [.int .i64 0,.string ⟨l.toArray⟩,.string ⟨r.toArray⟩,.int .i64 c,.slice none 0 0] (.node 0 l r c [])) w :=
 fun _ _ _ _=>PdR.of_rows (aj.nil_ _ _ _)
theorem ud{w2:World}{tmps:Array Value}{v0 v1 v2 v3 v4 X:Value}{b:Nat}{R:Ending->World->Prop}(hb:Blk w2 b 46 #[v0,v1,v2,v3,v4])(h2:tmps[6]?.getD undef=.pointer (some ⟨b,0,none⟩))
  (hX:.agg #[v0,v1,v2,v3,v4]=X) (hR:R (.returned X) w2) :
  bodyPost prog Tryz.f257 R Exit.ret { tmps:=tmps,defers:=[] } w2:=by
 subst hX;have c0:w2.cell? ⟨b,0,none⟩=some v0:=hb.cell 0;have c1:w2.cell? ⟨b,1,none⟩=some v1:=hb.cell 1;have c2:w2.cell? ⟨b,2,none⟩=some v2:=hb.cell 2;have c3:w2.cell? ⟨b,3,none⟩=some v3:=hb.cell 3;have c4:w2.cell? ⟨b,4,none⟩=some v4:=hb.cell 4;refine bodyPost_ret (v:=.agg #[v0,v1,v2,v3,v4]) ?_ rfl hR;simp only[results,results257]
 simp[go_sem,h2,c0,c1,c2,c3,c4]
theorem nN(a b:Sm)(kd ls:Int)(pk pl:Nat)(w:World)(ha:SmI a)(hb:SmI b)(hls:0<=ls/\ls<=1)(h1:w.cell? ⟨pk,0,none⟩=some (.int .i64 kd))(h2:w.cell? ⟨pl,0,none⟩=some (.int .i64 ls)) :
  Calls prog 257 #[.agg #[.string ⟨a.name.toArray⟩,.int .i64 a.off],.agg #[.string ⟨b.name.toArray⟩,.int .i64 b.off],.pointer (some ⟨pk,0,none⟩),.pointer (some ⟨pl,0,none⟩)] w fun e w' =>
   ∃v,e=.returned v/\Kept [] w w'/\PdN w.heap.size w' v (.node kd [] [] 0 [aJ a b ls,aJ b a ls]):=by
 obtain⟨g,hg⟩:∃g,w.heap.size=g:=⟨_,rfl⟩;obtain⟨W,q⟩:∃W,((w.alloc (.cells #[.string ⟨a.name.toArray⟩,.int .i64 a.off] 252)).alloc (.cells #[.string ⟨b.name.toArray⟩,.int .i64 b.off] 252)).alloc (.cells #[.int .i64 0,.string ⟨#[]⟩,.string ⟨#[]⟩,.int .i64 0,.slice none 0 0] 46)=W:=⟨_,rfl⟩;have j:Kept [] w W:=q▸(((Kept.refl _ _).alloc _).alloc _).alloc _;have n:Blk W w.heap.size 252 #[.string ⟨a.name.toArray⟩,.int .i64 a.off]:=q▸((Blk.new _ _ _).alloc _).alloc _;have m:Blk W (w.heap.size+1) 252 #[.string ⟨b.name.toArray⟩,.int .i64 b.off]:=q▸(Blk.new1 _ _ _ _).alloc _;have l:Blk W (w.heap.size+1+1) 46 #[.int .i64 0,.string ⟨#[]⟩,.string ⟨#[]⟩,.int .i64 0,.slice none 0 0]:=q▸Blk.new2 _ _ _ _ _;have G:W.cell? ⟨w.heap.size,0,none⟩=some (.string ⟨a.name.toArray⟩):=n.cell 0;have F:W.cell? ⟨w.heap.size,1,none⟩=some (.int .i64 a.off):=n.cell 1;have E:W.cell? ⟨w.heap.size+1,0,none⟩=some (.string ⟨b.name.toArray⟩):=m.cell 0;have D:W.cell? ⟨w.heap.size+1,1,none⟩=some (.int .i64 b.off):=m.cell 1;have C:W.cell? ⟨pk,0,none⟩=some (.int .i64 kd):=Kept.cellOf h1 W j;have B:W.cell? ⟨pl,0,none⟩=some (.int .i64 ls):=Kept.cellOf h2 W j;have d:∀ {p:Addr} {v:Value},W.cell? p=some v->p.block≠w.heap.size+1+1->∀w',Kept [w.heap.size+1+1] W w'->w'.cell? p=some v:=fun h i w' k=>(k.cell (World.block_lt_of_cell? W _ h) (by simpa using i)).trans h;have u:pk < w.heap.size:=World.block_lt_of_cell? w _ h1;have t:pl < w.heap.size:=World.block_lt_of_cell? w _ h2;have s0:=d G (by show w.heap.size≠_;omega)
 have s1:=d F (by show w.heap.size≠_;omega);have s2:=d E (by show w.heap.size+1≠_;omega);have s3:=d D (by show w.heap.size+1≠_;omega);have Z:=d C (by show pk≠_;omega);have Y:=d B (by show pl≠_;omega);clear d u t;have A:Hid (∀w',Kept [] W w'->Calls prog 234 #[.agg #[.string ⟨a.name.toArray⟩,.int .i64 a.off],.agg #[.string ⟨b.name.toArray⟩,.int .i64 b.off],.int .i64 ls] w' fun e w2=>e=.returned (.agg #[.int .i64 0,.string ⟨a.name.toArray⟩,.string ⟨b.name.toArray⟩,.int .i64 (b.off - a.off - ls),.slice none 0 0])/\Kept [] w' w2):=fun w' _=>dA a b ls w' ha hb hls;have z:Hid (∀w',Kept [] W w'->Calls prog 234 #[.agg #[.string ⟨b.name.toArray⟩,.int .i64 b.off],.agg #[.string ⟨a.name.toArray⟩,.int .i64 a.off],.int .i64 ls] w' fun e w2=>e=.returned (.agg #[.int .i64 0,.string ⟨b.name.toArray⟩,.string ⟨a.name.toArray⟩,.int .i64 (a.off - b.off - ls),.slice none 0 0])/\Kept [] w' w2):=fun w' _=>dA b a ls w' hb ha hls;have X:∀w',Kept [] W w'->w'.cell? ⟨w.heap.size+1+1,0,none⟩=some (.int .i64 0):=Kept.cellOf (l.cell 0);have HB:=hid l;have HK:=hid j;have HW:=hid q;clear q j n m l h1 h2 hg X G F E D C B
 go_enter func257,ntmps257
 go_upto_region 1 with(fail);have hW':=HW.out;rw[hW'];clear hW' ha hb
 go_region_held3 (fun w'=>Kept [w.heap.size+1+1] W w') (repeat (first|(with_reducible assumption)|(with_reducible exact Kept.refl _ _)|(with_reducible refine Kept.drew ?_)|(with_reducible refine Kept.alloc ?_ _)|(with_reducible refine Kept.setCell ?_ (Or.inl (by simp)) _)|(with_reducible refine Kept.trans ?_ (s.mono (by simp)))|(with_reducible refine Kept.trans ?_ (x.mono (by simp)))))
  (first
   |(go_at_call 234;(with_reducible refine(A.out _ (by(repeat (first|(with_reducible assumption)|(with_reducible exact Kept.refl _ _)|(with_reducible refine Kept.drew ?_))))).mono ?_);rintro e w5 ⟨rfl,s⟩)
   |(go_at_call 234;(with_reducible refine(z.out _ (by(repeat (first|(with_reducible assumption)|(with_reducible exact Kept.refl _ _)|(with_reducible refine Kept.drew ?_)|(with_reducible refine Kept.trans ?_ s))))).mono ?_);rintro e f ⟨rfl,x⟩;have y:Kept [] W f:=(by(refine Kept.trans ?_ x;repeat (first|(with_reducible assumption)|(with_reducible exact Kept.refl _ _)|(with_reducible refine Kept.drew ?_)|(with_reducible refine Kept.trans ?_ s))));have c:=HB.out.kept y (by simp);have P:f.cell? ⟨w.heap.size+1+1,0,none⟩=some (.int .i64 0):=c.cell 0;have O:f.cell? ⟨w.heap.size+1+1,1,none⟩=some (.string ⟨#[]⟩):=c.cell 1;have N:f.cell? ⟨w.heap.size+1+1,2,none⟩=some (.string ⟨#[]⟩):=c.cell 2;have M:f.cell? ⟨w.heap.size+1+1,3,none⟩=some (.int .i64 0):=c.cell 3;have L:f.cell? ⟨w.heap.size+1+1,4,none⟩=some (.slice none 0 0):=c.cell 4;have f0:=c.frozen 0;have f1:=c.frozen 1;have f2:=c.frozen 2;have f3:=c.frozen 3;have f4:=c.frozen 4;have V:∀o:Obj,(f.alloc o).cell? ⟨w.heap.size+1+1,0,none⟩=some (.int .i64 0):=fun o=>(c.alloc o).cell 0;have g0:∀o:Obj,(f.alloc o).frozen? ⟨w.heap.size+1+1,0,none⟩=false:=fun o=>(c.alloc o).frozen 0;have U:∀o:Obj,(f.alloc o).cell? ⟨w.heap.size+1+1,1,none⟩=some (.string ⟨#[]⟩):=fun o=>(c.alloc o).cell 1;have g1:∀o:Obj,(f.alloc o).frozen? ⟨w.heap.size+1+1,1,none⟩=false:=fun o=>(c.alloc o).frozen 1;have T:∀o:Obj,(f.alloc o).cell? ⟨w.heap.size+1+1,2,none⟩=some (.string ⟨#[]⟩):=fun o=>(c.alloc o).cell 2;have g2:∀o:Obj,(f.alloc o).frozen? ⟨w.heap.size+1+1,2,none⟩=false:=fun o=>(c.alloc o).frozen 2;have R:∀o:Obj,(f.alloc o).cell? ⟨w.heap.size+1+1,3,none⟩=some (.int .i64 0):=fun o=>(c.alloc o).cell 3;have g3:∀o:Obj,(f.alloc o).frozen? ⟨w.heap.size+1+1,3,none⟩=false:=fun o=>(c.alloc o).frozen 3;have Q:∀o:Obj,(f.alloc o).cell? ⟨w.heap.size+1+1,4,none⟩=some (.slice none 0 0):=fun o=>(c.alloc o).cell 4;have g4:∀o:Obj,(f.alloc o).frozen? ⟨w.heap.size+1+1,4,none⟩=false:=fun o=>(c.alloc o).frozen 4)
   |fail)
 have a2:=c.lt;have r:=((((c.alloc (.cells #[.int .i64 0,.string ⟨a.name.toArray⟩,.string ⟨b.name.toArray⟩,.int .i64 (b.off - a.off - ls),.slice none 0 0,.int .i64 0,.string ⟨b.name.toArray⟩,.string ⟨a.name.toArray⟩,.int .i64 (a.off - b.off - ls),.slice none 0 0] 46)).set_ 0 (.int .i64 kd)).set_ 1 (.string ⟨#[]⟩)).set_ 2 (.string ⟨#[]⟩)).set_ 3 (.int .i64 0) |>.set_ 4 (.slice (some ⟨f.heap.size,0,none⟩) 2 2)
 have i:f.heap.size≠w.heap.size+1+1:=by omega
 have J:=(((((Blk.new f 46 #[.int .i64 0,.string ⟨a.name.toArray⟩,.string ⟨b.name.toArray⟩,.int .i64 (b.off - a.off - ls),.slice none 0 0,.int .i64 0,.string ⟨b.name.toArray⟩,.string ⟨a.name.toArray⟩,.int .i64 (a.off - b.off - ls),.slice none 0 0]).far (p:=⟨w.heap.size+1+1,0,none⟩) i (.int .i64 kd)).far (p:=⟨w.heap.size+1+1,1,none⟩) i (.string ⟨#[]⟩)).far (p:=⟨w.heap.size+1+1,2,none⟩) i (.string ⟨#[]⟩)).far (p:=⟨w.heap.size+1+1,3,none⟩) i (.int .i64 0)).far (p:=⟨w.heap.size+1+1,4,none⟩) i (.slice (some ⟨f.heap.size,0,none⟩) 2 2);have I:Kept [] w (f.alloc (.cells #[.int .i64 0,.string ⟨a.name.toArray⟩,.string ⟨b.name.toArray⟩,.int .i64 (b.off - a.off - ls),.slice none 0 0,.int .i64 0,.string ⟨b.name.toArray⟩,.string ⟨a.name.toArray⟩,.int .i64 (a.off - b.off - ls),.slice none 0 0] 46)):=(HK.out.trans y).alloc _;have H1:=hid r;have H2:=hid J;have H3:=hid I;clear r J I c y s x V U T R Q g0 g1 g2 g3 g4 P O N M L f0 f1 f2 f3 f4 s0 s1 s2 s3 Z Y;go_wp2_with fail;refine ud H1.out rfl rfl ⟨_,rfl,?_,PdN.pair (c1:=[.int .i64 0,.string ⟨a.name.toArray⟩,.string ⟨b.name.toArray⟩,.int .i64 (b.off - a.off - ls),.slice none 0 0]) (c2:=[.int .i64 0,.string ⟨b.name.toArray⟩,.string ⟨a.name.toArray⟩,.int .i64 (a.off - b.off - ls),.slice none 0 0]) H2.out (by omega) (eu _ _ _ _ _) (eu _ _ _ _ _) kd 0 [] []⟩;exact((((H3.out.setCell (Or.inr (Nat.le_add_right _ 2)) _).setCell (Or.inr (Nat.le_add_right _ 2)) _).setCell (Or.inr (Nat.le_add_right _ 2)) _).setCell (Or.inr (Nat.le_add_right _ 2)) _).setCell (Or.inr (Nat.le_add_right _ 2)) _
end Go.Proofs.YtpcmamoomaddoaaGreatDoor
namespace Go.Proofs.YtpcmamoomaddoaaGreatDoor
open Go.RowKit
section
variable {P:Program} {ops:Array Oper} {Q:Exit->Act->World->Prop} {md:Region.Mode} {S:World->Prop} {T:List Nat}
/-- none of the last part has come up -/
def mA(T:List Nat)(listed:Array Bool):Prop:=∀t∈T,listed.getD t true=false
def dF(P:Program)(md:Region.Mode)(ops:Array Oper)(Q:Exit->Act->World->Prop)(S:World->Prop)(T:List Nat):Nat->Array Bool->Act->World->Prop
 |0,listed,a,w=>Region.ready md ops listed=[]/\Q .normal a w
 |fuel+1,listed,a,w =>
  (Region.ready md ops listed=[]->Q .normal a w) /\
  ∀i∈Region.ready md ops listed,wpOp P ops Q i (fun a' w'=>(mA T (listed.setIfInBounds i true)->S w')/\dF P md ops Q S T fuel (listed.setIfInBounds i true) a' w') a w
theorem jB:∀(fuel:Nat) (listed:Array Bool) (a:Act) (w:World),dF P md ops Q S T fuel listed a w->wpAny P md ops Q fuel listed a w
 |0,_,_,_,h=>h
 |fuel+1,_,_,_,h=>⟨h.1,fun i hi=>wpOp_mono (fun a' w' h'=>jB fuel _ a' w' h'.2) (h.2 i hi)⟩
/-- no operation of D can come up ahead of i -/
def nA(md:Region.Mode)(ops:Array Oper)(i:Nat)(D:List Nat):Bool :=
 D.all fun t=>match ops[t]? with
  |some o=>o.after.any fun e=>Region.binds md e&&((e.on==i) ||D.contains e.on)
  |none=>false
theorem px{i:Nat}{D:List Nat}(h:nA md ops i D=true):∀t∈D,∃o,ops[t]?=some o/\∃e∈o.after,Region.binds md e=true/\(e.on=i\/e.on∈D):=fun t ht=>by
 have h1:=List.all_eq_true.1 h t ht
 cases ho:ops[t]? with
 |none=>rw[ho]at h1;simp at h1
 |some o =>
  rw[ho]at h1;simp only[Array.any_eq_true']at h1;obtain⟨e,he,h2⟩:=h1;rw[Bool.and_eq_true]at h2;exact⟨o,rfl,e,he,h2.1,by simpa using h2.2⟩
theorem mB{i:Nat}{oi:Oper}{v:Value}(hi:ops[i]?=some oi)(hsel:∀(j:Nat) (o:Oper) cs b,ops[j]?=some o->o.op≠.select cs b)
  (hQ:∀c a w,Q (.panic c) (a.put oi.dst v) w->Q (.panic c) a w) {D:List Nat} (hwt:∀t∈D,∃o,ops[t]?=some o/\∃e∈o.after,Region.binds md e=true/\(e.on=i\/e.on∈D)) (hiD:i∉D) (hTD:∀t∈T,t∈D) :
  ∀(fuel:Nat) (listed:Array Bool) (a:Act) (w:World),
   (∀j oj,ops[j]?=some oj->j≠i->listed.getD j true=false->(∀e∈oj.after,Region.binds md e=true->e.on≠i)->oi.apart ops oj=true) ->
   i∈Region.ready md ops listed->YieldsIf P ops S oi v a->S w->mA D listed ->
   dF P md ops Q S T fuel (listed.setIfInBounds i true) (a.put oi.dst v) w->dF P md ops Q S T (fuel+1) listed a w:=by
 have f:∀ {listed:Array Bool} {j:Nat},mA D listed->j∉D->mA D (listed.setIfInBounds j true):=fun{listed j} s hj t ht=>by
  rw[getD_set_ne true (fun e=>hj (by subst e;exact ht))];exact s t ht
 intro fuel
 induction fuel with
 |zero =>
  intro listed a w _ r A x s H;refine⟨fun h=>(by rw[h]at r;cases r),fun j hj=>?_⟩
  by_cases hji:j=i
  ·subst hji;exact A.wpOp hi x ⟨fun _=>x,H⟩
  ·have:=ready_mono hj hji;rw[H.1]at this
   cases this
 |succ fuel ih =>
  intro listed a w g r A x s H;refine⟨fun h=>(by rw[h]at r;cases r),fun j hj=>?_⟩
  by_cases hji:j=i
  ·subst hji;exact A.wpOp hi x ⟨fun _=>x,H⟩
  ·have l:=H.2 j (ready_mono hj hji);obtain⟨p,oj,m,q⟩:=mem_ready.1 hj
   have n:∀e∈oj.after,Region.binds md e=true->e.on≠i:=fun e C E d=>by
    have l:=q e C E;have G:=(mem_ready.1 r).1;rw[d]at l
    rcases Nat.lt_or_ge i listed.size with h'|h'
    ·simp[h']at G l;rw[G]at l;cases l
    ·simp[Array.getElem?_eq_none h']at l
   have u:j∉D:=fun hm=>by
    obtain⟨o,B,e,C,E,d⟩:=hwt j hm;rw[m]at B;injection B with B;subst B
    rcases d with d|d
    ·exact n e C E d
    ·have l:=q e C E;have z:=s _ d
     rcases Nat.lt_or_ge e.on listed.size with h'|h'
     ·simp[h']at l z
      rw[z]at l
      cases l
     ·simp[Array.getElem?_eq_none h']at z
   have z:=wpOp_putIf m (g j oj m hji p n) (fun cs b=>hsel i oi cs b hi) (fun cs b=>hsel j oj cs b m) hQ A l
   have hfree':∀k ok,ops[k]?=some ok->k≠i->(listed.setIfInBounds j true).getD k true=false ->
     (∀e∈ok.after,Region.binds md e=true->e.on≠i)->oi.apart ops ok=true:=fun k ok hk hki hun hno=>by
    refine g k ok hk hki ?_ hno
    by_cases hjk:j=k
    ·subst hjk;exact p
    ·rw[getD_set_ne true hjk]at hun;exact hun
   have F:=f s u;have y:mA T ((listed.setIfInBounds i true).setIfInBounds j true):=fun t ht=>f (f s hiD) u t (hTD t ht);refine wpOp_mono (fun a' w' h3=>⟨fun _=>h3.2.1 y,ih (listed.setIfInBounds j true) a' w' hfree' (ready_mono r (Ne.symm hji)) h3.1 (h3.2.1 y) F ?_⟩) z;rw[Array.setIfInBounds_comm _ _ hji];exact h3.2.2
theorem ah(D:List Nat){i:Nat}{d:Option Tmp}{op:Go.Op}{ty:TypeId}{pos:String}{after:Array Edge}{g:Option (Nat × Bool)}
  {v:Value} {fuel:Nat} {listed:Array Bool} {a:Act} {w:World} (hi:ops[i]?=some ⟨d,op,ty,pos,after,g⟩)
  (hs:Region.noSelect ops=true) (hf:Region.free md ops listed i=true) (hr:(Region.ready md ops listed).contains i=true) (hw:(nA md ops i D&&!D.contains i&&(D.all fun t=>!listed.getD t true)&&T.all D.contains)=true)
  (hQ:∀c a w,Q (.panic c) (a.put d v) w->Q (.panic c) a w) (hy:YieldsIf P ops S ⟨d,op,ty,pos,after,g⟩ v a) (hS:S w)
  (h:dF P md ops Q S T fuel (listed.setIfInBounds i true) (a.put d v) w):dF P md ops Q S T (fuel+1) listed a w:=by
 rw[Bool.and_eq_true,Bool.and_eq_true,Bool.and_eq_true]at hw;obtain⟨⟨⟨j,f⟩,e⟩,b⟩:=hw;exact mB hi (Region.noSelect_spec hs) hQ (px j) (by simpa using f) (fun t ht=>by simpa using List.all_eq_true.1 b t ht) fuel listed a w (Region.free_spec hi hf) (by simpa using hr) hy hS (fun t ht=>by simpa using List.all_eq_true.1 e t ht) h
def ae(P:Program)(md:Region.Mode)(ops:Array Oper)(Q:Exit->Act->World->Prop)(S:World->Prop)(T:List Nat)(fuel:Nat)(listed:Array Bool)(a:Act)(w:World)(rs:List Nat):Prop :=
 ∀i∈rs,wpOp P ops Q i (fun a' w'=>(mA T (listed.setIfInBounds i true)->S w')/\dF P md ops Q S T fuel (listed.setIfInBounds i true) a' w') a w
theorem ae.nil{fuel:Nat}{listed:Array Bool}{a:Act}{w:World}:ae P md ops Q S T fuel listed a w []:=fun _ h=>by cases h
/-- ahead of the last part -/
theorem ae.cons{fuel:Nat}{listed:Array Bool}{a:Act}{w:World}{i:Nat}{o:Oper}{rs:List Nat}(ho:ops[i]?=some o)
  (h:∀K':Act->World->Prop,Shut (∀a w,S w->(S w->dF P md ops Q S T fuel (listed.setIfInBounds i true) a w)->K' a w)->if Region.wanted o (yielded ops a.tmps)=true then Oper.wp P o a w K' Q else K' (a.put o.dst undef) w)
  (hs:ae P md ops Q S T fuel listed a w rs):ae P md ops Q S T fuel listed a w (i::rs):=fun j hj=>by
 rcases List.mem_cons.1 hj with rfl|hj
 ·exact wpOp_step ho (fun K' hK=>h K' (fun a w hS hW=>hK a w ⟨fun _=>hS,hW hS⟩))
 ·exact hs j hj
/-- in the last part -/
theorem ae.last{fuel:Nat}{listed:Array Bool}{a:Act}{w:World}{i:Nat}{o:Oper}(ho:ops[i]?=some o)(hT:(T.any fun t=>(listed.setIfInBounds i true).getD t true)=true)
  (h:∀K':Act->World->Prop,Shut (∀a w,dF P md ops Q S T fuel (listed.setIfInBounds i true) a w->K' a w)->if Region.wanted o (yielded ops a.tmps)=true then Oper.wp P o a w K' Q else K' (a.put o.dst undef) w):ae P md ops Q S T fuel listed a w [i]:=fun j hj=>by
 rw[List.mem_singleton]at hj;subst hj;refine wpOp_step ho (fun K' hK=>h K' (fun a w hW=>hK a w ⟨fun hA=>?_,hW⟩));obtain⟨t,ht,h1⟩:=List.any_eq_true.1 hT;rw[hA t ht]at h1
 cases h1
theorem ai{rs:List Nat}{fuel:Nat}{listed:Array Bool}{a:Act}{w:World}(hr:Region.ready md ops listed=rs)(hne:rs≠[])
  (h:ae P md ops Q S T fuel listed a w rs):dF P md ops Q S T (fuel+1) listed a w := ⟨fun h0=>absurd (hr▸h0) hne,hr▸h⟩
theorem ak{listed:Array Bool}{a:Act}{w:World}(hr:Region.ready md ops listed=[])(h:Q .normal a w) :
  ∀fuel,dF P md ops Q S T fuel listed a w
 |0=>⟨hr,h⟩
 |_+1=>⟨fun _=>h,by rw[hr];simp⟩
theorem ar{id:Nat}{a:Act}{w:World}(T:List Nat)(S:World->Prop)(hm:P.follows .mixedOrders=true)(hS:S w.drew)
  (h:S w.drew->dF P .any ops Q S T ops.size (Array.replicate ops.size false) a w.drew):(Code.region id ops true).wp P Q a w :=
 wp_region_any hm (jB _ _ _ _ (h hS))
end
end Go.Proofs.YtpcmamoomaddoaaGreatDoor
