import Derived.Test.YtpcmamoomaddoaaGreatDoorNeg
import Derived.Shelf.SlIter.Sorted
set_option maxRecDepth 100000
set_option maxHeartbeats 32000000
namespace Go.Proofs.YtpcmamoomaddoaaGreatDoor
open Go.RowKit Go.Maps
open Go.Proofs.Tryz
open Lib(hid)
theorem am.mono{P:Program}{kt:TypeId}{α:Type}{E:KeyEnc P kt α}{w:World}{b n n':Nat}{f:α->Option Value}(h:am E w b n f)(hn:n<=n'):am E w b n' f:=by
 obtain⟨D,⟨es,clock,h1,h2,h3,h4⟩,h5⟩:=h;exact⟨D,⟨es,clock,h1,h2,by omega,h4⟩,h5⟩
mutual
def atomsB:Pd->List K3
 | .node k l r c ks=>if k=0 then[(l,r,c)]else atomsL ks
def atomsL:List Pd->List K3
 | []=>[]
 |p::l=>atomsB p++atomsL l
end
theorem bw:∀l:List Pd,atomsL l=l.flatMap atomsB
 | []=>rfl
 |p::l=>by rw[atomsL,List.flatMap_cons,bw l]
theorem mQ{s:Bs}(h:aR s=true):s.length<=41:=by
 unfold aR at h
 rw[Bool.or_eq_true]at h
 rcases h with h|h
 ·rw[List.isEmpty_iff]at h;subst h;simp
 ·unfold aG cutB at h
  split at h
  ·cases h
  ·next a b e =>
   split at e
   ·injection e with e;injection e with e1 e2;rw[Bool.and_eq_true]at h;obtain⟨h1,h2⟩:=h
    have l1:a.length<=20:=by unfold cn cE at h1;simp only[Bool.and_eq_true,decide_eq_true_eq]at h1;exact h1.1.1.2
    have l2:b.length<=20:=by unfold cn cE at h2;simp only[Bool.and_eq_true,decide_eq_true_eq]at h2;exact h2.1.1.2
    rw[<-e1]at l1;rw[<-e2,List.length_drop]at l2;omega
   ·cases e
/-- an atom's key can be a key -/
theorem yl{l r:Bs}{c:Int}(h1:aR l=true)(h2:aR r=true)(h3:dt c=true):W3 (l,r,c):=by
 have:=mQ h1;have:=mQ h2
 unfold dt at h3
 simp only[Bool.and_eq_true,decide_eq_true_eq]at h3;refine⟨by unfold maxLen;show l.length<=_;omega,by unfold maxLen;show r.length<=_;omega,?_⟩
 show(Lit.int .i64 c).wf=true
 exact WalkArith.wf_i64 ⟨by omega,by omega⟩
theorem fE{k:Int}{l r:Bs}{c:Int}{ks:List Pd}(h:formedB (.node k l r c ks)=true):(k=0->ks=[]/\W3 (l,r,c))/\(k≠0->∀q∈ks,formedB q=true):=by
 rw[formedB]at h
 constructor
 ·intro h0;rw[if_pos h0]at h;simp only[Bool.and_eq_true,List.isEmpty_iff]at h;exact⟨h.1.1.1,yl h.1.1.2 h.1.2 h.2⟩
 ·intro h0;rw[if_neg h0]at h
  by_cases h1:k=1\/k=2
  ·rw[if_pos h1]at h;simp only[Bool.and_eq_true]at h;exact(bD ks).1 h.2
  ·rw[if_neg h1]at h
   by_cases h3:k=3
   ·rw[if_pos h3]at h;simp only[Bool.and_eq_true]at h;exact(bD ks).1 h.2
   ·rw[if_neg h3]at h;cases h
theorem ir:∀(m:Nat) (p:Pd),sizeB p<=m->formedB p=true->∀x∈atomsB p,W3 x
 |0,.node ..,h,_=>by rw[sizeB]at h;omega
 |m+1,.node k l r c ks,h,hf=>by
  obtain⟨h1,h2⟩:=fE hf;intro x hx;rw[atomsB]at hx
  by_cases h0:k=0
  ·rw[if_pos h0,List.mem_singleton]at hx;exact hx▸(h1 h0).2
  ·rw[if_neg h0,bw,List.mem_flatMap]at hx;obtain⟨q,hq,hx⟩:=hx;rw[sizeB]at h;have:=bh hq;exact ir m q (by omega) (h2 h0 q hq) x hx
def colF(A:List K3)(f:K3->Option Value):K3->Option Value:=fun x=>if x∈A then some (.bool true)else f x
theorem vz(A B:List K3)(f:K3->Option Value):colF (A++B) f=colF B (colF A f):=by
 funext x
 unfold colF
 simp only[List.mem_append]
 by_cases h1:x∈A <;> by_cases h2:x∈B <;> simp[h1,h2]
def ColE(w:World)(b n:Nat)(A:List K3)(f:K3->Option Value)(e:Ending)(w':World):Prop :=
 e=.returned (.tuple #[])/\Kept [b] w w'/\am fF w' b n (colF A f)
theorem oS:∀(m:Nat),m<=100000->∀(p:Pd) (cs:List Value) (w0 w:World) (b n:Nat) (f:K3->Option Value),sizeB p<=m->formedB p=true->PdR w0 cs p->Kept [] w0 w->w0.heap.size<=b->am fF w b n f->n+sizeB p<=1000000 ->
  Calls prog 154 #[.agg cs.toArray,.map (some b)] w (ColE w b (n+sizeB p) (atomsB p) f):=by
 intro m
 induction m with
 |zero=>intro _ p cs w0 w b n f hm;cases p;rw[sizeB]at hm;omega
 |succ m ih =>
  rintro hM ⟨T,l,r,V,a⟩ cs w0 w b n f hm hf hp ao ap o hn;have ih:=ih (by omega);obtain⟨J,I,rfl,i⟩:=hp.rows;rw[sizeB]at hm hn ⊢;obtain⟨_,_,an,ag,_⟩:=i.form;have b2:Hid (a.length<=100000):=hid (by have:=cW a;omega);clear an;obtain⟨a5,a4⟩:=fE hf
  show Calls _ _ #[.agg #[.int .i64 T,.string ⟨l.toArray⟩,.string ⟨r.toArray⟩,.int .i64 V,.slice J a.length I],.map (some b)] w _
  obtain⟨W,P⟩:∃W,w.alloc (.cells #[.int .i64 T,.string ⟨l.toArray⟩,.string ⟨r.toArray⟩,.int .i64 V,.slice J a.length I] 46)=W:=⟨_,rfl⟩;have s:Kept [] w W:=P▸(Kept.refl _ _).alloc _;have d:Blk W w.heap.size 46 #[.int .i64 T,.string ⟨l.toArray⟩,.string ⟨r.toArray⟩,.int .i64 V,.slice J a.length I]:=P▸Blk.new _ _ _
  have b8:W.heap.size=w.heap.size+1:=by rw[<-P];simp
  have q0:W.cell? ⟨w.heap.size,0,none⟩=some (.int .i64 T):=d.cell 0;have q1:W.cell? ⟨w.heap.size,1,none⟩=some (.string ⟨l.toArray⟩):=d.cell 1;have q2:W.cell? ⟨w.heap.size,2,none⟩=some (.string ⟨r.toArray⟩):=d.cell 2;have q3:W.cell? ⟨w.heap.size,3,none⟩=some (.int .i64 V):=d.cell 3;have q4:W.cell? ⟨w.heap.size,4,none⟩=some (.slice J a.length I):=d.cell 4;have D:=o.kept s (by simp);have ba:b < w.heap.size:=o.lt
  by_cases h0:T=0
  ·obtain⟨rfl,aa⟩:=a5 h0;subst h0;have H1:=hid (iQ 0 l r V J 0 I W);have R:=hid s;have HW:=hid P;have Q:=hid D;have HH:Hid (w.heap.size≠b):=hid (by omega);clear P s d i hp ih o D
   go_enter func154,ntmps154
   go_upto_region 1 with(fail);have hW':=HW.out
   dsimp only[List.length_nil]at hW' q4
   rw[hW'];clear hW'
   go_wp2_with (first
    |(go_at_call 200;refine H1.out.mono ?_;rintro e w5 ⟨rfl,N⟩;have A:=Q.out.kept N (by simp);have z4:w5.cell? ⟨w.heap.size,4,none⟩=some (.slice J 0 I):=Kept.cellOf q4 _ N)
    |(at_mapUpdate;refine dQ (E:=fF) A aa rfl _ _ _ 210 4 rfl underlying210 (by unfold maxLen;omega) (.bool true) rfl rfl rfl ?_;intro w6 a1 a3 ab;have k6:Kept [b] w5 w6:=Kept.of_turned a3 (by simp);have z6:w6.cell? ⟨w.heap.size,4,none⟩=some (.slice J 0 I):=(k6.cell (p:=⟨w.heap.size,4,none⟩) (World.block_lt_of_cell? _ _ z4) (by simpa using HH.out)).trans z4)
    |go_in)
   have av:=hid a1;have b3:=hid ((R.out.trans N |>.mono (fun _ _ h=>by simp at h):Kept [b] w w5).trans k6);clear a1 k6 z6 z4 a3 ab A N H1
   go_loopw [15] (fun v wr=>v=.int .i64 0/\wr=w6) (fun _ _=>0)
   case atStart=>exact⟨rfl,rfl⟩
   case round =>
    obtain⟨rfl,rfl⟩:=hrel;go_wp2_with fail
    go_end0
    refine⟨rfl,b3.out,?_⟩;refine(av.out.mono (by omega)).congr fun x _=>?_
    unfold colF
    rw[atomsB,if_pos rfl]
    by_cases e:x=(l,r,V) <;> simp[e]
  ·have b9:(T==0)=false:=by simpa using h0
   have b6:=hid (a4 h0);have a7:Kept [] w0 W:=ao.trans s;have b5:=hid a7;have R:=hid s;have HW:=hid P;have Q:=hid D;have L:=hid i;have HH:Hid (w.heap.size≠b):=hid (by omega);clear P s a7 hp o D i a5 a4 hf;have HQ:Hid (∀(w':World),Kept [b] W w'->w'.cell? ⟨w.heap.size,4,none⟩=some (.slice J a.length I)):=hid (fun w' k=>by have:=HH.out;exact((d.kept k (by simpa using this)).cell 4));clear d;obtain⟨M,af⟩:∃M,a.length=M:=⟨_,rfl⟩;rw[af]at b2 L HQ HW q4 ag ⊢
   go_enter func154,ntmps154
   go_upto_region 1 with(fail);have hW':=HW.out;rw[hW'];clear hW';go_wp2_with fail;clear q0 q1 q2 q3 q4
   go_loopw [15] (fun v wr=>∃j:Nat,j<=M/\v=.int .i64 j/\Kept [b] W wr/\am fF wr b (n+sizeL (a.take j)) (colF (atomsL (a.take j)) f)) (fun v _=>M - (intOf v).toNat)
   case atStart=>exact⟨0,Nat.zero_le _,rfl,Kept.refl _ _,Q.out.congr fun x _=>by simp[colF,atomsL]⟩
   case round =>
    obtain⟨j,hj,rfl,F,g⟩:=hrel;have c:Kept [] w0 wr:=b5.out.fresh F (fun x hx=>by rw[List.mem_singleton]at hx;omega);have a9:=hid F
    by_cases hlt:j < M
    ·have hlt':(j:Int) < (M:Int):=by omega
     obtain⟨bb,y,rfl,hc⟩:=L.out.at_ (by omega);obtain⟨cq,h1,h2,U⟩:=hc j a[j] (List.getElem?_eq_getElem (by omega));obtain⟨q,hq⟩:∃q,a[j]=q:=⟨_,rfl⟩;rw[hq]at h2;have O:q∈a:=hq▸List.getElem_mem (by omega)
     have ac:sizeB q<=m:=by have:=bh O;omega
     have ad:formedB q=true:=b6.out q O
     have z:a.take (j+1)=a.take j++[q]:=by rw[List.take_succ_eq_append_getElem (by omega),hq]
     have a0:sizeL (a.take (j+1))=sizeL (a.take j)+sizeB q:=by rw[z,dg];simp[sizeL]
     have a6:atomsL (a.take (j+1))=atomsL (a.take j)++atomsB q:=by rw[z,bw,bw,List.flatMap_append];simp
     have a2:sizeL (a.take (j+1))<=sizeL a:=by
      have:=dg (a.take (j+1)) (a.drop (j+1));rw[List.take_append_drop]at this;omega
     have a8:=hid a0;have b7:=hid a6;have b1:=hid a2;clear z a0 a6 a2 hq hc O;obtain⟨Z,Y,X,qc,u⟩:=q;obtain⟨qa,B,rfl,_⟩:=h2.rows;have y0:wr.cell? ⟨bb,y+j*5,none⟩=some (.int .i64 Z):=Kept.cellOf (U 0 _ (by decide) rfl) _ c;have y1:wr.cell? ⟨bb,y+j*5+1,none⟩=some (.string ⟨Y.toArray⟩):=Kept.cellOf (U 1 _ (by decide) rfl) _ c;have y2:wr.cell? ⟨bb,y+j*5+2,none⟩=some (.string ⟨X.toArray⟩):=Kept.cellOf (U 2 _ (by decide) rfl) _ c;have y3:wr.cell? ⟨bb,y+j*5+3,none⟩=some (.int .i64 qc):=Kept.cellOf (U 3 _ (by decide) rfl) _ c;have y4:wr.cell? ⟨bb,y+j*5+4,none⟩=some (.slice qa u.length B):=Kept.cellOf (U 4 _ (by decide) rfl) _ c;obtain⟨G,C⟩:∃x,wr.alloc (.cells #[.int .i64 Z,.string ⟨Y.toArray⟩,.string ⟨X.toArray⟩,.int .i64 qc,.slice qa u.length B] 46)=x:=⟨_,rfl⟩;have kA:Kept [] wr G:=C▸(Kept.refl _ _).alloc _;have t:Blk G wr.heap.size 46 #[.int .i64 Z,.string ⟨Y.toArray⟩,.string ⟨X.toArray⟩,.int .i64 qc,.slice qa u.length B]:=C▸Blk.new _ _ _;have x0:G.cell? ⟨wr.heap.size,0,none⟩=some (.int .i64 Z):=t.cell 0;have x1:G.cell? ⟨wr.heap.size,1,none⟩=some (.string ⟨Y.toArray⟩):=t.cell 1;have x2:G.cell? ⟨wr.heap.size,2,none⟩=some (.string ⟨X.toArray⟩):=t.cell 2;have x3:G.cell? ⟨wr.heap.size,3,none⟩=some (.int .i64 qc):=t.cell 3;have x4:G.cell? ⟨wr.heap.size,4,none⟩=some (.slice qa u.length B):=t.cell 4;have IH:=hid (ih (.node Z Y X qc u) _ w0 G b (n+sizeL (a.take j)) _ ac ad h2 (c.trans kA) ap (g.kept kA (by simp)) (by have:=a8.out;have:=b1.out;omega))
     have aq:=hid C;have KA:=hid kA;clear h1 h2 U C kA t g c F;go_upto_region 6 with(fail);have hwA':=aq.out;rw[hwA'];clear hwA' y0 y1 y2 y3 y4;go_wp2_with (go_at_call 154;refine IH.out.mono ?_;rintro e w5 ⟨rfl,N,A⟩);have b0:=hid A;have b4:=hid (((a9.out.trans (KA.out.mono (fun _ _ h=>by simp at h))).trans N));clear A N
     go_roundw
     case rel =>
      refine⟨j+1,by omega,by go_num,b4.out,?_⟩;rw[a8.out,b7.out,vz,<-Nat.add_assoc];exact b0.out
     case measure=>simp[intOf];omega
    ·obtain rfl:j=M:=by omega
     have au:=hid g;clear g F c;go_wp2_with fail
     go_end0
     have z:a.take j=a:=List.take_of_length_le (by omega);have g:=au.out;rw[z]at g;refine⟨rfl,(R.out.mono (fun _ _ h=>by simp at h)).trans a9.out,?_⟩;rw[atomsB,if_neg h0];exact g.mono (by omega)
end Go.Proofs.YtpcmamoomaddoaaGreatDoor
namespace Go.Proofs.YtpcmamoomaddoaaGreatDoor
open Go.RowKit Go.Maps Go.Sort Go.Shelf Go.Lib
open Go.Proofs.Tryz
theorem eH{α:Type}[DecidableEq α]:∀(l m:List α),l.Nodup->(∀x∈l,x∈m)->l.length<=m.length
 | [],_,_,_=>Nat.zero_le _
 |a::l,m,hn,hs=>by
  rw[List.nodup_cons]at hn;have ha:=hs a List.mem_cons_self;have:=eH l (m.erase a) hn.2 (fun x hx=>(List.mem_erase_of_ne (fun(e:x=a)=>hn.1 (e▸hx))).2 (hs x (List.mem_cons_of_mem _ hx)));rw[List.length_erase_of_mem ha]at this;have:=List.length_pos_of_mem ha;rw[List.length_cons];omega
theorem pD(n:Nat)(hn:4<=n)(g:Nat)(lb:Array Value)(eg:∀args w,(callFunc g args).run prog w=.ok (.enter g args) w)
  (S:List K3->Prop) (N:Nat) (hN:N<=1000000) (w:World) (hseq:SeqGives Fence.wide (n - 1 - 1 - 1) prog g lb kv3 S N w) (hS:∀ss,S ss->ss.length<=N) :
  CallsIn Fence.wide n prog 155 #[.func (.func g) #[] lb,.func (.func 157) #[] #[]] w fun e w'=>∃(v:Value) (ss:List K3),e=.returned v/\(∃t,S t/\ss.Perm t)/\w'.ownsRow w.heap.size 182 3 v ss.length (cw ss)/\Kept [] w w':=by
 have m:∀args w,(callFunc 201 args).run prog w=.ok (.enter 201 args) w:=enters_of func201 (by kernel_rfl) rfl;have i:Fence.wide.fn 201:=trivial;have h:Fence.wide.fn 202:=trivial
 have l:1<=n:=by omega
 refine callsIn_of_wp func155 rfl trivial ?_ rfl;simp only[ntmps155,List.size_toArray,List.length_cons,List.length_nil,Nat.reduceAdd,Nat.reduceSub,Array.replicate_succ,Array.replicate_zero,List.push_toArray,List.append_toArray,List.nil_append,List.cons_append]
 gi_wp2_with (first
  |(gi_at_call 201;refine(oT Fence.wide (n - 1) trivial trivial rfl (by omega) g lb trivial eg S N (by unfold maxLen;omega) (by omega) _ hseq).mono ?_;rintro e w' ⟨v,ss,rfl,c,a,j⟩)
  |(gi_at_call 202;refine(callsIn_wide.2 (xU a (by have:=hS ss c;omega))).mono ?_;rintro e k ⟨rfl,l',d,b,f⟩))
 go_ret;refine⟨v,l',rfl,⟨ss,c,d⟩,by rw[d.length_eq];exact b,?_⟩;exact(Kept.of_below j).fresh f (fun x hx=>(aA a x hx).1)
mutual
theorem ee:∀p:Pd,(atomsB p).length<=sizeB p
 | .node k l r c ks=>by
  rw[atomsB,sizeB];have:=kU ks
  split
  ·rw[List.length_singleton];omega
  ·omega
theorem kU:∀l:List Pd,(atomsL l).length<=sizeL l
 | []=>by simp[atomsL]
 |p::l=>by
  rw[atomsL,sizeL,List.length_append];have:=ee p;have:=kU l;omega
end
theorem mx{p:Pd}{cs:List Value}{w:World}(hp:PdR w cs p)(hf:formedB p=true)(hsz:sizeB p<=100000) :
  Calls prog 120 #[.agg cs.toArray] w fun e w'=>∃(v:Value) (ks:List K3),e=.returned v/\ks.Nodup/\(∀x,x∈ks↔x∈atomsB p)/\w'.ownsRow w.heap.size 182 3 v ks.length (cw ks)/\Kept [] w w':=by
 have O:=@run_makeMap prog;have r:=ir 100000 p hsz hf;have g:=ee p;refine(callsIn_wide (n:=8)).1 ?_;refine callsIn_of_wp func120 rfl trivial ?_ rfl;have R:Fence.wide.fn 154:=trivial;have Q:Fence.wide.fn 156:=trivial;have P:Fence.wide.fn 155:=trivial;simp only[ntmps120,List.size_toArray,List.length_cons,List.length_nil,Nat.reduceAdd,Nat.reduceSub,Array.replicate_succ,Array.replicate_zero,List.push_toArray,List.append_toArray,List.nil_append,List.cons_append];obtain⟨k,j,i,l,a⟩:=p;obtain⟨u,f,rfl,_⟩:=hp.rows
 have m:am fF ((w.alloc (.cells #[.int .i64 k,.string ⟨j.toArray⟩,.string ⟨i.toArray⟩,.int .i64 l,.slice u a.length f] 46)).alloc (.map #[] 0)) (w.heap.size+1) 0 (fun _=>none):=by
  have:=am.made (E:=fF) (w.alloc (.cells #[.int .i64 k,.string ⟨j.toArray⟩,.string ⟨i.toArray⟩,.int .i64 l,.slice u a.length f] 46))
  rwa [World.size_alloc]at this
 have d:=oS 100000 (Nat.le_refl _) (.node k j i l a) _ w _ (w.heap.size+1) 0 _ hsz hf hp (((Kept.refl [] w).alloc (.cells #[.int .i64 k,.string ⟨j.toArray⟩,.string ⟨i.toArray⟩,.int .i64 l,.slice u a.length f] 46)).alloc (.map #[] 0)) (by omega) m (by omega);obtain⟨A,J⟩:∃A,atomsB (.node k j i l a)=A:=⟨_,rfl⟩;obtain⟨z,M⟩:∃z,sizeB (.node k j i l a)=z:=⟨_,rfl⟩;rw[J]at r g d;rw[M]at g d hsz;have G:∀args w,(callFunc 203 args).run prog w=.ok (.enter 203 args) w:=enters_of func203 (by kernel_rfl) rfl
 gi_wp2_with (first
  |(gi_at_call 154;refine(callsIn_wide.2 d).mono ?_;rintro e s ⟨rfl,L,y⟩)
  |(gi_at_call 156;refine(sJ Fence.wide _ trivial rfl (some (w.heap.size+1)) _).mono ?_;rintro e X ⟨rfl,rfl⟩))
 have C:∀b,pt (colF A fun _=>none) b->b.Nodup/\∀x,x∈b↔x∈A:=by
  rintro b ⟨F,D,U⟩;refine⟨F,fun x=>⟨fun hx=>?_,fun hx=>U x (r x hx) (by unfold colF;rw[if_pos hx];rfl)⟩⟩;have:=(D x hx).2
  unfold colF at this
  by_cases e:x∈A
  ·exact e
  ·rw[if_neg e]at this;cases this
 have T:∀b,pt (colF A fun _=>none) b->b.length<=0+z:=fun b h=>by
  have:=eH b A (C b h).1 (fun x hx=>((C b h).2 x).1 hx);omega
 have o:SeqGives Fence.wide (7 - 1 - 1 - 1) prog 203 #[.pointer (some ⟨s.heap.size,0,none⟩)] kv3 (pt (colF A fun _=>none)) (0+z) (s.alloc (.cells #[.map (some (w.heap.size+1))] 210)) :=
  oB Fence.wide _ trivial rfl (by omega) s.heap.size (w.heap.size+1) (0+z) _ _ (by simp) ((Blk.new _ _ _).cell 0) (y.kept ((Kept.refl [] _).alloc _) (by simp))
 have I:Kept [] w (s.alloc (.cells #[.map (some (w.heap.size+1))] 210)):=((((Kept.refl [] w).alloc (.cells #[.int .i64 k,.string ⟨j.toArray⟩,.string ⟨i.toArray⟩,.int .i64 l,.slice u a.length f] 46)).alloc (.map #[] 0)).fresh L (by simp)).alloc _;refine(pD 7 (by omega) _ _ G _ (0+z) (by omega) _ o T).mono ?_;rintro e V ⟨v,b,rfl,⟨t,N,c⟩,q,B⟩
 gi_wp2
 go_ret;obtain⟨F,D⟩:=C t N;exact⟨v,b,rfl,c.nodup_iff.2 F,fun x=>by rw[J];exact c.mem_iff.trans (D x),ownsRow_base_a q I.size,I.trans B⟩
theorem ow{D:DV}{w:World}{b n:Nat}(h:w.ownsMap prog 9 rawV b n D):(strKeys D).Nodup/\∀x,x∈strKeys D↔has D (.string x)=true:=by
 obtain⟨f,k,g,_⟩:=h.entries aC.keyed;obtain⟨es',hD',i⟩:=h.keysOf
 obtain rfl:f=es':=by rw[k]at hD';simpa using hD'
 subst k
 have d:∀p∈f,∃x,p.1=.string x:=fun p hp=>by obtain⟨v,m⟩:=i p hp;obtain⟨x,_,l,_⟩:=Maps.keyOf_str underlying9 m;exact⟨x,l⟩
 refine⟨?_,fun x=>?_⟩
 ·show(f.map fun p=>strOf p.1).Nodup
  refine List.pairwise_map.2 (g.imp_of_mem fun{p q} hp' hq' hne e=>hne ?_);obtain⟨a,c⟩:=d p hp';obtain⟨b,o⟩:=d q hq';rw[c,o]at e ⊢;exact congrArg _ e
 ·rw[has_eq,List.any_eq_true]
  show x∈(f.map fun p=>strOf p.1)↔_
  rw[List.mem_map]
  constructor
  ·rintro⟨p,hp',rfl⟩;obtain⟨a,c⟩:=d p hp';exact⟨p,hp',by rw[c];simp[Lit.sameKey,strOf]⟩
  ·rintro⟨p,hp',j⟩;obtain⟨a,c⟩:=d p hp';rw[c]at j;exact⟨p,hp',by rw[c];simpa [Lit.sameKey,strOf]using j⟩
theorem keysS{w:World}{b n:Nat}{f:List UInt8->Option Value}(h:am aC w b n f) :
  ∃D:DV,w.ownsMap prog 9 rawV b n D/\(strKeys D).Nodup/\∀x,x∈strKeys D↔x.length<=maxLen/\(f x).isSome=true:=by
 obtain⟨D,h1,h2⟩:=h;obtain⟨k1,k2⟩:=ow h1;refine⟨D,h1,k1,fun x=>⟨fun hx=>?_,fun⟨hx,hs⟩=>?_⟩⟩
 ·have hl:=strKeys_le h1 underlying9 x hx;refine⟨hl,?_⟩;have h3:=h2 x hl
  cases hf:f x with
  |none=>rw[hf]at h3;have:=(k2 x).1 hx;have h4:has D (.string x)=false:=h3;rw[h4]at this;cases this
  |some v=>rfl
 ·have h3:=h2 x hx
  cases hf:f x with
  |none=>rw[hf]at hs;cases hs
  |some v=>rw[hf]at h3;exact(k2 x).2 (has_true_of_atKey h3)
theorem xT(m:Nat):AnyZ.SortsIn prog Tryz.sorted121_ren Fence.wide m := ⟨fun blk off cap ss W hH hblk hsz=>callsIn_wide.2 (AnyM.slices_Sort_string Tryz.sort159 blk off cap ss W hH hblk hsz),
  fun p cap W=>callsIn_wide.2 (AnyM.slices_Sort_string_none Tryz.sort159 p cap W)⟩
theorem uV(mb:Option Nat)(W:World)(n:Nat):CallsIn Fence.wide n prog 122 #[.map mb] W fun e w'=>e=.returned (.func (.func 160) #[] #[.pointer (some ⟨W.heap.size,0,none⟩)])/\w'=W.alloc (.cells #[.map mb] 178) :=
 AnyZ.keys_in Tryz.keys122 Fence.wide n trivial rfl mb W
theorem pC(n:Nat)(hn:5<=n){w:World}{b m:Nat}{f:List UInt8->Option Value}(hm:am aC w b m f)(hb:m<=1000000) :
  CallsIn Fence.wide n prog 121 #[.func (.func 160) #[] #[.pointer (some ⟨w.heap.size,0,none⟩)]] (w.alloc (.cells #[.map (some b)] 178)) fun e w' =>
   ∃(v:Value) (ns:List (List UInt8)),e=.returned v/\ns.Nodup/\ns.Pairwise (fun x y=>x<=y)/\(∀x,x∈ns↔x.length<=maxLen/\(f x).isSome=true)/\w'.ownsRow w.heap.size 9 1 v ns.length (ns.map encStr)/\Kept [] w w':=by
 have r:=hm.lt;obtain⟨D,d,q,o⟩:=keysS hm;have t:Maps.size D<=m:=d.size_le
 have k:SeqGives Fence.wide (n - 1 - 1 - 1) prog 160 #[.pointer (some ⟨w.heap.size,0,none⟩)] encStr (fun g=>g.Perm (strKeys D)) (Maps.size D) (w.alloc (.cells #[.map (some b)] 178)) :=
  AnyZ.keys_gives (ρ:=Tryz.keys122_ren) { Tryz.keys122 with } Fence.wide _ trivial rfl (by omega) w.heap.size b m D _ (by simp) (by simp) (by
   obtain⟨A,j,hb,B,u,z⟩:=d
   exact⟨A,j,(Below.heap_alloc _ _ b r).trans hb,B,u,z⟩)
 refine(AnyZ.sorted_in Tryz.sorted121 Fence.wide n trivial trivial trivial trivial rfl (by omega) (xT _) (enters_of func159 (by kernel_rfl) rfl) 160 #[.pointer (some ⟨w.heap.size,0,none⟩)] trivial (enters_of func160 (by kernel_rfl) rfl) _ _ (by unfold maxLen;omega) (by omega) _ k).mono ?_;rintro e w' ⟨v,g,rfl,s,l,_,p⟩;have i:(g.mergeSort leB).Perm g:=List.mergeSort_perm g leB;refine⟨v,g.mergeSort leB,rfl,i.nodup_iff.2 (s.nodup_iff.2 q),?_,fun x=>(i.mem_iff.trans s.mem_iff).trans (o x),?_,?_⟩
 ·have:=List.pairwise_mergeSort (le:=leB) (fun a b c h1 h2=>by simp only[leB,decide_eq_true_eq]at *;exact List.le_trans h1 h2) (fun a b=>by simp only[leB,Bool.or_eq_true,decide_eq_true_eq];exact List.le_total a b) g;exact this.imp (fun h=>by simpa [leB]using h)
 ·rw[i.length_eq];exact ownsRow_base_a l (by simp)
 ·exact((Kept.refl [] w).alloc _).fresh (Kept.of_below (S:=[]) p) (by simp)
open Lib(hid)
theorem jI{P:Program}{kt:TypeId}{α:Type}{E:KeyEnc P kt α}{w:World}{b n:Nat}{f:α->Option Value}{ops:Array Oper}{o:Oper}{a:Act}{Q:Exit->Act->World->Prop}{X:Prop}[DecidableEq α](hgd:o.guard=none)(hd:o.dst=none)
  (m k v:Operand) (t e:TypeId) (hop:o.op=Op.mapUpdate t m k v) (ht:P.underlying t=some (.map kt e)) (u:Value) {x:α}
  (hm:a.eval m=.map (some b)) (hk:a.eval k=E.val x) (hv:a.eval v=u) (h:am E w b n f) (hx:E.ok x) (hn:n < maxLen) {K:Act->World->Prop}
  (hK:∀w',am E w' b (n+1) (fun y=>if y=x then some u else f y)->w.grownBy w' (some b)->w'.heap.size=w.heap.size->K a w') :
  if Region.wanted o (yielded ops a.tmps)=true then Oper.wp P o a w K Q else X:=by
 rw[if_pos (by simp[Region.wanted,hgd])]
 exact tM h hx m k v t e hop ht hn u hm hk hv fun w' h1 h2 h3=>by rw[hd];exact hK w' h1 h2 h3
def colS(N:List Bs):List UInt8->Option Value:=fun s=>if s∈N then some (.bool true)else none
def bC(ks:List K3):List Bs:=ks.flatMap fun x=>[x.1,x.2.1]
theorem gM{ks:List K3}{s:Bs}:s∈bC ks↔∃x∈ks,s=x.1\/s=x.2.1:=by
 unfold bC
 simp[List.mem_flatMap]
theorem jZ(a b:List K3):bC (a++b)=bC a++bC b:=by unfold bC;rw[List.flatMap_append]
theorem qJ{N M:List Bs}(h:∀s,s∈N↔s∈M):colS N=colS M:=by
 funext s
 unfold colS
 by_cases e:s∈N
 ·rw[if_pos e,if_pos ((h s).1 e)]
 ·rw[if_neg e,if_neg (fun k=>e ((h s).2 k))]
theorem vy(N:List Bs)(s t y:Bs):colS (N++[s,t]) y=if y=t then some (Value.bool true)else if y=s then some (Value.bool true)else colS N y:=by
 unfold colS
 by_cases e1:y=t
 ·simp[e1]
 ·by_cases e2:y=s
  ·simp[e2]
  ·by_cases e3:y∈N <;> simp[e1,e2,e3]
theorem uU{w:World}{B:Nat}{a:Option Addr}{c:Nat}{ks:List K3}(h:w.ownsRow B 182 3 (.slice a ks.length c) ks.length (cw ks))(hn:ks.length<=100000)(hp:0 < ks.length) :
  ∃b,b∈obl (.slice a ks.length c)/\a=some ⟨b,0,none⟩/\∀(k:Nat) x,ks[k]?=some x->∀(j:Nat) v,j < 3->(cells3 x)[j]?=some v->∀S w',Kept S w w'->b∉S->w'.cell? ⟨b,k*3+j,none⟩=some v:=by
 have l:=Row.of_own h (by omega);obtain⟨b,i,m,f⟩:=l.at_ hp;subst m
 rcases h.2 with⟨d,_⟩|⟨g,o,n,d,_⟩
 ·injection d with d;cases d
 ·injection d with d;injection d with d;injection d with d h2;subst d;subst h2;refine⟨b,cD rfl,rfl,fun k x hx j v hj hv S w' kk hS=>?_⟩
  have e:(cw ks)[k*3+j]?=some v:=by
   unfold cw
   rw[List.flatMap_def,cd (ks.map cells3) 3 k j (cells3 x) (fun c f=>by obtain⟨y,_,rfl⟩:=List.mem_map.1 f;rfl) (by simp[hx]) hj,hv]
  have:=f _ _ e;rw[Nat.zero_add]at this;exact(kk.cell (p:=⟨b,k*3+j,none⟩) (World.block_lt_of_cell? _ _ this) hS).trans this
theorem nK{l:List Pd}{j:Nat}{q:Pd}(h:l[j]?=some q):l.take (j+1)=l.take j++[q]/\sizeL (l.take (j+1))=sizeL (l.take j)+sizeB q/\atomsL (l.take (j+1))=atomsL (l.take j)++atomsB q/\sizeL (l.take (j+1))<=sizeL l/\q∈l:=by
 have hlt:j < l.length:=(List.getElem?_eq_some_iff.1 h).1;have hq:l[j]=q:=(List.getElem?_eq_some_iff.1 h).2
 have htk:l.take (j+1)=l.take j++[q]:=by rw[List.take_succ_eq_append_getElem hlt,hq]
 refine⟨htk,by rw[htk,dg];simp[sizeL],by rw[htk,bw,bw,List.flatMap_append];simp,?_,hq▸List.getElem_mem hlt⟩;have:=dg (l.take (j+1)) (l.drop (j+1));rw[List.take_append_drop]at this;omega
def qQ(w:World)(A:List K3)(e:Ending)(w':World):Prop :=
 ∃(u:Value) (ns:List Bs),e=.returned u/\ns.Nodup/\ns.Pairwise (fun x y=>x<=y)/\(∀s,s∈ns↔s≠[]/\s∈bC A)/\w'.ownsRow w.heap.size 9 1 u ns.length (strs ns)/\Kept [] w w'
theorem sH{w:World}{v:Value}{l:List Pd}(hrow:aj PdR 5 w v l)(hf:∀q∈l,formedB q=true)(hsz:sizeL l<=100000) :
  Calls prog 74 #[v] w (qQ w (atomsL l)):=by
 have c2:=@run_makeMap prog;obtain⟨sa,sc,rfl,ba,b9⟩:=hrow.form;obtain⟨Z,b7⟩:∃Z,l.length=Z:=⟨_,rfl⟩
 have c3:Z<=100000:=by have:=cW l;omega
 rw[b7]at hrow b9 ⊢;clear ba
 have a0:∀x∈atomsL l,W3 x:=fun x a=>by
  rw[bw,List.mem_flatMap]at a;obtain⟨q,hq,a⟩:=a;exact ir 100000 q (by have:=bh hq;omega) (hf q hq) x a
 have b0:=hid hrow;have HF:=hid hf;have a1:=hid a0;obtain⟨b,hb⟩:∃b,w.heap.size=b:=⟨_,rfl⟩;have HB:=hid hb;have I:am aC (w.alloc (.map #[] 0)) b 0 (fun _=>none):=hb▸am.made (E:=aC) w;have a9:=hid I;clear hrow hf a0 I
 go_enter func74,ntmps74
 go_wp2_with fail
 (try rw[hb])
 clear hb
 go_loopw [11] (fun v wr=>∃j n:Nat,j<=Z/\v=.int .i64 j/\Kept [] w wr/\n<=2*sizeL (l.take j)/\am aC wr b n (colS (bC (atomsL (l.take j))))) (fun v _=>Z - (intOf v).toNat)
 case atStart=>exact⟨0,0,Nat.zero_le _,rfl,(Kept.refl _ _).alloc _,Nat.zero_le _,a9.out.congr fun x _=>by simp[colS,bC,atomsL]⟩
 case round =>
  obtain⟨j,n,hj,rfl,d,hn,F⟩:=hrel;have bs:=hid d;have J:=hid F;have HN:=hid hn;clear F hn
  by_cases hlt:j < Z
  ·have hlt':(j:Int) < (Z:Int):=by omega
   obtain⟨bb,D,rfl,hc⟩:=b0.out.at_ (by omega);obtain⟨q,hq⟩:∃q,l[j]?=some q:=⟨_,List.getElem?_eq_getElem (by omega)⟩;obtain⟨cq,h1,h2,h3⟩:=hc j q hq;have HQ:=hid (nK hq);obtain⟨_,_,_,b8,a5⟩:=nK hq
   have b3:sizeB q<=100000:=by have:=bh a5;omega
   have b4:formedB q=true:=HF.out q a5;clear hq hc a5 b8;obtain⟨qk,ql,qr,qc,C⟩:=q;obtain⟨qa,O,rfl,_⟩:=h2.rows;have y0:wr.cell? ⟨bb,D+j*5,none⟩=some (.int .i64 qk):=Kept.cellOf (h3 0 _ (by decide) rfl) _ d;have y1:wr.cell? ⟨bb,D+j*5+1,none⟩=some (.string ⟨ql.toArray⟩):=Kept.cellOf (h3 1 _ (by decide) rfl) _ d;have y2:wr.cell? ⟨bb,D+j*5+2,none⟩=some (.string ⟨qr.toArray⟩):=Kept.cellOf (h3 2 _ (by decide) rfl) _ d;have y3:wr.cell? ⟨bb,D+j*5+3,none⟩=some (.int .i64 qc):=Kept.cellOf (h3 3 _ (by decide) rfl) _ d;have y4:wr.cell? ⟨bb,D+j*5+4,none⟩=some (.slice qa C.length O):=Kept.cellOf (h3 4 _ (by decide) rfl) _ d;obtain⟨Y,Q⟩:∃x,wr.alloc (.cells #[.int .i64 qk,.string ⟨ql.toArray⟩,.string ⟨qr.toArray⟩,.int .i64 qc,.slice qa C.length O] 46)=x:=⟨_,rfl⟩;have kA:Kept [] wr Y:=Q▸(Kept.refl _ _).alloc _;have B:Blk Y wr.heap.size 46 #[.int .i64 qk,.string ⟨ql.toArray⟩,.string ⟨qr.toArray⟩,.int .i64 qc,.slice qa C.length O]:=Q▸Blk.new _ _ _;have x0:Y.cell? ⟨wr.heap.size,0,none⟩=some (.int .i64 qk):=B.cell 0;have x1:Y.cell? ⟨wr.heap.size,1,none⟩=some (.string ⟨ql.toArray⟩):=B.cell 1;have x2:Y.cell? ⟨wr.heap.size,2,none⟩=some (.string ⟨qr.toArray⟩):=B.cell 2;have x3:Y.cell? ⟨wr.heap.size,3,none⟩=some (.int .i64 qc):=B.cell 3;have x4:Y.cell? ⟨wr.heap.size,4,none⟩=some (.slice qa C.length O):=B.cell 4;have HC:=hid (mx (PdR.kept (d.trans kA) h2) b4 b3);have au:=hid Q;have KA:=hid kA
   have c5:b < Y.heap.size:=by have:=J.out.lt;have:=kA.size;omega
   clear h1 h2 h3 Q kA B d;go_upto_region 5 with(fail);have hwA':=au.out;rw[hwA'];clear hwA' y0 y1 y2 y3 y4
   go_wp2_with (first
    |(go_at_call 120;refine HC.out.mono ?_;rintro e w5 ⟨v5,N,rfl,R,p,t,k5⟩;obtain⟨ka,kc,rfl⟩:=dX t)
    |fail)
   have an:N.length<=sizeB (.node qk ql qr qc C):=Nat.le_trans (eH N _ R (fun x a=>(p x).1 a)) (ee _);obtain⟨kn,ag⟩:∃kn,N.length=kn:=⟨_,rfl⟩;have bl:=hid t;have M:=hid p;have bt:=hid an;have a6:=(J.out.kept KA.out (by simp)).kept k5 (by simp);have br:=hid a6;have c1:=hid ((bs.out.trans KA.out).trans k5);have c6:Hid (b < w5.heap.size):=hid a6.lt;have X:Hid (kn<=100000):=hid (by omega);clear t p an a6 k5 HC J au KA x0 x1 x2 x3 x4 R;rw[ag]
   go_loopw [18] (fun v wi=>∃i m:Nat,i<=kn/\v=.int .i64 i/\Kept [b] w5 wi/\m<=n+2*i/\am aC wi b m (colS (bC (atomsL (l.take j))++bC (N.take i)))) (fun v _=>kn - (intOf v).toNat)
   case atStart=>exact⟨0,n,Nat.zero_le _,rfl,Kept.refl _ _,by omega,br.out.congr fun x _=>by rw[List.take_zero,show bC []=[]from rfl,List.append_nil]⟩
   case round =>
    obtain⟨i,m,hi,rfl,A,hm,ac⟩:=hrel;have b1:=hid A;have L:=hid ac;have V:=hid hm;clear ac hm
    by_cases hlt2:i < kn
    ·have hlt2':(i:Int) < (kn:Int):=by omega
     have a4:=bl.out;obtain⟨bk,aq,rfl,o⟩:=uU a4 (by rw[ag];exact X.out) (by omega);obtain⟨x,a⟩:∃x,N[i]?=some x:=⟨_,List.getElem?_eq_getElem (by omega)⟩
     have z:bk∉[b]:=by have:=(aA a4 bk aq).1;simp;omega
     have aa:x∈N:=List.mem_of_getElem? a
     have ab:W3 x:=a1.out x (by
      rw[bw,List.mem_flatMap]
      exact⟨_,HQ.out.2.2.2.2,(M.out x).1 aa⟩)
     have r:N.take (i+1)=N.take i++[x]:=by
      rw[List.take_succ_eq_append_getElem (by omega),(List.getElem?_eq_some_iff.1 a).2]
     have bd:=hid r;obtain⟨xa,xb,xc⟩:=x;have z0:wr.cell? ⟨bk,i*3+0,none⟩=some (.string ⟨xa.toArray⟩):=o i _ a 0 _ (by decide) rfl _ _ A z;have z1:wr.cell? ⟨bk,i*3+1,none⟩=some (.string ⟨xb.toArray⟩):=o i _ a 1 _ (by decide) rfl _ _ A z;have z2:wr.cell? ⟨bk,i*3+2,none⟩=some (.int .i64 xc):=o i _ a 2 _ (by decide) rfl _ _ A z;rw[Nat.add_zero]at z0;obtain⟨g,hg⟩:∃g,wr.heap.size=g:=⟨_,rfl⟩;obtain⟨wB,P⟩:∃x,wr.alloc (.cells #[.string ⟨xa.toArray⟩,.string ⟨xb.toArray⟩,.int .i64 xc] 182)=x:=⟨_,rfl⟩;have kB:Kept [] wr wB:=P▸(Kept.refl _ _).alloc _;have a8:Blk wB g 182 #[.string ⟨xa.toArray⟩,.string ⟨xb.toArray⟩,.int .i64 xc]:=hg▸P▸Blk.new _ _ _
     have a7:g∉[b]:=by have:=L.out.lt;simp;omega
     have s0:∀w',Kept [b] wB w'->w'.cell? ⟨g,0,none⟩=some (.string ⟨xa.toArray⟩):=fun w' k=>(a8.kept k a7).cell 0;have s1:∀w',Kept [b] wB w'->w'.cell? ⟨g,1,none⟩=some (.string ⟨xb.toArray⟩):=fun w' k=>(a8.kept k a7).cell 1;have ad:=L.out.kept kB (by simp);have bn:=hid ad;have bc:=hid P;have KB:=hid kB;have HG:=hid hg;have av:=hid ab;clear a4 aq o a aa r P kB a8 a7 ad hg ab A L z;go_upto_region 8 with(fail);have hwB':=bc.out;rw[hwB'];clear hwB' z0 z1 z2
     (try rw[HG.out])
     refine ar [7] (fun w'=>Kept [b] wB w') (by kernel_rfl) (Kept.refl _ _).drew (fun hH=>?_);refine ah [6,7] (i:=0) (v:=?tv0) rfl (by kernel_rfl) (by kernel_rfl) (by kernel_rfl) (by kernel_rfl) (fun _ _ _ h=>h) (Or.inl ⟨by rfl,?ty0⟩) hH ?tr0
     case ty0=>intro w' c;(try dsimp only at c);go_simp;first|done|with_reducible rfl
     simp only[Act.put,List.setIfInBounds_toArray,List.set_cons_zero,List.set_cons_succ];refine ah [2,6,7] (i:=1) (v:=?tv1) rfl (by kernel_rfl) (by kernel_rfl) (by kernel_rfl) (by kernel_rfl) (fun _ _ _ h=>h) (Or.inl ⟨by rfl,?ty1⟩) hH ?tr1
     case ty1=>intro w' c;(try dsimp only at c);go_simp;first|done|with_reducible rfl
     simp only[Act.put,List.setIfInBounds_toArray,List.set_cons_zero,List.set_cons_succ];refine ah [6,7] (i:=2) (v:=?tv2) rfl (by kernel_rfl) (by kernel_rfl) (by kernel_rfl) (by kernel_rfl) (fun _ _ _ h=>h) (Or.inl ⟨by rfl,?ty2⟩) hH ?tr2
     case ty2=>intro w' c;(try dsimp only at c);go_simp;first|done|with_reducible rfl
     simp only[Act.put,List.setIfInBounds_toArray,List.set_cons_zero,List.set_cons_succ];refine ah [7] (i:=3) (v:=?tv3) rfl (by kernel_rfl) (by kernel_rfl) (by kernel_rfl) (by kernel_rfl) (fun _ _ _ h=>h) (Or.inl ⟨by rfl,?ty3⟩) hH ?tr3
     case ty3=>intro w' c;(try dsimp only at c);go_simp;first|done|with_reducible rfl
     simp only[Act.put,List.setIfInBounds_toArray,List.set_cons_zero,List.set_cons_succ];refine ah [5,7] (i:=4) (v:=?tv4) rfl (by kernel_rfl) (by kernel_rfl) (by kernel_rfl) (by kernel_rfl) (fun _ _ _ h=>h) (Or.inl ⟨by rfl,?ty4⟩) hH ?tr4
     case ty4=>intro w' c;(try dsimp only at c);go_simp;first|done|with_reducible rfl
     simp only[Act.put,List.setIfInBounds_toArray,List.set_cons_zero,List.set_cons_succ];refine ah [7] (i:=5) (v:=?tv5) rfl (by kernel_rfl) (by kernel_rfl) (by kernel_rfl) (by kernel_rfl) (fun _ _ _ h=>h) (Or.inl ⟨by rfl,?ty5⟩) hH ?tr5
     case ty5=>intro w' c;(try dsimp only at c);go_simp;first|done|with_reducible rfl
     simp only[Act.put,List.setIfInBounds_toArray,List.set_cons_zero,List.set_cons_succ];refine ai (rs:=[6]) (by kernel_rfl) (by simp) ?_;refine ae.cons rfl (fun K hK=>?_) ae.nil;refine jI (E:=aC) (x:=xa) rfl rfl _ _ _ 178 4 rfl underlying178 (.bool true) rfl rfl rfl (bn.out.kept (Kept.refl [] _).drew (by simp)) av.out.1 (by have:=V.out;have:=HN.out;have:=HQ.out;have:=X.out;unfold maxLen;omega) ?_;intro w6 T U a2;have K6:Kept [b] wB w6:=(Kept.refl [b] wB).drew.trans (Kept.of_turned U (by simp));have c0:=hid K6;have bq:=hid T;refine hK.out _ _ K6 (fun hH=>?_);clear hK K K6 T U a2
     (try simp only[Act.put,List.setIfInBounds_toArray,List.set_cons_zero,List.set_cons_succ])
     refine ai (rs:=[7]) (by kernel_rfl) (by simp) ?_;refine ae.last rfl (by kernel_rfl) (fun K hK=>?_);refine jI (E:=aC) (x:=xb) rfl rfl _ _ _ 178 4 rfl underlying178 (.bool true) rfl rfl rfl bq.out av.out.2.1 (by have:=V.out;have:=HN.out;have:=HQ.out;have:=X.out;unfold maxLen;omega) ?_;intro w7 af ap b2;have bx:=hid (c0.out.trans (Kept.of_turned ap (by simp)));have bp:=hid af;refine hK.out _ _ ?_;clear hK K af ap b2 s0 s1
     (try simp only[Act.put,List.setIfInBounds_toArray,List.set_cons_zero,List.set_cons_succ])
     refine ak (by kernel_rfl) ?_ _;have c4:=X.out;go_wp2_with fail
     go_roundw
     case rel =>
      refine⟨i+1,m+1+1,by omega,by go_num,(b1.out.trans (KB.out.mono (fun _ _ h=>by simp at h))).trans bx.out,by have:=V.out;omega,?_⟩;have h7:=bp.out;rw[bd.out,jZ,<-List.append_assoc];exact h7.congr fun y _=>vy _ _ _ y
     case measure=>simp[intOf];omega
    ·obtain rfl:i=kn:=by omega
     have r:N.take i=N:=List.take_of_length_le (by omega);have G:=L.out;rw[r]at G;have bo:=hid G;clear G A L;go_wp2_with fail
     go_roundw
     case rel =>
      refine⟨j+1,m,by omega,by go_num,c1.out.fresh b1.out (fun x a=>by rw[List.mem_singleton]at a;have:=HB.out;omega),?_,?_⟩
      ·have:=V.out;have:=HN.out;have:=HQ.out;have:=bt.out;omega
      ·refine bo.out.congr fun y _=>?_;rw[HQ.out.2.2.1,jZ];refine congrFun (qJ fun s=>?_) y;simp only[List.mem_append,gM]
       constructor
       ·rintro(h|⟨x,a,h⟩)
        ·exact Or.inl h
        ·exact Or.inr ⟨x,(M.out x).2 a,h⟩
       ·rintro(h|⟨x,a,h⟩)
        ·exact Or.inl h
        ·exact Or.inr ⟨x,(M.out x).1 a,h⟩
     case measure=>simp[intOf];omega
  ·obtain rfl:j=Z:=by omega
   have r:l.take j=l:=List.take_of_length_le (by omega);have F:=J.out;rw[r]at F;clear J
   have b6:n<=1000000:=by have:=HN.out;rw[r]at this;omega
   have bv:=fun(w':World)=>(callsIn_wide (n:=9)).1 (uV (some b) w' 9);have be:=fun(w':World) (f:List UInt8->Option Value) (h:am aC w' b n f)=>(callsIn_wide (n:=9)).1 (pC 9 (by omega) h b6)
   go_wp2_with (first
    |(at_delete;refine pw (E:=aC) F (x:=[]) (by show(0:Nat)<=maxLen;exact Nat.zero_le _) rfl _ _ 178 4 rfl underlying178 rfl rfl ?_;intro w6 T U a2;clear a2)
    |(go_at_call 122;refine(bv _).mono ?_;rintro e w7 ⟨rfl,rfl⟩)
    |(go_at_call 121;refine(be _ _ T).mono ?_;rintro e w8 ⟨u,ns,rfl,R,b5,p,a3,k8⟩)
    |go_in)
   go_ret;have ao:Kept [] w w6:=d.fresh (Kept.of_turned U (List.mem_singleton_self b)) (fun x a=>by rw[List.mem_singleton]at a;have:=HB.out;omega);refine⟨u,ns,rfl,R,b5,fun s=>?_,ownsRow_base_a a3 ao.size,ao.trans k8⟩;rw[p s]
   by_cases e:s=[]
   ·subst e;simp
   ·rw[if_neg e]
    unfold colS
    constructor
    ·rintro⟨_,h2⟩
     by_cases h:s∈bC (atomsL l)
     ·exact⟨e,h⟩
     ·rw[if_neg h]at h2;cases h2
    ·rintro⟨_,h⟩;refine⟨?_,by rw[if_pos h];rfl⟩;obtain⟨x,a,h⟩:=gM.1 h;have:=a1.out x a
     rcases h with rfl|rfl
     ·exact this.1
     ·exact this.2.1
end Go.Proofs.YtpcmamoomaddoaaGreatDoor
