/- base.Number. -/
import Derived.Test.YtpcmamoomaddoaaGreatDoorKys
import Derived.Test.YtpcmamoomaddoaaGreatDoorSrk
import Derived.Maps.OwnIn
import Derived.Test.YtpcmamoomaddoaaGreatDoorAcp
/- JOINED: Aps Lex Lnm -/
/- slices.AppendSeq and slices.Collect at the ask package's keys (turned from the kit's text on elements of one cell). -/
namespace Go.Proofs.YtpcmamoomaddoaaGreatDoor
open Go.RowKit Go.Maps Go.Sort Go.Shelf
def cells3 (x:K3):List Value:=[.string ⟨x.1.toArray⟩,.string ⟨x.2.1.toArray⟩,.int .i64 x.2.2]
def cellsL (l:List K3):List Value:=l.flatMap cells3
theorem cellsL_snoc (l:List K3) (x:K3):cellsL (l++[x])=cellsL l++cells3 x:=by simp [cellsL]
/-- the loop's two codes -/
noncomputable def apParts:Code × Code:=match Tryz.f237.body with
 | some (.seq _ (.seq (.seq _ (.block _ (.rangeFunc _ _ a b))) _))=>(a,b)
 | _=>(.skip,.skip)
/-- the loop's record: 's' boxed in block Bs; sv: the iterator's value -/
noncomputable def apRec (fn:FuncId) (sv:Value) (Bs D:Nat) (st:LoopState) (pend:Option Code):Loop :=
 { state:=st,pending:=pend,fn,tmps:=#[.slice none 0 0,sv,.pointer (some ⟨Bs,0,none⟩),undef,.slice none 0 0,undef,sv,undef,undef,undef,undef,undef,undef],params:=#[7],assign:=apParts.1,body:=apParts.2,defers:=D }
/-- between two rounds -/
structure ApAt3 (w0:World) (fn:FuncId) (sv:Value) (Bs l D:Nat) (ss:List K3) (W:World):Prop where
 box:∃ v,W.heap[Bs]?=some (.cells #[v] 179 (0,0))∧W.ownsRow w0.heap.size 182 3 v ss.length (cellsL ss)
 L:W.heap[l]?=some (.loop (apRec fn sv Bs D .ready none))
 K:W.heap[D]?=some (.deferred (some []))
 below:Below w0.heap.size w0 W
theorem ap3_abides (w0:World) (fn:FuncId) (sv:Value) (Bs l D B:Nat) (hB:w0.heap.size≤B):AbidesFrom B (ApAt3 w0 fn sv Bs l D):=fun s W W' row h hg hrow=>by
 have hrow':∀ r,row=some r→∃ o:Obj,W.heap[r]?=some o∧o.isWalk=true:=fun r e=>(hrow r e).2;obtain ⟨v,hv,hr⟩:=h.box
 exact ⟨⟨v,(grownBy_keeps hg hrow' hv rfl).trans hv,ownsRow_abides_a hr hg hrow'⟩,(grownBy_keeps hg hrow' h.L rfl).trans h.L,(grownBy_keeps hg hrow' h.K rfl).trans h.K,
  h.below.grown hg h.below.size (fun k e=>Nat.le_trans hB (hrow k e).1)⟩
theorem infoK3:(Tryz.prog.info? 182).map (fun i=>(i.zero,i.size,i.bytes))=some (some (.agg #[.string ⟨#[]⟩,.string ⟨#[]⟩,.int .i64 0]),3,40):=by kernel_rfl
set_option maxRecDepth 100000 in
set_option maxHeartbeats 2000000 in
theorem ap3Yield (F:Fence) (m:Nat) (w0:World) (fn:FuncId) (hfn:F.fn fn) (sv:Value) (Bs l D:Nat) (hBl:Bs≠l) (hDl:D≠l) (hDB:D≠Bs) (h0B:w0.heap.size≤Bs) (h0l:w0.heap.size≤l)
  (N:Nat) (hN:N≤maxLen) (hNb:N*40≤140737488355328) (ss:List K3) (x:K3) (W:World) (h:ApAt3 w0 fn sv Bs l D ss W) (hlen:ss.length < N) :
  YieldAt F m Tryz.prog l #[kv3 x] W fun e W'=>e=.returned (.bool true)∧ApAt3 w0 fn sv Bs l D (ss++[x]) W'∧KeepsWalks W W':=by
 obtain ⟨i0,hi,hz0,hz1,hz2⟩:=info_parts infoK3;obtain ⟨xa,xb,xc⟩:=x;refine ⟨fn,#[.slice none 0 0,sv,.pointer (some ⟨Bs,0,none⟩),undef,.slice none 0 0,undef,sv,kv3 (xa,xb,xc),undef,undef,undef,undef,undef],apParts.1,apParts.2,by simpa [apRec] using run_yield (P:=Tryz.prog) (args:=#[kv3 (xa,xb,xc)]) h.L rfl,roundIn_of_wpIn hfn ?_⟩;obtain ⟨gB,hgB⟩:∃ g,W.heap.size=g:=⟨_,rfl⟩;obtain ⟨W1,hW1⟩:∃ x,W.alloc (.cells #[.string ⟨xa.toArray⟩,.string ⟨xb.toArray⟩,.int .i64 xc] 182)=x:=⟨_,rfl⟩;have hg1:W.grownBy W1 none:=hW1▸World.grownBy_alloc W _ none;have hB1:Blk W1 gB 182 #[.string ⟨xa.toArray⟩,.string ⟨xb.toArray⟩,.int .i64 xc]:=hgB▸hW1▸Blk.new _ _ _;have hk1:KeepsWalks W W1:=hW1▸KeepsWalks.alloc _ _;have h1:=ap3_abides w0 fn sv Bs l D w0.heap.size (Nat.le_refl _) ss W W1 none h hg1 (fun r e=>by cases e);have hgBl:l < gB:=hgB▸(Array.getElem?_eq_some_iff.1 h.L).1
 have hgBs:Bs < gB:=by obtain ⟨v,hv,_⟩:=h.box;exact hgB▸(Array.getElem?_eq_some_iff.1 hv).1
 obtain ⟨v,hv,hrow⟩:=h1.box;obtain ⟨sa,sc,rfl⟩:=own_form hrow;have hl:l < W1.heap.size:=(Array.getElem?_eq_some_iff.1 h1.L).1;have hbr:=run_beginRound (P:=Tryz.prog) h1.L rfl;obtain ⟨W2,hW2⟩:∃ W2,W1.putObj l (.loop { apRec fn sv Bs D .ready none with state:=.busy })=W2:=⟨_,rfl⟩;rw [hW2] at hbr
 have hg2:W1.grownBy W2 (some l):=by rw [←hW2];exact grownBy_putObj_a _ _ _
 have hk2:KeepsWalks W W2:=hk1.trans (by rw [←hW2];exact KeepsWalks.putObj _ h1.L rfl)
 have hv2:W2.heap[Bs]?=some (.cells #[.slice sa ss.length sc] 179 (0,0)):=by rw [←hW2];exact (World.putObj_heap_other hBl).trans hv
 have hK2:W2.heap[D]?=some (.deferred (some [])):=by rw [←hW2];exact (World.putObj_heap_other hDl).trans h1.K
 have hL2:W2.heap[l]?=some (.loop { apRec fn sv Bs D .ready none with state:=.busy }):=by rw [←hW2];exact World.putObj_heap_same hl
 have hrow2:W2.ownsRow w0.heap.size 182 3 (.slice sa ss.length sc) ss.length (cellsL ss):=hrow.kept hg2 (ownsRow_ne_a hrow h1.L (fun cur e=>by cases e));have hb2:Below w0.heap.size w0 W2:=h1.below.grown hg2 h1.below.size (fun k e=>by cases e;exact h0l);have hB2:Blk W2 gB 182 #[.string ⟨xa.toArray⟩,.string ⟨xb.toArray⟩,.int .i64 xc]:=(hg2.block gB hB1.lt (by simp;omega)).trans hB1;obtain ⟨hc2,hf2⟩:=cell_of_box_a hv2;have y0:W2.cell? ⟨gB,0,none⟩=some (.string ⟨xa.toArray⟩):=hB2.cell 0;have y1:W2.cell? ⟨gB,1,none⟩=some (.string ⟨xb.toArray⟩):=hB2.cell 1;have y2:W2.cell? ⟨gB,2,none⟩=some (.int .i64 xc):=hB2.cell 2;have hBlt:Bs < W2.heap.size:=(Array.getElem?_eq_some_iff.1 hv2).1;have hl2:l < W2.heap.size:=(Array.getElem?_eq_some_iff.1 hL2).1;have hDlt:D < W2.heap.size:=(Array.getElem?_eq_some_iff.1 hK2).1
 have ne_of:∀ {j:Nat} {o:Obj},W2.heap[j]?=some o→(∀ cur,o≠.cells cur 182 (0,0))→some j≠(Value.slice sa ss.length sc).ownBlock:=fun hj hno=>by
  rcases ownsRow_ne_a hrow2 hj hno with e|e
  ·rw [e];simp
  ·exact fun e'=>e e'.symm
 have hsz2:gB+1≤W2.heap.size:=hB2.lt;clear hW2 hB1 hB2 hk1 hg1;simp only [apParts,Tryz.f237,kv3]
 have hnews:∀ j u,(cells3 (xa,xb,xc))[j]?=some u→(W2.alloc (.cells #[.string ⟨xa.toArray⟩,.string ⟨xb.toArray⟩,.int .i64 xc] 182)).cell? ((⟨W2.heap.size,0,none⟩:Addr).add j)=some u:=fun j u hj=>by
  rw [add_cell,Nat.zero_add,(Blk.new W2 182 #[.string ⟨xa.toArray⟩,.string ⟨xb.toArray⟩,.int .i64 xc]).cell j]
  simpa [cells3] using hj
 gi_wp2_with (first
  | (gi_at_builtin;refine wpListIn_append_own_at _ rfl _ _ 179 rfl w0.heap.size 182 i0 _ 3 40 Tryz.underlying179 hi hz0 hz1 hz2 rfl (by decide) (.slice sa ss.length sc) ss.length (cellsL ss) rfl (hrow2.alloc _) ⟨W2.heap.size,0,none⟩ 1 1 (cells3 (xa,xb,xc)) rfl rfl hnews (by simp [cells3,Value.oneCell']) (by omega) (by omega) (by have:=hb2.size;simp;omega) ?_;intro v' w3 hown' hg3 hnil3 hob3;have hv3:w3.heap[Bs]?=some (.cells #[.slice sa ss.length sc] 179 (0,0)):=(hg3.block Bs (by simp;omega) (ne_of hv2 (fun cur e=>by cases e))).trans ((Below.heap_alloc _ _ Bs hBlt).trans hv2);obtain ⟨hc3,hf3⟩:=cell_of_box_a hv3;obtain ⟨a',c',rfl⟩:=own_form hown';go_frame)
  | (rw [Oper.semAt_eq _ _ _ (fun c h=>by cases h)];go_simp;try go_bits))
 have hg3':(W2.alloc (.cells #[.string ⟨xa.toArray⟩,.string ⟨xb.toArray⟩,.int .i64 xc] 182)).grownBy w3 (Value.slice sa ss.length sc).ownBlock:=hg3;have hL3:w3.heap[l]?=some (.loop { apRec fn sv Bs D .ready none with state:=.busy }):=(hg3'.block l (by simp;omega) (ne_of hL2 (fun cur e=>by cases e))).trans ((Below.heap_alloc _ _ l hl2).trans hL2);have hK3:w3.heap[D]?=some (.deferred (some [])):=(hg3'.block D (by simp;omega) (ne_of hK2 (fun cur e=>by cases e))).trans ((Below.heap_alloc _ _ D hDlt).trans hK2);obtain ⟨w4,hw4⟩:∃ w4,w3.setCell ⟨Bs,0,none⟩ (.slice a' (ss.length+1) c')=w4:=⟨_,rfl⟩;rw [hw4]
 have hg4:w3.grownBy w4 (some Bs):=by rw [←hw4];exact grownBy_setCell0_a _ _ _
 have hv4:w4.heap[Bs]?=some (.cells #[.slice a' (ss.length+1) c'] 179 (0,0)):=by rw [←hw4];exact heap_setCell_box_a _ hv3
 have hL4:w4.heap[l]?=some (.loop { apRec fn sv Bs D .ready none with state:=.busy }):=(hg4.block l (Array.getElem?_eq_some_iff.1 hL3).1 (fun e=>hBl (by cases e;rfl))).trans hL3;have hK4:w4.heap[D]?=some (.deferred (some [])):=(hg4.block D (Array.getElem?_eq_some_iff.1 hK3).1 (fun e=>hDB (by cases e;rfl))).trans hK3;have hrow4:=hown'.kept hg4 (ownsRow_ne_a hown' hv3 (fun cur e=>absurd (Obj.cells.inj e).2.1 (by decide)));have hl4:l < w4.heap.size:=(Array.getElem?_eq_some_iff.1 hL4).1;have hb3:Below w0.heap.size w0 w3:=(hb2.alloc hb2.size _).grown hg3' (by have:=hb2.size;simp;omega) (fun k e=>(hrow2.lt k e).1);have hb4:Below w0.heap.size w0 w4:=hb3.grown hg4 hb3.size (fun k e=>by cases e;exact h0B);have hk4:KeepsWalks W w4:=((hk2.trans (KeepsWalks.alloc _ _)).trans (KeepsWalks.of_grownBy hg3' (ownsRow_not_walk_a (hrow2.alloc _)))).trans (by rw [←hw4];exact KeepsWalks.setCell _ _ _);clear hw4;refine ⟨_,_,run_endRound none hL4,rfl,⟨⟨_,(World.putObj_heap_other hBl).trans hv4,?_⟩,World.putObj_heap_same hl4,(World.putObj_heap_other hDl).trans hK4,hb4.grown (grownBy_putObj_a _ _ _) hb4.size (fun k e=>by cases e;exact h0l)⟩,hk4.trans (KeepsWalks.putObj _ hL4 rfl)⟩;have:=hrow4.kept (grownBy_putObj_a w4 l (.loop { { apRec fn sv Bs D .ready none with state:=.busy } with state:=if (none:Option Code).isNone then .ready else .done,pending:=none })) (ownsRow_ne_a hrow4 hL4 (fun cur e=>by cases e));rw [cellsL_snoc,List.length_append]
 simpa using this
set_option maxRecDepth 100000 in
set_option maxHeartbeats 2000000 in
theorem appendSeq3_in (F:Fence) (n:Nat) (h11:F.fn 237) (hro:F.round=none) (hn:2≤n) (g:Nat) (lb:Array Value) (hFg:F.fn g) (eg:∀ args w,(callFunc g args).run Tryz.prog w=.ok (.enter g args) w)
  (S:List K3→Prop) (N:Nat) (hN:N≤maxLen) (hNb:N*40≤140737488355328) (w:World) (hseq:SeqGives F (n - 1) Tryz.prog g lb kv3 S N w) :
  CallsIn F n Tryz.prog 237 #[.slice none 0 0,.func (.func g) #[] lb] w fun e w'=>∃ (v:Value) (ss:List K3),e=.returned v∧S ss∧w'.ownsRow w.heap.size 182 3 v ss.length (cellsL ss)∧Below w.heap.size w w':=by
 have h1:1≤n:=by omega
 refine callsIn_of_wp_marks Tryz.func237 rfl h11 ?_ hro;simp only [Tryz.ntmps237,List.size_toArray,List.length_cons,List.length_nil,Nat.reduceAdd,Nat.reduceSub,Array.replicate_succ,Array.replicate_zero,List.push_toArray,List.append_toArray,List.nil_append,List.cons_append]
 gi_wp2
 refine wpIn_rangeFunc ?_;intro fn hfn;rw [hro];obtain ⟨W0,hW0⟩:∃ W0,w.alloc (.cells #[.slice none 0 0] 179)=W0:=⟨_,rfl⟩
 have hs0:W0.heap.size=w.heap.size+1:=by rw [←hW0];simp
 have hv0:W0.heap[w.heap.size]?=some (.cells #[.slice none 0 0] 179 (0,0)):=by rw [←hW0];exact World.alloc_heap_new w _
 have hb0:Below w.heap.size w W0:=by rw [←hW0];exact (Below.refl _ w).alloc (Nat.le_refl _) _
 rw [hW0];obtain ⟨W1,hW1⟩:∃ W1,(W0.alloc (.deferred (some []))).alloc (.loop (apRec fn (.func (.func g) #[] lb) w.heap.size W0.heap.size .ready none))=W1:=⟨_,rfl⟩
 have hold:∀ k,k < W0.heap.size→W1.heap[k]?=W0.heap[k]?:=fun k hk=>by
  rw [←hW1];exact (Below.heap_alloc _ _ k (by simp;omega)).trans (Below.heap_alloc _ _ k hk)
 have hb1:Below w.heap.size w W1:=by rw [←hW1];exact (hb0.alloc hb0.size _).alloc (by have:=hb0.size;simp;omega) _
 have hs1:W1.heap.size=W0.heap.size+2:=by rw [←hW1];simp
 have hM:ApAt3 w fn (.func (.func g) #[] lb) w.heap.size (W0.heap.size+1) W0.heap.size [] W1 :=
  ⟨⟨_,(hold w.heap.size (by omega)).trans hv0,⟨rfl,.inl ⟨rfl,rfl⟩⟩⟩,
   by rw [←hW1];have:=World.alloc_heap_new (W0.alloc (.deferred (some []))) (.loop (apRec fn (.func (.func g) #[] lb) w.heap.size W0.heap.size .ready none));rwa [World.size_alloc] at this,
   by rw [←hW1];exact (Below.heap_alloc _ _ _ (by simp)).trans (World.alloc_heap_new W0 _),hb1⟩
 refine ⟨W0.heap.size+1,[{ target:=.collected W0.heap.size,args:=#[] }],W1,{ target:=.fn (.func g) lb,args:=#[.func (.yield (W0.heap.size+1)) #[] #[]] },W1,g,
  #[.func (.yield (W0.heap.size+1)) #[] #[]]++lb,W1,?_,?_,?_,?_,fun _=>h1,?_⟩
 ·rw [←hW1];exact run_enterLoop_outer _ _ _ _ _
 ·simp [resolve,go_sem]
 ·intro f' hf';simp [Target.leads] at hf';subst hf';exact hFg
 ·simp [invoke,go_sem,eg]
 ·refine (hseq (W0.heap.size+1) (ApAt3 w fn (.func (.func g) #[] lb) w.heap.size (W0.heap.size+1) W0.heap.size) W1 hb1 (ap3_abides _ _ _ _ _ _ _ hb1.size)
   (fun pre x W hJ hl=>ap3Yield F (n - 1 - 1) w fn hfn _ w.heap.size (W0.heap.size+1) W0.heap.size (by omega) (by omega) (by omega) (Nat.le_refl _) (by omega) N hN hNb pre x W hJ hl) hM).mono ?_
  rintro e W2 ⟨⟨v0,rfl⟩,ss,hS,h2⟩;obtain ⟨v,hv,hrow⟩:=h2.box;obtain ⟨sa,sc,rfl⟩:=own_form hrow;have hend:=run_endLoop (P:=Tryz.prog) h2.L (by simp [apRec]);obtain ⟨W3,hW3⟩:∃ W3,W2.putObj (W0.heap.size+1) (.loop { apRec fn (.func (.func g) #[] lb) w.heap.size W0.heap.size .ready none with state:=.exhausted })=W3:=⟨_,rfl⟩;rw [hW3] at hend
  have hg3:W2.grownBy W3 (some (W0.heap.size+1)):=by rw [←hW3];exact grownBy_putObj_a _ _ _
  have hv3:W3.heap[w.heap.size]?=some (.cells #[.slice sa ss.length sc] 179 (0,0)):=by rw [←hW3];exact (World.putObj_heap_other (by omega)).trans hv
  have hK3:W3.heap[W0.heap.size]?=some (.deferred (some [])):=by rw [←hW3];exact (World.putObj_heap_other (by omega)).trans h2.K
  have hrow3:=hrow.kept hg3 (ownsRow_ne_a hrow h2.L (fun cur e=>by cases e));have hb3:Below w.heap.size w W3:=h2.below.grown hg3 h2.below.size (fun k e=>by cases e;omega);obtain ⟨hc3,hf3⟩:=cell_of_box_a hv3;clear hW3;refine ⟨none,W3,hend,?_⟩
  gi_wp2
  rw [←hs0];refine ⟨by simp,.inl ⟨_,_,rfl,run_takeDeferred hK3,?_⟩⟩;exact ⟨_,results_tmp rfl _ _ _,_,ss,rfl,hS,hrow3.kept (grownBy_putObj_a _ _ _) (ownsRow_ne_a hrow3 hK3 (fun cur e=>by cases e)),hb3.grown (grownBy_putObj_a _ _ _) hb3.size (fun k e=>by cases e;omega)⟩
set_option maxHeartbeats 1000000 in
theorem collect3_in (F:Fence) (n:Nat) (h8:F.fn 201) (h11:F.fn 237) (hro:F.round=none) (hn:3≤n) (g:Nat) (lb:Array Value) (hFg:F.fn g) (eg:∀ args w,(callFunc g args).run Tryz.prog w=.ok (.enter g args) w)
  (S:List K3→Prop) (N:Nat) (hN:N≤maxLen) (hNb:N*40≤140737488355328) (w:World) (hseq:SeqGives F (n - 1 - 1) Tryz.prog g lb kv3 S N w) :
  CallsIn F n Tryz.prog 201 #[.func (.func g) #[] lb] w fun e w'=>∃ (v:Value) (ss:List K3),e=.returned v∧S ss∧w'.ownsRow w.heap.size 182 3 v ss.length (cellsL ss)∧Below w.heap.size w w':=by
 have h1:1≤n:=by omega
 have e11:∀ args w,(callFunc 237 args).run Tryz.prog w=.ok (.enter 237 args) w:=enters_of Tryz.func237 (by kernel_rfl) rfl;refine callsIn_of_wp Tryz.func201 rfl h8 ?_ hro;simp only [Tryz.ntmps201,List.size_toArray,List.length_cons,List.length_nil,Nat.reduceAdd,Nat.reduceSub,Array.replicate_succ,Array.replicate_zero,List.push_toArray,List.append_toArray,List.nil_append,List.cons_append]
 gi_wp2_with (gi_at_call 237;refine (appendSeq3_in F (n - 1) h11 hro (by omega) g lb hFg eg S N hN hNb _ hseq).mono ?_;rintro e w' ⟨v,ss,rfl,hS,hrow,hb⟩)
 go_ret;exact ⟨v,ss,rfl,hS,hrow,hb⟩
end Go.Proofs.YtpcmamoomaddoaaGreatDoor
/- base.letter, digit, inner, blank, plain, run, Name, Number. -/
namespace Go.Proofs.YtpcmamoomaddoaaGreatDoor
open Go.RowKit
theorem retB {a b:Bool} (h:a=true↔b=true):Ending.returned (.bool a)=.returned (.bool b):=by rw [Bool.eq_iff_iff.2 h]
set_option maxHeartbeats 400000 in
theorem letter_any (c:UInt8) (w:World):Calls Tryz.prog 104 #[.int .u8 (c.toNat:Int)] w fun e w'=>e=.returned (.bool (letterB c))∧w=w':=by
 obtain ⟨n,hn⟩:∃ n:Nat,c.toNat=n:=⟨_,rfl⟩
 have hb:n < 256:=by rw [←hn];exact c.toNat_lt
 unfold letterB
 rw [hn];clear hn
 rcases (by omega:n < 65∨(65≤n∧n≤90)∨(90 < n∧n < 97)∨(97≤n∧n≤122)∨122 < n) with h|h|h|h|h
 all_goals
  go_enter Tryz.func104,Tryz.ntmps104
  go_wp2;go_ret;refine ⟨retB ?_,rfl⟩
  simp <;> omega
set_option maxHeartbeats 400000 in
theorem digit_any (c:UInt8) (w:World):Calls Tryz.prog 147 #[.int .u8 (c.toNat:Int)] w fun e w'=>e=.returned (.bool (digitB c))∧w=w':=by
 obtain ⟨n,hn⟩:∃ n:Nat,c.toNat=n:=⟨_,rfl⟩
 have hb:n < 256:=by rw [←hn];exact c.toNat_lt
 unfold digitB
 rw [hn];clear hn
 rcases (by omega:n < 48∨(48≤n∧n≤57)∨57 < n) with h|h|h
 all_goals
  go_enter Tryz.func147,Tryz.ntmps147
  go_wp2;go_ret;refine ⟨retB ?_,rfl⟩
  simp <;> omega
set_option maxHeartbeats 400000 in
theorem inner_any (c:UInt8) (w:World):Calls Tryz.prog 106 #[.int .u8 (c.toNat:Int)] w fun e w'=>e=.returned (.bool (innerB c))∧w=w':=by
 have e95:((c.toNat:Int)==95)=(c.toNat==95):=by rw [Bool.eq_iff_iff];simp only [beq_iff_eq];omega
 have HI:Hid (innerB c=(letterB c || digitB c || c.toNat==95)):=rfl
 cases h1:letterB c
 ·cases h2:digitB c
  ·go_enter Tryz.func106,Tryz.ntmps106
   go_wp2_with (first
    | (go_at_call 104;refine (letter_any c _).mono ?_;rw [h1];rintro e w' ⟨rfl,rfl⟩)
    | (go_at_call 147;refine (digit_any c _).mono ?_;rw [h2];rintro e w' ⟨rfl,rfl⟩))
   go_ret;exact ⟨by rw [HI.out,h1,h2];simp,rfl⟩
  ·go_enter Tryz.func106,Tryz.ntmps106
   go_wp2_with (first
    | (go_at_call 104;refine (letter_any c _).mono ?_;rw [h1];rintro e w' ⟨rfl,rfl⟩)
    | (go_at_call 147;refine (digit_any c _).mono ?_;rw [h2];rintro e w' ⟨rfl,rfl⟩))
   go_ret;exact ⟨by rw [HI.out,h1,h2];simp,rfl⟩
 ·go_enter Tryz.func106,Tryz.ntmps106
  go_wp2_with (first
   | (go_at_call 104;refine (letter_any c _).mono ?_;rw [h1];rintro e w' ⟨rfl,rfl⟩))
  go_ret;exact ⟨by rw [HI.out,h1];simp,rfl⟩
set_option maxHeartbeats 400000 in
theorem blank_any (c:UInt8) (w:World):Calls Tryz.prog 149 #[.int .u8 (c.toNat:Int)] w fun e w'=>e=.returned (.bool (blankB c))∧w=w':=by
 obtain ⟨n,hn⟩:∃ n:Nat,c.toNat=n:=⟨_,rfl⟩
 unfold blankB
 rw [hn];clear hn
 rcases (by omega:n=32∨n=9∨n=10∨(n≠32∧n≠9∧n≠10)) with rfl|rfl|rfl|h
 all_goals
  try (have h1:((n:Int)==32)=false:=by simp;omega)
  try (have h2:((n:Int)==9)=false:=by simp;omega)
  try (have h3:((n:Int)==10)=false:=by simp;omega)
  go_enter Tryz.func149,Tryz.ntmps149
  go_wp2;go_ret;refine ⟨retB ?_,rfl⟩
  simp <;> omega
set_option maxHeartbeats 400000 in
theorem plain_any (c:UInt8) (w:World):Calls Tryz.prog 193 #[.int .u8 (c.toNat:Int)] w fun e w'=>e=.returned (.bool (plainB c))∧w=w':=by
 obtain ⟨n,hn⟩:∃ n:Nat,c.toNat=n:=⟨_,rfl⟩
 have hb:n < 256:=by rw [←hn];exact c.toNat_lt
 unfold plainB
 rw [hn];clear hn
 rcases (by omega:n < 32∨(32≤n∧n≤126)∨126 < n) with h|h|h
 all_goals
  go_enter Tryz.func193,Tryz.ntmps193
  go_wp2;go_ret;refine ⟨retB ?_,rfl⟩
  simp <;> omega
set_option maxHeartbeats 800000 in
theorem run_inner (s:List UInt8) (w:World) (hs:s.length≤100000000) :
  Calls Tryz.prog 105 #[.string ⟨s.toArray⟩,.func (.func 106) #[] #[]] w fun e w'=>e=.returned (.int .i64 (runB innerB s))∧w=w':=by
 go_enter Tryz.func105,Tryz.ntmps105
 go_wp2_with fail
 go_loop [5] (fun i=>∃ k:Nat,k≤s.length∧i=.int .i64 k∧runB innerB s=k+runB innerB (s.drop k)) (fun i=>s.length - (intOf i).toNat)
 case atStart=>exact ⟨0,Nat.zero_le _,rfl,by simp⟩
 case round =>
  obtain ⟨k,hk,rfl,hr⟩:=hrel;have HR:=Lib.hid hr;clear hr
  by_cases hlt:k < s.length
  ·have hsz:k < (⟨s.toArray⟩:ByteArray).size:=by simpa [ByteArray.size] using hlt
   have hd:s.drop k=s[k]::s.drop (k+1):=List.drop_eq_getElem_cons hlt
   cases hb:innerB ((⟨s.toArray⟩:ByteArray)[k]'hsz)
   ·have hfin:runB innerB s=k:=by
     have:innerB s[k]=false:=hb;rw [HR.out,hd]
     show k+(List.takeWhile innerB (s[k]::s.drop (k+1))).length=k
     rw [List.takeWhile_cons,this]
     rfl
    have HF:=Lib.hid hfin;clear hfin hd;go_wp2_with (go_at_call 106;refine (inner_any _ _).mono ?_;rw [hb];rintro e w' ⟨rfl,rfl⟩);go_ret;exact ⟨by rw [HF.out];rfl,rfl⟩
   ·have hn:runB innerB s=(k+1)+runB innerB (s.drop (k+1)):=by
     rw [HR.out,hd];have:innerB s[k]=true:=hb;simp only [runB,List.takeWhile_cons,this,if_true,List.length_cons];omega
    have HN:=Lib.hid hn;clear hn hd;go_wp2_with (go_at_call 106;refine (inner_any _ _).mono ?_;rw [hb];rintro e w' ⟨rfl,rfl⟩)
    go_round
    case rel=>exact ⟨k+1,by omega,by go_num,HN.out⟩
    case measure=>simp [intOf];omega
  ·obtain rfl:k=s.length:=by omega
   have hfin:runB innerB s=s.length:=by rw [HR.out];simp [runB]
   have HF:=Lib.hid hfin;clear hfin;go_wp2_with fail;go_ret;exact ⟨by rw [HF.out];rfl,rfl⟩
set_option maxHeartbeats 800000 in
theorem run_digit (s:List UInt8) (w:World) (hs:s.length≤100000000) :
  Calls Tryz.prog 105 #[.string ⟨s.toArray⟩,.func (.func 147) #[] #[]] w fun e w'=>e=.returned (.int .i64 (runB digitB s))∧w=w':=by
 go_enter Tryz.func105,Tryz.ntmps105
 go_wp2_with fail
 go_loop [5] (fun i=>∃ k:Nat,k≤s.length∧i=.int .i64 k∧runB digitB s=k+runB digitB (s.drop k)) (fun i=>s.length - (intOf i).toNat)
 case atStart=>exact ⟨0,Nat.zero_le _,rfl,by simp⟩
 case round =>
  obtain ⟨k,hk,rfl,hr⟩:=hrel;have HR:=Lib.hid hr;clear hr
  by_cases hlt:k < s.length
  ·have hsz:k < (⟨s.toArray⟩:ByteArray).size:=by simpa [ByteArray.size] using hlt
   have hd:s.drop k=s[k]::s.drop (k+1):=List.drop_eq_getElem_cons hlt
   cases hb:digitB ((⟨s.toArray⟩:ByteArray)[k]'hsz)
   ·have hfin:runB digitB s=k:=by
     have:digitB s[k]=false:=hb;rw [HR.out,hd]
     show k+(List.takeWhile digitB (s[k]::s.drop (k+1))).length=k
     rw [List.takeWhile_cons,this]
     rfl
    have HF:=Lib.hid hfin;clear hfin hd;go_wp2_with (go_at_call 147;refine (digit_any _ _).mono ?_;rw [hb];rintro e w' ⟨rfl,rfl⟩);go_ret;exact ⟨by rw [HF.out];rfl,rfl⟩
   ·have hn:runB digitB s=(k+1)+runB digitB (s.drop (k+1)):=by
     rw [HR.out,hd];have:digitB s[k]=true:=hb;simp only [runB,List.takeWhile_cons,this,if_true,List.length_cons];omega
    have HN:=Lib.hid hn;clear hn hd;go_wp2_with (go_at_call 147;refine (digit_any _ _).mono ?_;rw [hb];rintro e w' ⟨rfl,rfl⟩)
    go_round
    case rel=>exact ⟨k+1,by omega,by go_num,HN.out⟩
    case measure=>simp [intOf];omega
  ·obtain rfl:k=s.length:=by omega
   have hfin:runB digitB s=s.length:=by rw [HR.out];simp [runB]
   have HF:=Lib.hid hfin;clear hfin;go_wp2_with fail;go_ret;exact ⟨by rw [HF.out];rfl,rfl⟩
set_option maxHeartbeats 800000 in
theorem run_blank (s:List UInt8) (w:World) (hs:s.length≤100000000) :
  Calls Tryz.prog 105 #[.string ⟨s.toArray⟩,.func (.func 149) #[] #[]] w fun e w'=>e=.returned (.int .i64 (runB blankB s))∧w=w':=by
 go_enter Tryz.func105,Tryz.ntmps105
 go_wp2_with fail
 go_loop [5] (fun i=>∃ k:Nat,k≤s.length∧i=.int .i64 k∧runB blankB s=k+runB blankB (s.drop k)) (fun i=>s.length - (intOf i).toNat)
 case atStart=>exact ⟨0,Nat.zero_le _,rfl,by simp⟩
 case round =>
  obtain ⟨k,hk,rfl,hr⟩:=hrel;have HR:=Lib.hid hr;clear hr
  by_cases hlt:k < s.length
  ·have hsz:k < (⟨s.toArray⟩:ByteArray).size:=by simpa [ByteArray.size] using hlt
   have hd:s.drop k=s[k]::s.drop (k+1):=List.drop_eq_getElem_cons hlt
   cases hb:blankB ((⟨s.toArray⟩:ByteArray)[k]'hsz)
   ·have hfin:runB blankB s=k:=by
     have:blankB s[k]=false:=hb;rw [HR.out,hd]
     show k+(List.takeWhile blankB (s[k]::s.drop (k+1))).length=k
     rw [List.takeWhile_cons,this]
     rfl
    have HF:=Lib.hid hfin;clear hfin hd;go_wp2_with (go_at_call 149;refine (blank_any _ _).mono ?_;rw [hb];rintro e w' ⟨rfl,rfl⟩);go_ret;exact ⟨by rw [HF.out];rfl,rfl⟩
   ·have hn:runB blankB s=(k+1)+runB blankB (s.drop (k+1)):=by
     rw [HR.out,hd];have:blankB s[k]=true:=hb;simp only [runB,List.takeWhile_cons,this,if_true,List.length_cons];omega
    have HN:=Lib.hid hn;clear hn hd;go_wp2_with (go_at_call 149;refine (blank_any _ _).mono ?_;rw [hb];rintro e w' ⟨rfl,rfl⟩)
    go_round
    case rel=>exact ⟨k+1,by omega,by go_num,HN.out⟩
    case measure=>simp [intOf];omega
  ·obtain rfl:k=s.length:=by omega
   have hfin:runB blankB s=s.length:=by rw [HR.out];simp [runB]
   have HF:=Lib.hid hfin;clear hfin;go_wp2_with fail;go_ret;exact ⟨by rw [HF.out];rfl,rfl⟩
theorem run_all (p:UInt8→Bool) (l:List UInt8):(runB p l=l.length)↔l.all p=true:=by
 unfold runB
 induction l with
 | nil=>simp
 | cons a l ih =>
  rw [List.takeWhile_cons,List.all_cons]
  cases h:p a
  ·simp
  ·simp only [if_true,List.length_cons,Bool.true_and];rw [←ih];omega
theorem runB_le (p:UInt8→Bool) (l:List UInt8):runB p l≤l.length:=(List.takeWhile_sublist p).length_le
set_option maxHeartbeats 800000 in
theorem name_any (s:List UInt8) (w:World) (hs:s.length≤100000000) :
  Calls Tryz.prog 61 #[.string ⟨s.toArray⟩] w fun e w'=>e=.returned (.bool (nameB s))∧w=w':=by
 rcases s with _|⟨a,t⟩
 ·go_enter Tryz.func61,Tryz.ntmps61
  go_wp2_with fail;go_ret;exact ⟨rfl,rfl⟩
 ·have HN:Hid (nameB (a::t)=(letterB a&&decide ((a::t).length≤20)&&(a::t).all innerB)):=by simp [nameB,Hid]
  have HR:=Lib.hid (run_all innerB (a::t));have hl:(a::t).length=t.length+1:=rfl;have ht:t.length+1≤100000000:=hs;clear hs hl
  have hsz:0 < (⟨(a::t).toArray⟩:ByteArray).size:=by simp [ByteArray.size]
  have hg:letterB ((⟨(a::t).toArray⟩:ByteArray)[0]'hsz)=letterB a:=rfl;have HG:=Lib.hid hg;clear hg
  cases h1:letterB a
  ·go_enter Tryz.func61,Tryz.ntmps61
   go_wp2_with (go_at_call 104;refine (letter_any _ _).mono ?_;rw [HG.out,h1];rintro e w' ⟨rfl,rfl⟩);go_ret;exact ⟨by rw [HN.out,h1];rfl,rfl⟩
  ·by_cases h20:t.length+1≤20
   ·have hrun:=Lib.hid (run_inner (a::t) w ht);obtain ⟨q,hq⟩:∃ q,runB innerB (a::t)=q:=⟨_,rfl⟩;rw [hq] at HR hrun;have HQ:=Lib.hid hq;clear hq
    by_cases hall:q=t.length+1
    ·have e1:(a::t).all innerB=true:=HR.out.1 hall;have E1:=Lib.hid e1
     have hqb:((q:Int)==(t.length:Int)+1)=true:=by simp;omega
     clear e1 hall
     go_enter Tryz.func61,Tryz.ntmps61
     go_wp2_with (first
      | (go_at_call 104;refine (letter_any _ _).mono ?_;rw [HG.out,h1];rintro e w' ⟨rfl,rfl⟩)
      | (go_at_call 105;refine hrun.out.mono ?_;rintro e w' ⟨rfl,rfl⟩))
     go_ret;exact ⟨by rw [HN.out,h1,E1.out];simp [h20],rfl⟩
    ·have e1:(a::t).all innerB=false:=by
      cases h:(a::t).all innerB
      ·rfl
      ·exact absurd (HR.out.2 h) hall
     have E1:=Lib.hid e1
     have hqb:((q:Int)==(t.length:Int)+1)=false:=by simp;omega
     clear e1 hall
     go_enter Tryz.func61,Tryz.ntmps61
     go_wp2_with (first
      | (go_at_call 104;refine (letter_any _ _).mono ?_;rw [HG.out,h1];rintro e w' ⟨rfl,rfl⟩)
      | (go_at_call 105;refine hrun.out.mono ?_;rintro e w' ⟨rfl,rfl⟩))
     go_ret;exact ⟨by rw [HN.out,h1,E1.out];simp [h20],rfl⟩
   ·go_enter Tryz.func61,Tryz.ntmps61
    go_wp2_with (go_at_call 104;refine (letter_any _ _).mono ?_;rw [HG.out,h1];rintro e w' ⟨rfl,rfl⟩);go_ret;exact ⟨by rw [HN.out,h1];simp [h20],rfl⟩
end Go.Proofs.YtpcmamoomaddoaaGreatDoor
namespace Go.Proofs.YtpcmamoomaddoaaGreatDoor
open Go.RowKit
def numRet (o:Option Nat):Value :=
 match o with
 | none=>.tuple #[.int .i64 0,.bool false]
 | some n=>.tuple #[.int .i64 n,.bool true]
theorem numAcc_snoc (l:Bs) (c:UInt8):numAcc (l++[c])=10*numAcc l+(c.toNat - 48):=by simp [numAcc,List.foldl_append]
theorem foldl_num_lt:∀ (l:Bs) (a:Nat),l.all digitB=true→l.foldl (fun n c=>10*n+(c.toNat - 48)) a < (a+1)*10 ^ l.length
 | [],a,_=>by simp
 | c::l,a,h=>by
  rw [List.all_cons,Bool.and_eq_true] at h
  have hc:c.toNat - 48 < 10:=by
   have:=h.1;simp only [digitB,Bool.and_eq_true,decide_eq_true_eq] at this;omega
  have:=foldl_num_lt l (10*a+(c.toNat - 48)) h.2;rw [List.foldl_cons,List.length_cons,Nat.pow_succ];refine Nat.lt_of_lt_of_le this ?_;rw [Nat.mul_comm (10 ^ l.length) 10,←Nat.mul_assoc];exact Nat.mul_le_mul_right _ (by omega)
theorem numAcc_lt (l:Bs) (h:l.all digitB=true) (hl:l.length≤13):numAcc l < 10000000000000:=by
 have h1:=foldl_num_lt l 0 h;have h2:10 ^ l.length≤10 ^ 13:=Nat.pow_le_pow_right (by decide) hl
 have h3:(10:Nat) ^ 13=10000000000000:=by decide
 unfold numAcc
 omega
set_option maxRecDepth 100000 in
set_option maxHeartbeats 2000000 in
theorem number_any (s:List UInt8) (w:World) (hs:s.length≤100000000) :
  Calls Tryz.prog 150 #[.string ⟨s.toArray⟩] w fun e w'=>e=.returned (numRet (numberB s))∧w=w':=by
 rcases s with _|⟨a,t⟩
 ·go_enter Tryz.func150,Tryz.ntmps150
  go_wp2_with fail
  go_ret2
  exact ⟨rfl,rfl⟩
 ·have ht:t.length+1≤100000000:=hs;clear hs
  have hsz:0 < (⟨(a::t).toArray⟩:ByteArray).size:=by simp [ByteArray.size]
  have hrun:=Lib.hid (run_digit (a::t) w ht);have HR:=Lib.hid (run_all digitB (a::t));obtain ⟨q,hq⟩:∃ q,runB digitB (a::t)=q:=⟨_,rfl⟩;rw [hq] at HR hrun;clear hq
  cases hall:(a::t).all digitB
  ·have hN:Hid (numberB (a::t)=none):=by unfold Hid numberB;rw [hall];rfl
   have hqb:((q:Int) != (t.length:Int)+1)=true:=by
    have h1:¬ q=(a::t).length:=fun h=>by have:=HR.out.1 h;rw [hall] at this;cases this
    rw [List.length_cons] at h1
    simp;omega
   clear hall HR
   go_enter Tryz.func150,Tryz.ntmps150
   go_wp2_with (go_at_call 105;refine hrun.out.mono ?_;rintro e w' ⟨rfl,rfl⟩)
   go_ret2
   exact ⟨by rw [hN.out];rfl,rfl⟩
  have hqb:((q:Int) != (t.length:Int)+1)=false:=by
   have h1:q=(a::t).length:=HR.out.2 hall;rw [List.length_cons] at h1
   simp;omega
  have HA:=Lib.hid hall;clear HR
  have hN0:numberB (a::t)=if (((a::t).headD 0==48&&(a::t).length != 1) || decide (13 < (a::t).length))=true then none else if 1099511627776 < numAcc (a::t) then none else some (numAcc (a::t)):=by
   unfold numberB;rw [hall];simp
  have HN:=Lib.hid hN0;clear hN0 hall;have h0:(((⟨(a::t).toArray⟩:ByteArray)[0]'hsz).toNat:Int)=(a.toNat:Int):=rfl
  by_cases ha:a=48
  ·have E1:((((⟨(a::t).toArray⟩:ByteArray)[0]'hsz).toNat:Int)==48)=true:=by rw [h0,ha];rfl
   by_cases htn:t=[]
   ·subst ha htn;have hrun48:Calls Tryz.prog 105 #[.string ⟨#[48]⟩,.func (.func 147) #[] #[]] w fun e w'=>e=.returned (.int .i64 1)∧w=w':=run_digit [48] w (by decide);have HR48:=Lib.hid hrun48;have HN48:Hid (numberB [48]=some 0):=Lib.hid (by decide);clear hrun hrun48 HN HA hqb E1 h0 ht hsz
    show Calls _ _ #[.string ⟨#[48]⟩] _ _
    go_enter Tryz.func150,Tryz.ntmps150
    go_wp2_with (go_at_call 105;refine HR48.out.mono ?_;rintro e w' ⟨rfl,rfl⟩)
    go_loop [4,31] (fun n i=>n=.int .i64 0∧(i=.int .i64 0∨i=.int .i64 1)) (fun _ i=>1 - (intOf i).toNat)
    case atStart=>exact ⟨rfl,Or.inl rfl⟩
    case round =>
     obtain ⟨rfl,rfl|rfl⟩:=hrel
     ·go_wp2_with fail
      go_round
      case rel=>exact ⟨rfl,Or.inr rfl⟩
      case measure=>simp [intOf]
     ·go_wp2_with fail
      go_ret2
      exact ⟨by rw [HN48.out];rfl,rfl⟩
   ·have E2:¬ (a=48∧t=[]):=fun h=>htn h.2;have E3:¬ a=48∨¬ t=[]:=Or.inr htn
    have hN1:Hid (numberB (a::t)=none):=by
     have:=HN.out;rw [if_pos (by rw [Bool.or_eq_true];left;rw [ha];simp [htn])] at this;exact this
    clear HN ha htn h0
    go_enter Tryz.func150,Tryz.ntmps150
    go_wp2_with (go_at_call 105;refine hrun.out.mono ?_;rintro e w' ⟨rfl,rfl⟩)
    go_ret2
    exact ⟨by rw [hN1.out];rfl,rfl⟩
  ·have E1:((((⟨(a::t).toArray⟩:ByteArray)[0]'hsz).toNat:Int)==48)=false:=by
    rw [h0,beq_eq_false_iff_ne];intro h
    have h2:a.toNat=48:=by omega
    exact ha (UInt8.toNat_inj.1 h2)
   have E2:True:=trivial
   by_cases hl13:t.length+1≤13
   ·have HN1:Hid (numberB (a::t)=if 1099511627776 < numAcc (a::t) then none else some (numAcc (a::t))):=by
     have:=HN.out;rw [if_neg (by rw [Bool.or_eq_true];rintro (h|h) <;> simp [ha] at h;omega)] at this;exact this
    clear HN ha h0;have HN:=HN1;clear HN1
    go_enter Tryz.func150,Tryz.ntmps150
    go_wp2_with (go_at_call 105;refine hrun.out.mono ?_;rintro e w' ⟨rfl,rfl⟩);clear E1 E2 hqb
    go_loop [4,31] (fun n i=>∃ k:Nat,k≤t.length+1∧i=.int .i64 k∧n=.int .i64 (numAcc ((a::t).take k))) (fun _ i=>t.length+1 - (intOf i).toNat)
    case atStart=>exact ⟨0,Nat.zero_le _,rfl,rfl⟩
    case round =>
     obtain ⟨k,hk,rfl,rfl⟩:=hrel;obtain ⟨m,hm⟩:∃ m,numAcc ((a::t).take k)=m:=⟨_,rfl⟩
     have hm9:m < 10000000000000:=by
      rw [←hm];refine numAcc_lt _ ?_ (by rw [List.length_take,List.length_cons];omega);rw [List.all_eq_true];intro x hx;exact List.all_eq_true.1 HA.out x (List.mem_of_mem_take hx)
     have HM:=Lib.hid hm;rw [hm];clear hm
     by_cases hlt:k < t.length+1
     ·have hsk:k < (⟨(a::t).toArray⟩:ByteArray).size:=by simpa [ByteArray.size] using hlt
      obtain ⟨d,hd⟩:∃ d,((⟨(a::t).toArray⟩:ByteArray)[k]'hsk).toNat=d:=⟨_,rfl⟩
      have hkl:k < (a::t).length:=by rw [List.length_cons];omega
      have hdd:(a::t)[k].toNat=d:=hd
      have hdig:48≤d∧d≤57:=by
       have:=List.all_eq_true.1 HA.out _ (List.getElem_mem hkl);simp only [digitB,Bool.and_eq_true,decide_eq_true_eq] at this;omega
      have hstep:numAcc ((a::t).take (k+1))=10*m+(d - 48):=by
       rw [List.take_succ_eq_append_getElem hkl,numAcc_snoc,HM.out,hdd]
      have HS:=Lib.hid hstep
      have hd0:((d:Int) - 48)=((d - 48:Nat):Int):=by omega
      clear hstep hdd HM;go_wp2_with fail
      go_round
      case rel=>exact ⟨k+1,by omega,by go_num,by rw [HS.out];go_num⟩
      case measure=>simp [intOf];omega
     ·obtain rfl:k=t.length+1:=by omega
      have hfin:numAcc (a::t)=m:=by rw [←HM.out,List.take_of_length_le (by simp)]
      have HF:=Lib.hid hfin;rw [hfin] at HN;clear HM hfin hlt
      by_cases hbig:(1099511627776:Int) < (m:Int)
      ·have hbn:1099511627776 < m:=by omega
       rw [if_pos hbn] at HN;clear hbn;go_wp2_with fail
       go_ret2
       exact ⟨by rw [HN.out];rfl,rfl⟩
      ·have hbn:¬ 1099511627776 < m:=by omega
       rw [if_neg hbn] at HN;clear hbn;go_wp2_with fail
       go_ret2
       exact ⟨by rw [HN.out];rfl,rfl⟩
   ·have hN1:Hid (numberB (a::t)=none):=by
     have:=HN.out;rw [if_pos (by simp;omega)] at this;exact this
    clear HN ha h0
    go_enter Tryz.func150,Tryz.ntmps150
    go_wp2_with (go_at_call 105;refine hrun.out.mono ?_;rintro e w' ⟨rfl,rfl⟩)
    go_ret2
    exact ⟨by rw [hN1.out];rfl,rfl⟩
end Go.Proofs.YtpcmamoomaddoaaGreatDoor
