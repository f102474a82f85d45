import Derived.Test.YtpcmamoomaddoaaGreatDoorKys
import Derived.Test.YtpcmamoomaddoaaGreatDoorSrk
import Derived.Maps.OwnIn
import Derived.Lib.Strings
set_option maxRecDepth 100000
set_option maxHeartbeats 32000000
namespace Go.Proofs.YtpcmamoomaddoaaGreatDoor
open Go.RowKit Go.Maps Go.Sort Go.Shelf
open Go.Proofs.Tryz
def cells3(x:K3):List Value:=[.string ⟨x.1.toArray⟩,.string ⟨x.2.1.toArray⟩,.int .i64 x.2.2]
def cw(l:List K3):List Value:=l.flatMap cells3
theorem oV(l:List K3)(x:K3):cw (l++[x])=cw l++cells3 x:=by simp[cw]
/-- the loop's two codes -/
noncomputable def apParts:Code × Code:=match Tryz.f237.body with
 |some (.seq _ (.seq (.seq _ (.block _ (.rangeFunc _ _ a b))) _))=>(a,b)
 |_=>(.skip,.skip)
/-- the loop's record: 's' boxed in block Bs; sv: the iterator's value -/
noncomputable def apRec (fn:FuncId) (sv:Value) (Bs D:Nat) (st:LoopState) (pend:Option Code):Loop :=
 { state:=st,pending:=pend,fn,tmps:=#[.slice none 0 0,sv,.pointer (some ⟨Bs,0,none⟩),undef,.slice none 0 0,undef,sv,undef,undef,undef,undef,undef,undef],params:=#[7],assign:=apParts.1,body:=apParts.2,defers:=D }
/-- between two rounds -/
structure ApAt3 (w0:World) (fn:FuncId) (sv:Value) (Bs l D:Nat) (ss:List K3) (W:World):Prop where
 box:∃v,W.heap[Bs]?=some (.cells #[v] 179 (0,0))/\W.ownsRow w0.heap.size 182 3 v ss.length (cw ss)
 L:W.heap[l]?=some (.loop (apRec fn sv Bs D .ready none))
 K:W.heap[D]?=some (.deferred (some []))
 below:Below w0.heap.size w0 W
theorem ap3_abides(w0:World)(fn:FuncId)(sv:Value)(Bs l D B:Nat)(hB:w0.heap.size<=B):AbidesFrom B (ApAt3 w0 fn sv Bs l D):=fun s W W' row h hg hrow=>by
 have hrow':∀r,row=some r->∃o:Obj,W.heap[r]?=some o/\o.isWalk=true:=fun r e=>(hrow r e).2;obtain⟨v,hv,hr⟩:=h.box
 exact⟨⟨v,(grownBy_keeps hg hrow' hv rfl).trans hv,ownsRow_abides_a hr hg hrow'⟩,(grownBy_keeps hg hrow' h.L rfl).trans h.L,(grownBy_keeps hg hrow' h.K rfl).trans h.K,
  h.below.grown hg h.below.size (fun k e=>Nat.le_trans hB (hrow k e).1)⟩
theorem yw:(prog.info? 182).map (fun i=>(i.zero,i.size,i.bytes))=some (some (.agg #[.string ⟨#[]⟩,.string ⟨#[]⟩,.int .i64 0]),3,40):=by kernel_rfl
theorem vH(F:Fence)(m:Nat)(w0:World)(fn:FuncId)(hfn:F.fn fn)(sv:Value)(Bs l D:Nat)(hBl:Bs≠l)(hDl:D≠l)(hDB:D≠Bs)(h0B:w0.heap.size<=Bs)(h0l:w0.heap.size<=l)
  (N:Nat) (hN:N<=maxLen) (hNb:N*40<=140737488355328) (ss:List K3) (x:K3) (W:World) (h:ApAt3 w0 fn sv Bs l D ss W) (hlen:ss.length < N) :
  YieldAt F m prog l #[kv3 x] W fun e W'=>e=.returned (.bool true)/\ApAt3 w0 fn sv Bs l D (ss++[x]) W'/\KeepsWalks W W':=by
 obtain⟨i0,hi,ab,aa,a9⟩:=info_parts yw;obtain⟨p,n,i⟩:=x;refine⟨fn,#[.slice none 0 0,sv,.pointer (some ⟨Bs,0,none⟩),undef,.slice none 0 0,undef,sv,kv3 (p,n,i),undef,undef,undef,undef,undef],apParts.1,apParts.2,by simpa [apRec]using run_yield (P:=prog) (args:=#[kv3 (p,n,i)]) h.L rfl,roundIn_of_wpIn hfn ?_⟩;obtain⟨E,O⟩:∃g,W.heap.size=g:=⟨_,rfl⟩;obtain⟨X,R⟩:∃x,W.alloc (.cells #[.string ⟨p.toArray⟩,.string ⟨n.toArray⟩,.int .i64 i] 182)=x:=⟨_,rfl⟩;have a2:W.grownBy X none:=R▸World.grownBy_alloc W _ none;have V:Blk X E 182 #[.string ⟨p.toArray⟩,.string ⟨n.toArray⟩,.int .i64 i]:=O▸R▸Blk.new _ _ _;have a0:KeepsWalks W X:=R▸KeepsWalks.alloc _ _;have G:=ap3_abides w0 fn sv Bs l D w0.heap.size (Nat.le_refl _) ss W X none h a2 (fun r e=>by cases e);have b1:l < E:=O▸(Array.getElem?_eq_some_iff.1 h.L).1
 have b0:Bs < E:=by obtain⟨v,hv,_⟩:=h.box;exact O▸(Array.getElem?_eq_some_iff.1 hv).1
 obtain⟨v,hv,t⟩:=G.box;obtain⟨Z,Y,rfl⟩:=dX t;have hl:l < X.heap.size:=(Array.getElem?_eq_some_iff.1 G.L).1;have ap:=run_beginRound (P:=prog) G.L rfl;obtain⟨a,f⟩:∃a,X.putObj l (.loop { apRec fn sv Bs D .ready none with state:=.busy })=a:=⟨_,rfl⟩;rw[f]at ap
 have Q:X.grownBy a (some l):=by rw[<-f];exact grownBy_putObj_a _ _ _
 have ao:KeepsWalks W a:=a0.trans (by rw[<-f];exact KeepsWalks.putObj _ G.L rfl)
 have z:a.heap[Bs]?=some (.cells #[.slice Z ss.length Y] 179 (0,0)):=by rw[<-f];exact(World.putObj_heap_other hBl).trans hv
 have U:a.heap[D]?=some (.deferred (some [])):=by rw[<-f];exact(World.putObj_heap_other hDl).trans G.K
 have T:a.heap[l]?=some (.loop { apRec fn sv Bs D .ready none with state:=.busy }):=by rw[<-f];exact World.putObj_heap_same hl
 have b:a.ownsRow w0.heap.size 182 3 (.slice Z ss.length Y) ss.length (cw ss):=t.kept Q (ownsRow_ne_a t G.L (fun cur e=>by cases e));have B:Below w0.heap.size w0 a:=G.below.grown Q G.below.size (fun k e=>by cases e;exact h0l);have w:Blk a E 182 #[.string ⟨p.toArray⟩,.string ⟨n.toArray⟩,.int .i64 i]:=(Q.block E V.lt (by simp;omega)).trans V;obtain⟨b5,b3⟩:=cell_of_box_a z;have y0:a.cell? ⟨E,0,none⟩=some (.string ⟨p.toArray⟩):=w.cell 0;have y1:a.cell? ⟨E,1,none⟩=some (.string ⟨n.toArray⟩):=w.cell 1;have y2:a.cell? ⟨E,2,none⟩=some (.int .i64 i):=w.cell 2;have a8:Bs < a.heap.size:=(Array.getElem?_eq_some_iff.1 z).1;have ag:l < a.heap.size:=(Array.getElem?_eq_some_iff.1 T).1;have a7:D < a.heap.size:=(Array.getElem?_eq_some_iff.1 U).1
 have d:∀ {j:Nat} {o:Obj},a.heap[j]?=some o->(∀cur,o≠.cells cur 182 (0,0))->some j≠(Value.slice Z ss.length Y).ownBlock:=fun hj hno=>by
  rcases ownsRow_ne_a b hj hno with e|e
  ·rw[e];simp
  ·exact fun e'=>e e'.symm
 have au:E+1<=a.heap.size:=w.lt;clear f V w a0 a2;simp only[apParts,Tryz.f237,kv3]
 have M:∀j u,(cells3 (p,n,i))[j]?=some u->(a.alloc (.cells #[.string ⟨p.toArray⟩,.string ⟨n.toArray⟩,.int .i64 i] 182)).cell? ((⟨a.heap.size,0,none⟩:Addr).add j)=some u:=fun j u hj=>by
  rw[iv,Nat.zero_add,(Blk.new a 182 #[.string ⟨p.toArray⟩,.string ⟨n.toArray⟩,.int .i64 i]).cell j]
  simpa [cells3]using hj
 gi_wp2_with (first
  |(gi_at_builtin;refine wpListIn_append_own_at _ rfl _ _ 179 rfl w0.heap.size 182 i0 _ 3 40 underlying179 hi ab aa a9 rfl (by decide) (.slice Z ss.length Y) ss.length (cw ss) rfl (b.alloc _) ⟨a.heap.size,0,none⟩ 1 1 (cells3 (p,n,i)) rfl rfl M (by simp[cells3,Value.oneCell']) (by omega) (by omega) (by have:=B.size;simp;omega) ?_;intro v' I hown' a1 ad av;have J:I.heap[Bs]?=some (.cells #[.slice Z ss.length Y] 179 (0,0)):=(a1.block Bs (by simp;omega) (d z (fun cur e=>by cases e))).trans ((Below.heap_alloc _ _ Bs a8).trans z);obtain⟨b4,b2⟩:=cell_of_box_a J;obtain⟨a',c',rfl⟩:=dX hown';go_frame)
  |(rw[Oper.semAt_eq _ _ _ (fun c h=>by cases h)];go_simp;try go_bits))
 have hg3':(a.alloc (.cells #[.string ⟨p.toArray⟩,.string ⟨n.toArray⟩,.int .i64 i] 182)).grownBy I (Value.slice Z ss.length Y).ownBlock:=a1;have a5:I.heap[l]?=some (.loop { apRec fn sv Bs D .ready none with state:=.busy }):=(hg3'.block l (by simp;omega) (d T (fun cur e=>by cases e))).trans ((Below.heap_alloc _ _ l ag).trans T);have a6:I.heap[D]?=some (.deferred (some [])):=(hg3'.block D (by simp;omega) (d U (fun cur e=>by cases e))).trans ((Below.heap_alloc _ _ D a7).trans U);obtain⟨y,q⟩:∃y,I.setCell ⟨Bs,0,none⟩ (.slice a' (ss.length+1) c')=y:=⟨_,rfl⟩;rw[q]
 have A:I.grownBy y (some Bs):=by rw[<-q];exact grownBy_setCell0_a _ _ _
 have ac:y.heap[Bs]?=some (.cells #[.slice a' (ss.length+1) c'] 179 (0,0)):=by rw[<-q];exact heap_setCell_box_a _ J
 have C:y.heap[l]?=some (.loop { apRec fn sv Bs D .ready none with state:=.busy }):=(A.block l (Array.getElem?_eq_some_iff.1 a5).1 (fun e=>hBl (by cases e;rfl))).trans a5;have aq:y.heap[D]?=some (.deferred (some [])):=(A.block D (Array.getElem?_eq_some_iff.1 a6).1 (fun e=>hDB (by cases e;rfl))).trans a6;have s:=hown'.kept A (ownsRow_ne_a hown' J (fun cur e=>absurd (Obj.cells.inj e).2.1 (by decide)));have af:l < y.heap.size:=(Array.getElem?_eq_some_iff.1 C).1;have a4:Below w0.heap.size w0 I:=(B.alloc B.size _).grown hg3' (by have:=B.size;simp;omega) (fun k e=>(b.lt k e).1);have a3:Below w0.heap.size w0 y:=a4.grown A a4.size (fun k e=>by cases e;exact h0B);have an:KeepsWalks W y:=((ao.trans (KeepsWalks.alloc _ _)).trans (KeepsWalks.of_grownBy hg3' (ownsRow_not_walk_a (b.alloc _)))).trans (by rw[<-q];exact KeepsWalks.setCell _ _ _);clear q;refine⟨_,_,run_endRound none C,rfl,⟨⟨_,(World.putObj_heap_other hBl).trans ac,?_⟩,World.putObj_heap_same af,(World.putObj_heap_other hDl).trans aq,a3.grown (grownBy_putObj_a _ _ _) a3.size (fun k e=>by cases e;exact h0l)⟩,an.trans (KeepsWalks.putObj _ C rfl)⟩;have:=s.kept (grownBy_putObj_a y l (.loop { { apRec fn sv Bs D .ready none with state:=.busy }with state:=if(none:Option Code).isNone then .ready else .done,pending:=none })) (ownsRow_ne_a s C (fun cur e=>by cases e));rw[oV,List.length_append]
 simpa using this
theorem lr(F:Fence)(n:Nat)(h11:F.fn 237)(hro:F.round=none)(hn:2<=n)(g:Nat)(lb:Array Value)(hFg:F.fn g)(eg:∀args w,(callFunc g args).run prog w=.ok (.enter g args) w)
  (S:List K3->Prop) (N:Nat) (hN:N<=maxLen) (hNb:N*40<=140737488355328) (w:World) (hseq:SeqGives F (n - 1) prog g lb kv3 S N w) :
  CallsIn F n prog 237 #[.slice none 0 0,.func (.func g) #[] lb] w fun e w'=>∃(v:Value) (ss:List K3),e=.returned v/\S ss/\w'.ownsRow w.heap.size 182 3 v ss.length (cw ss)/\Below w.heap.size w w':=by
 have O:1<=n:=by omega
 refine callsIn_of_wp_marks func237 rfl h11 ?_ hro;simp only[ntmps237,List.size_toArray,List.length_cons,List.length_nil,Nat.reduceAdd,Nat.reduceSub,Array.replicate_succ,Array.replicate_zero,List.push_toArray,List.append_toArray,List.nil_append,List.cons_append]
 gi_wp2
 refine wpIn_rangeFunc ?_;intro fn z;rw[hro];obtain⟨a,i⟩:∃a,w.alloc (.cells #[.slice none 0 0] 179)=a:=⟨_,rfl⟩
 have y:a.heap.size=w.heap.size+1:=by rw[<-i];simp
 have u:a.heap[w.heap.size]?=some (.cells #[.slice none 0 0] 179 (0,0)):=by rw[<-i];exact World.alloc_heap_new w _
 have m:Below w.heap.size w a:=by rw[<-i];exact(Below.refl _ w).alloc (Nat.le_refl _) _
 rw[i];obtain⟨h,b⟩:∃h,(a.alloc (.deferred (some []))).alloc (.loop (apRec fn (.func (.func g) #[] lb) w.heap.size a.heap.size .ready none))=h:=⟨_,rfl⟩
 have p:∀k,k < a.heap.size->h.heap[k]?=a.heap[k]?:=fun k hk=>by
  rw[<-b];exact(Below.heap_alloc _ _ k (by simp;omega)).trans (Below.heap_alloc _ _ k hk)
 have l:Below w.heap.size w h:=by rw[<-b];exact(m.alloc m.size _).alloc (by have:=m.size;simp;omega) _
 have E:h.heap.size=a.heap.size+2:=by rw[<-b];simp
 have M:ApAt3 w fn (.func (.func g) #[] lb) w.heap.size (a.heap.size+1) a.heap.size [] h := ⟨⟨_,(p w.heap.size (by omega)).trans u,⟨rfl,.inl ⟨rfl,rfl⟩⟩⟩,
   by rw[<-b];have:=World.alloc_heap_new (a.alloc (.deferred (some []))) (.loop (apRec fn (.func (.func g) #[] lb) w.heap.size a.heap.size .ready none));rwa [World.size_alloc]at this,
   by rw[<-b];exact(Below.heap_alloc _ _ _ (by simp)).trans (World.alloc_heap_new a _),l⟩
 refine⟨a.heap.size+1,[{ target:=.collected a.heap.size,args:=#[] }],h,{ target:=.fn (.func g) lb,args:=#[.func (.yield (a.heap.size+1)) #[] #[]] },h,g,
  #[.func (.yield (a.heap.size+1)) #[] #[]]++lb,h,?_,?_,?_,?_,fun _=>O,?_⟩
 ·rw[<-b];exact run_enterLoop_outer _ _ _ _ _
 ·simp[resolve,go_sem]
 ·intro f' hf';simp[Target.leads]at hf';subst hf';exact hFg
 ·simp[invoke,go_sem,eg]
 ·refine(hseq (a.heap.size+1) (ApAt3 w fn (.func (.func g) #[] lb) w.heap.size (a.heap.size+1) a.heap.size) h l (ap3_abides _ _ _ _ _ _ _ l.size)
   (fun pre x W hJ hl=>vH F (n - 1 - 1) w fn z _ w.heap.size (a.heap.size+1) a.heap.size (by omega) (by omega) (by omega) (Nat.le_refl _) (by omega) N hN hNb pre x W hJ hl) M).mono ?_
  rintro e A ⟨⟨Q,rfl⟩,ss,J,o⟩;obtain⟨v,D,d⟩:=o.box;obtain⟨C,B,rfl⟩:=dX d;have j:=run_endLoop (P:=prog) o.L (by simp[apRec]);obtain⟨W3,f⟩:∃W3,A.putObj (a.heap.size+1) (.loop { apRec fn (.func (.func g) #[] lb) w.heap.size a.heap.size .ready none with state:=.exhausted })=W3:=⟨_,rfl⟩;rw[f]at j
  have q:A.grownBy W3 (some (a.heap.size+1)):=by rw[<-f];exact grownBy_putObj_a _ _ _
  have t:W3.heap[w.heap.size]?=some (.cells #[.slice C ss.length B] 179 (0,0)):=by rw[<-f];exact(World.putObj_heap_other (by omega)).trans D
  have s:W3.heap[a.heap.size]?=some (.deferred (some [])):=by rw[<-f];exact(World.putObj_heap_other (by omega)).trans o.K
  have c:=d.kept q (ownsRow_ne_a d o.L (fun cur e=>by cases e));have r:Below w.heap.size w W3:=o.below.grown q o.below.size (fun k e=>by cases e;omega);obtain⟨I,G⟩:=cell_of_box_a t;clear f;refine⟨none,W3,j,?_⟩
  gi_wp2
  rw[<-y];refine⟨by simp,.inl ⟨_,_,rfl,run_takeDeferred s,?_⟩⟩;exact⟨_,results_tmp rfl _ _ _,_,ss,rfl,J,c.kept (grownBy_putObj_a _ _ _) (ownsRow_ne_a c s (fun cur e=>by cases e)),r.grown (grownBy_putObj_a _ _ _) r.size (fun k e=>by cases e;omega)⟩
theorem oT(F:Fence)(n:Nat)(h8:F.fn 201)(h11:F.fn 237)(hro:F.round=none)(hn:3<=n)(g:Nat)(lb:Array Value)(hFg:F.fn g)(eg:∀args w,(callFunc g args).run prog w=.ok (.enter g args) w)
  (S:List K3->Prop) (N:Nat) (hN:N<=maxLen) (hNb:N*40<=140737488355328) (w:World) (hseq:SeqGives F (n - 1 - 1) prog g lb kv3 S N w) :
  CallsIn F n prog 201 #[.func (.func g) #[] lb] w fun e w'=>∃(v:Value) (ss:List K3),e=.returned v/\S ss/\w'.ownsRow w.heap.size 182 3 v ss.length (cw ss)/\Below w.heap.size w w':=by
 have f:1<=n:=by omega
 have d:∀args w,(callFunc 237 args).run prog w=.ok (.enter 237 args) w:=enters_of func237 (by kernel_rfl) rfl;refine callsIn_of_wp func201 rfl h8 ?_ hro;simp only[ntmps201,List.size_toArray,List.length_cons,List.length_nil,Nat.reduceAdd,Nat.reduceSub,Array.replicate_succ,Array.replicate_zero,List.push_toArray,List.append_toArray,List.nil_append,List.cons_append]
 gi_wp2_with (gi_at_call 237;refine(lr F (n - 1) h11 hro (by omega) g lb hFg eg S N hN hNb _ hseq).mono ?_;rintro e w' ⟨v,ss,rfl,c,a,b⟩)
 go_ret;exact⟨v,ss,rfl,c,a,b⟩
end Go.Proofs.YtpcmamoomaddoaaGreatDoor
namespace Go.Proofs.YtpcmamoomaddoaaGreatDoor
open Go.RowKit
open Go.Proofs.Tryz
open Lib(hid)
theorem retB{a b:Bool}(h:a=true↔b=true):Ending.returned (.bool a)=.returned (.bool b):=by rw[Bool.eq_iff_iff.2 h]
theorem bZ(c:UInt8)(w:World):Calls prog 104 #[.int .u8 (c.toNat:Int)] w fun e w'=>e=.returned (.bool (ch c))/\w=w':=by
 obtain⟨n,hn⟩:∃n:Nat,c.toNat=n:=⟨_,rfl⟩
 have hb:n < 256:=by rw[<-hn];exact c.toNat_lt
 unfold ch
 rw[hn];clear hn
 rcases(by omega:n < 65\/(65<=n/\n<=90)\/(90 < n/\n < 97)\/(97<=n/\n<=122)\/122 < n)with h|h|h|h|h
 all_goals
  go_enter func104,ntmps104
  go_wp2;go_ret;refine⟨retB ?_,rfl⟩
  simp <;> omega
theorem eP(c:UInt8)(w:World):Calls prog 147 #[.int .u8 (c.toNat:Int)] w fun e w'=>e=.returned (.bool (aN c))/\w=w':=by
 obtain⟨n,hn⟩:∃n:Nat,c.toNat=n:=⟨_,rfl⟩
 have hb:n < 256:=by rw[<-hn];exact c.toNat_lt
 unfold aN
 rw[hn];clear hn
 rcases(by omega:n < 48\/(48<=n/\n<=57)\/57 < n)with h|h|h
 all_goals
  go_enter func147,ntmps147
  go_wp2;go_ret;refine⟨retB ?_,rfl⟩
  simp <;> omega
theorem lV(c:UInt8)(w:World):Calls prog 106 #[.int .u8 (c.toNat:Int)] w fun e w'=>e=.returned (.bool (aT c))/\w=w':=by
 have b:((c.toNat:Int)==95)=(c.toNat==95):=by rw[Bool.eq_iff_iff];simp only[beq_iff_eq];omega
 have a:Hid (aT c=(ch c ||aN c ||c.toNat==95)):=rfl
 cases h1:ch c
 ·cases h2:aN c
  ·go_enter func106,ntmps106
   go_wp2_with (first
    |(go_at_call 104;refine(bZ c _).mono ?_;rw[h1];rintro e w' ⟨rfl,rfl⟩)
    |(go_at_call 147;refine(eP c _).mono ?_;rw[h2];rintro e w' ⟨rfl,rfl⟩))
   go_ret;exact⟨by rw[a.out,h1,h2];simp,rfl⟩
  ·go_enter func106,ntmps106
   go_wp2_with (first
    |(go_at_call 104;refine(bZ c _).mono ?_;rw[h1];rintro e w' ⟨rfl,rfl⟩)
    |(go_at_call 147;refine(eP c _).mono ?_;rw[h2];rintro e w' ⟨rfl,rfl⟩))
   go_ret;exact⟨by rw[a.out,h1,h2];simp,rfl⟩
 ·go_enter func106,ntmps106
  go_wp2_with (first
   |(go_at_call 104;refine(bZ c _).mono ?_;rw[h1];rintro e w' ⟨rfl,rfl⟩))
  go_ret;exact⟨by rw[a.out,h1];simp,rfl⟩
theorem mr(c:UInt8)(w:World):Calls prog 149 #[.int .u8 (c.toNat:Int)] w fun e w'=>e=.returned (.bool (bj c))/\w=w':=by
 obtain⟨n,hn⟩:∃n:Nat,c.toNat=n:=⟨_,rfl⟩
 unfold bj
 rw[hn];clear hn
 rcases(by omega:n=32\/n=9\/n=10\/(n≠32/\n≠9/\n≠10))with rfl|rfl|rfl|h
 all_goals
  try (have h1:((n:Int)==32)=false:=by simp;omega)
  try (have h2:((n:Int)==9)=false:=by simp;omega)
  try (have h3:((n:Int)==10)=false:=by simp;omega)
  go_enter func149,ntmps149
  go_wp2;go_ret;refine⟨retB ?_,rfl⟩
  simp <;> omega
theorem lG(c:UInt8)(w:World):Calls prog 193 #[.int .u8 (c.toNat:Int)] w fun e w'=>e=.returned (.bool (mM c))/\w=w':=by
 obtain⟨n,hn⟩:∃n:Nat,c.toNat=n:=⟨_,rfl⟩
 have hb:n < 256:=by rw[<-hn];exact c.toNat_lt
 unfold mM
 rw[hn];clear hn
 rcases(by omega:n < 32\/(32<=n/\n<=126)\/126 < n)with h|h|h
 all_goals
  go_enter func193,ntmps193
  go_wp2;go_ret;refine⟨retB ?_,rfl⟩
  simp <;> omega
theorem lE(s:List UInt8)(w:World)(hs:s.length<=100000000) :
  Calls prog 105 #[.string ⟨s.toArray⟩,.func (.func 106) #[] #[]] w fun e w'=>e=.returned (.int .i64 (runB aT s))/\w=w':=by
 go_enter func105,ntmps105
 go_wp2_with fail
 go_loop [5] (fun i=>∃k:Nat,k<=s.length/\i=.int .i64 k/\runB aT s=k+runB aT (s.drop k)) (fun i=>s.length - (intOf i).toNat)
 case atStart=>exact⟨0,Nat.zero_le _,rfl,by simp⟩
 case round =>
  obtain⟨k,l,rfl,g⟩:=hrel;have d:=hid g;clear g
  by_cases hlt:k < s.length
  ·have c:k < (⟨s.toArray⟩:ByteArray).size:=by simpa [ByteArray.size]using hlt
   have b:s.drop k=s[k]::s.drop (k+1):=List.drop_eq_getElem_cons hlt
   cases hb:aT ((⟨s.toArray⟩:ByteArray)[k]'c)
   ·have a:runB aT s=k:=by
     have:aT s[k]=false:=hb;rw[d.out,b]
     show k+(List.takeWhile aT (s[k]::s.drop (k+1))).length=k
     rw[List.takeWhile_cons,this]
     rfl
    have f:=hid a;clear a b;go_wp2_with (go_at_call 106;refine(lV _ _).mono ?_;rw[hb];rintro e w' ⟨rfl,rfl⟩);go_ret;exact⟨by rw[f.out];rfl,rfl⟩
   ·have h:runB aT s=(k+1)+runB aT (s.drop (k+1)):=by
     rw[d.out,b];have:aT s[k]=true:=hb;simp only[runB,List.takeWhile_cons,this,if_true,List.length_cons];omega
    have j:=hid h;clear h b;go_wp2_with (go_at_call 106;refine(lV _ _).mono ?_;rw[hb];rintro e w' ⟨rfl,rfl⟩)
    go_round
    case rel=>exact⟨k+1,by omega,by go_num,j.out⟩
    case measure=>simp[intOf];omega
  ·obtain rfl:k=s.length:=by omega
   have a:runB aT s=s.length:=by rw[d.out];simp[runB]
   have f:=hid a;clear a;go_wp2_with fail;go_ret;exact⟨by rw[f.out];rfl,rfl⟩
theorem iF(s:List UInt8)(w:World)(hs:s.length<=100000000) :
  Calls prog 105 #[.string ⟨s.toArray⟩,.func (.func 147) #[] #[]] w fun e w'=>e=.returned (.int .i64 (runB aN s))/\w=w':=by
 go_enter func105,ntmps105
 go_wp2_with fail
 go_loop [5] (fun i=>∃k:Nat,k<=s.length/\i=.int .i64 k/\runB aN s=k+runB aN (s.drop k)) (fun i=>s.length - (intOf i).toNat)
 case atStart=>exact⟨0,Nat.zero_le _,rfl,by simp⟩
 case round =>
  obtain⟨k,l,rfl,g⟩:=hrel;have d:=hid g;clear g
  by_cases hlt:k < s.length
  ·have c:k < (⟨s.toArray⟩:ByteArray).size:=by simpa [ByteArray.size]using hlt
   have b:s.drop k=s[k]::s.drop (k+1):=List.drop_eq_getElem_cons hlt
   cases hb:aN ((⟨s.toArray⟩:ByteArray)[k]'c)
   ·have a:runB aN s=k:=by
     have:aN s[k]=false:=hb;rw[d.out,b]
     show k+(List.takeWhile aN (s[k]::s.drop (k+1))).length=k
     rw[List.takeWhile_cons,this]
     rfl
    have f:=hid a;clear a b;go_wp2_with (go_at_call 147;refine(eP _ _).mono ?_;rw[hb];rintro e w' ⟨rfl,rfl⟩);go_ret;exact⟨by rw[f.out];rfl,rfl⟩
   ·have h:runB aN s=(k+1)+runB aN (s.drop (k+1)):=by
     rw[d.out,b];have:aN s[k]=true:=hb;simp only[runB,List.takeWhile_cons,this,if_true,List.length_cons];omega
    have j:=hid h;clear h b;go_wp2_with (go_at_call 147;refine(eP _ _).mono ?_;rw[hb];rintro e w' ⟨rfl,rfl⟩)
    go_round
    case rel=>exact⟨k+1,by omega,by go_num,j.out⟩
    case measure=>simp[intOf];omega
  ·obtain rfl:k=s.length:=by omega
   have a:runB aN s=s.length:=by rw[d.out];simp[runB]
   have f:=hid a;clear a;go_wp2_with fail;go_ret;exact⟨by rw[f.out];rfl,rfl⟩
theorem iG(s:List UInt8)(w:World)(hs:s.length<=100000000) :
  Calls prog 105 #[.string ⟨s.toArray⟩,.func (.func 149) #[] #[]] w fun e w'=>e=.returned (.int .i64 (runB bj s))/\w=w':=by
 go_enter func105,ntmps105
 go_wp2_with fail
 go_loop [5] (fun i=>∃k:Nat,k<=s.length/\i=.int .i64 k/\runB bj s=k+runB bj (s.drop k)) (fun i=>s.length - (intOf i).toNat)
 case atStart=>exact⟨0,Nat.zero_le _,rfl,by simp⟩
 case round =>
  obtain⟨k,l,rfl,g⟩:=hrel;have d:=hid g;clear g
  by_cases hlt:k < s.length
  ·have c:k < (⟨s.toArray⟩:ByteArray).size:=by simpa [ByteArray.size]using hlt
   have b:s.drop k=s[k]::s.drop (k+1):=List.drop_eq_getElem_cons hlt
   cases hb:bj ((⟨s.toArray⟩:ByteArray)[k]'c)
   ·have a:runB bj s=k:=by
     have:bj s[k]=false:=hb;rw[d.out,b]
     show k+(List.takeWhile bj (s[k]::s.drop (k+1))).length=k
     rw[List.takeWhile_cons,this]
     rfl
    have f:=hid a;clear a b;go_wp2_with (go_at_call 149;refine(mr _ _).mono ?_;rw[hb];rintro e w' ⟨rfl,rfl⟩);go_ret;exact⟨by rw[f.out];rfl,rfl⟩
   ·have h:runB bj s=(k+1)+runB bj (s.drop (k+1)):=by
     rw[d.out,b];have:bj s[k]=true:=hb;simp only[runB,List.takeWhile_cons,this,if_true,List.length_cons];omega
    have j:=hid h;clear h b;go_wp2_with (go_at_call 149;refine(mr _ _).mono ?_;rw[hb];rintro e w' ⟨rfl,rfl⟩)
    go_round
    case rel=>exact⟨k+1,by omega,by go_num,j.out⟩
    case measure=>simp[intOf];omega
  ·obtain rfl:k=s.length:=by omega
   have a:runB bj s=s.length:=by rw[d.out];simp[runB]
   have f:=hid a;clear a;go_wp2_with fail;go_ret;exact⟨by rw[f.out];rfl,rfl⟩
theorem qX(p:UInt8->Bool)(l:List UInt8):(runB p l=l.length)↔l.all p=true:=by
 unfold runB
 induction l with
 |nil=>simp
 |cons a l ih =>
  rw[List.takeWhile_cons,List.all_cons]
  cases h:p a
  ·simp
  ·simp only[if_true,List.length_cons,Bool.true_and];rw[<-ih];omega
theorem gX(p:UInt8->Bool)(l:List UInt8):runB p l<=l.length:=(List.takeWhile_sublist p).length_le
theorem ke(s:List UInt8)(w:World)(hs:s.length<=100000000) :
  Calls prog 61 #[.string ⟨s.toArray⟩] w fun e w'=>e=.returned (.bool (cE s))/\w=w':=by
 rcases s with _|⟨a,t⟩
 ·go_enter func61,ntmps61
  go_wp2_with fail;go_ret;exact⟨rfl,rfl⟩
 ·have d:Hid (cE (a::t)=(ch a&&decide ((a::t).length<=20)&&(a::t).all aT)):=by simp[cE,Hid]
  have k:=hid (qX aT (a::t));have o:(a::t).length=t.length+1:=rfl;have n:t.length+1<=100000000:=hs;clear hs o
  have g:0 < (⟨(a::t).toArray⟩:ByteArray).size:=by simp[ByteArray.size]
  have m:ch ((⟨(a::t).toArray⟩:ByteArray)[0]'g)=ch a:=rfl;have f:=hid m;clear m
  cases h1:ch a
  ·go_enter func61,ntmps61
   go_wp2_with (go_at_call 104;refine(bZ _ _).mono ?_;rw[f.out,h1];rintro e w' ⟨rfl,rfl⟩);go_ret;exact⟨by rw[d.out,h1];rfl,rfl⟩
  ·by_cases h20:t.length+1<=20
   ·have b:=hid (lE (a::t) w n);obtain⟨q,j⟩:∃q,runB aT (a::t)=q:=⟨_,rfl⟩;rw[j]at k b;have p:=hid j;clear j
    by_cases hall:q=t.length+1
    ·have c:(a::t).all aT=true:=k.out.1 hall;have l:=hid c
     have i:((q:Int)==(t.length:Int)+1)=true:=by simp;omega
     clear c hall
     go_enter func61,ntmps61
     go_wp2_with (first
      |(go_at_call 104;refine(bZ _ _).mono ?_;rw[f.out,h1];rintro e w' ⟨rfl,rfl⟩)
      |(go_at_call 105;refine b.out.mono ?_;rintro e w' ⟨rfl,rfl⟩))
     go_ret;exact⟨by rw[d.out,h1,l.out];simp[h20],rfl⟩
    ·have c:(a::t).all aT=false:=by
      cases h:(a::t).all aT
      ·rfl
      ·exact absurd (k.out.2 h) hall
     have l:=hid c
     have i:((q:Int)==(t.length:Int)+1)=false:=by simp;omega
     clear c hall
     go_enter func61,ntmps61
     go_wp2_with (first
      |(go_at_call 104;refine(bZ _ _).mono ?_;rw[f.out,h1];rintro e w' ⟨rfl,rfl⟩)
      |(go_at_call 105;refine b.out.mono ?_;rintro e w' ⟨rfl,rfl⟩))
     go_ret;exact⟨by rw[d.out,h1,l.out];simp[h20],rfl⟩
   ·go_enter func61,ntmps61
    go_wp2_with (go_at_call 104;refine(bZ _ _).mono ?_;rw[f.out,h1];rintro e w' ⟨rfl,rfl⟩);go_ret;exact⟨by rw[d.out,h1];simp[h20],rfl⟩
def qg(o:Option Nat):Value :=
 match o with
 |none=>.tuple #[.int .i64 0,.bool false]
 |some n=>.tuple #[.int .i64 n,.bool true]
theorem ol(l:Bs)(c:UInt8):cN (l++[c])=10*cN l+(c.toNat - 48):=by simp[cN,List.foldl_append]
theorem il:∀(l:Bs) (a:Nat),l.all aN=true->l.foldl (fun n c=>10*n+(c.toNat - 48)) a < (a+1)*10 ^ l.length
 | [],a,_=>by simp
 |c::l,a,h=>by
  rw[List.all_cons,Bool.and_eq_true]at h
  have hc:c.toNat - 48 < 10:=by
   have:=h.1;simp only[aN,Bool.and_eq_true,decide_eq_true_eq]at this;omega
  have:=il l (10*a+(c.toNat - 48)) h.2;rw[List.foldl_cons,List.length_cons,Nat.pow_succ];refine Nat.lt_of_lt_of_le this ?_;rw[Nat.mul_comm (10 ^ l.length) 10,<-Nat.mul_assoc];exact Nat.mul_le_mul_right _ (by omega)
theorem sG(l:Bs)(h:l.all aN=true)(hl:l.length<=13):cN l < 10000000000000:=by
 have h1:=il l 0 h;have h2:10 ^ l.length<=10 ^ 13:=Nat.pow_le_pow_right (by decide) hl
 have h3:(10:Nat) ^ 13=10000000000000:=by decide
 unfold cN
 omega
theorem qf(s:List UInt8)(w:World)(hs:s.length<=100000000) :
  Calls prog 150 #[.string ⟨s.toArray⟩] w fun e w'=>e=.returned (qg (cg s))/\w=w':=by
 rcases s with _|⟨a,t⟩
 ·go_enter func150,ntmps150
  go_wp2_with fail
  go_ret2
  exact⟨rfl,rfl⟩
 ·have M:t.length+1<=100000000:=hs;clear hs
  have o:0 < (⟨(a::t).toArray⟩:ByteArray).size:=by simp[ByteArray.size]
  have b:=hid (iF (a::t) w M);have B:=hid (qX aN (a::t));obtain⟨q,N⟩:∃q,runB aN (a::t)=q:=⟨_,rfl⟩;rw[N]at B b;clear N
  cases hall:(a::t).all aN
  ·have V:Hid (cg (a::t)=none):=by unfold Hid cg;rw[hall];rfl
   have p:((q:Int) != (t.length:Int)+1)=true:=by
    have I:¬q=(a::t).length:=fun h=>by have:=B.out.1 h;rw[hall]at this;cases this
    rw[List.length_cons]at I
    simp;omega
   clear hall B
   go_enter func150,ntmps150
   go_wp2_with (go_at_call 105;refine b.out.mono ?_;rintro e w' ⟨rfl,rfl⟩)
   go_ret2
   exact⟨by rw[V.out];rfl,rfl⟩
  have p:((q:Int) != (t.length:Int)+1)=false:=by
   have I:q=(a::t).length:=B.out.2 hall;rw[List.length_cons]at I
   simp;omega
  have J:=hid hall;clear B
  have z:cg (a::t)=if(((a::t).headD 0==48&&(a::t).length != 1) ||decide (13 < (a::t).length))=true then none else if 1099511627776 < cN (a::t)then none else some (cN (a::t)):=by
   unfold cg;rw[hall];simp
  have f:=hid z;clear z hall;have u:(((⟨(a::t).toArray⟩:ByteArray)[0]'o).toNat:Int)=(a.toNat:Int):=rfl
  by_cases ha:a=48
  ·have L:((((⟨(a::t).toArray⟩:ByteArray)[0]'o).toNat:Int)==48)=true:=by rw[u,ha];rfl
   by_cases htn:t=[]
   ·subst ha htn;have c:Calls prog 105 #[.string ⟨#[48]⟩,.func (.func 147) #[] #[]] w fun e w'=>e=.returned (.int .i64 1)/\w=w':=iF [48] w (by decide);have A:=hid c;have C:Hid (cg [48]=some 0):=hid (by decide);clear b c f J p L u M o
    show Calls _ _ #[.string ⟨#[48]⟩] _ _
    go_enter func150,ntmps150
    go_wp2_with (go_at_call 105;refine A.out.mono ?_;rintro e w' ⟨rfl,rfl⟩)
    go_loop [4,31] (fun n i=>n=.int .i64 0/\(i=.int .i64 0\/i=.int .i64 1)) (fun _ i=>1 - (intOf i).toNat)
    case atStart=>exact⟨rfl,Or.inl rfl⟩
    case round =>
     obtain⟨rfl,rfl|rfl⟩:=hrel
     ·go_wp2_with fail
      go_round
      case rel=>exact⟨rfl,Or.inr rfl⟩
      case measure=>simp[intOf]
     ·go_wp2_with fail
      go_ret2
      exact⟨by rw[C.out];rfl,rfl⟩
   ·have P:¬(a=48/\t=[]):=fun h=>htn h.2;have E3:¬a=48\/¬t=[]:=Or.inr htn
    have r:Hid (cg (a::t)=none):=by
     have:=f.out;rw[if_pos (by rw[Bool.or_eq_true];left;rw[ha];simp[htn])]at this;exact this
    clear f ha htn u
    go_enter func150,ntmps150
    go_wp2_with (go_at_call 105;refine b.out.mono ?_;rintro e w' ⟨rfl,rfl⟩)
    go_ret2
    exact⟨by rw[r.out];rfl,rfl⟩
  ·have L:((((⟨(a::t).toArray⟩:ByteArray)[0]'o).toNat:Int)==48)=false:=by
    rw[u,beq_eq_false_iff_ne];intro h
    have X:a.toNat=48:=by omega
    exact ha (UInt8.toNat_inj.1 X)
   have P:True:=trivial
   by_cases hl13:t.length+1<=13
   ·have D:Hid (cg (a::t)=if 1099511627776 < cN (a::t)then none else some (cN (a::t))):=by
     have:=f.out;rw[if_neg (by rw[Bool.or_eq_true];rintro(h|h) <;> simp[ha]at h;omega)]at this;exact this
    clear f ha u;have f:=D;clear D
    go_enter func150,ntmps150
    go_wp2_with (go_at_call 105;refine b.out.mono ?_;rintro e w' ⟨rfl,rfl⟩);clear L P p
    go_loop [4,31] (fun n i=>∃k:Nat,k<=t.length+1/\i=.int .i64 k/\n=.int .i64 (cN ((a::t).take k))) (fun _ i=>t.length+1 - (intOf i).toNat)
    case atStart=>exact⟨0,Nat.zero_le _,rfl,rfl⟩
    case round =>
     obtain⟨k,Z,rfl,rfl⟩:=hrel;obtain⟨m,E⟩:∃m,cN ((a::t).take k)=m:=⟨_,rfl⟩
     have R:m < 10000000000000:=by
      rw[<-E];refine sG _ ?_ (by rw[List.length_take,List.length_cons];omega);rw[List.all_eq_true];intro x Q;exact List.all_eq_true.1 J.out x (List.mem_of_mem_take Q)
     have F:=hid E;rw[E];clear E
     by_cases hlt:k < t.length+1
     ·have G:k < (⟨(a::t).toArray⟩:ByteArray).size:=by simpa [ByteArray.size]using hlt
      obtain⟨d,U⟩:∃d,((⟨(a::t).toArray⟩:ByteArray)[k]'G).toNat=d:=⟨_,rfl⟩
      have v:k < (a::t).length:=by rw[List.length_cons];omega
      have y:(a::t)[k].toNat=d:=U
      have O:48<=d/\d<=57:=by
       have:=List.all_eq_true.1 J.out _ (List.getElem_mem v);simp only[aN,Bool.and_eq_true,decide_eq_true_eq]at this;omega
      have g:cN ((a::t).take (k+1))=10*m+(d - 48):=by
       rw[List.take_succ_eq_append_getElem v,ol,F.out,y]
      have Y:=hid g
      have T:((d:Int) - 48)=((d - 48:Nat):Int):=by omega
      clear g y F;go_wp2_with fail
      go_round
      case rel=>exact⟨k+1,by omega,by go_num,by rw[Y.out];go_num⟩
      case measure=>simp[intOf];omega
     ·obtain rfl:k=t.length+1:=by omega
      have j:cN (a::t)=m:=by rw[<-F.out,List.take_of_length_le (by simp)]
      have HF:=hid j;rw[j]at f;clear F j hlt
      by_cases hbig:(1099511627776:Int) < (m:Int)
      ·have l:1099511627776 < m:=by omega
       rw[if_pos l]at f;clear l;go_wp2_with fail
       go_ret2
       exact⟨by rw[f.out];rfl,rfl⟩
      ·have l:¬1099511627776 < m:=by omega
       rw[if_neg l]at f;clear l;go_wp2_with fail
       go_ret2
       exact⟨by rw[f.out];rfl,rfl⟩
   ·have r:Hid (cg (a::t)=none):=by
     have:=f.out;rw[if_pos (by simp;omega)]at this;exact this
    clear f ha u
    go_enter func150,ntmps150
    go_wp2_with (go_at_call 105;refine b.out.mono ?_;rintro e w' ⟨rfl,rfl⟩)
    go_ret2
    exact⟨by rw[r.out];rfl,rfl⟩
end Go.Proofs.YtpcmamoomaddoaaGreatDoor
namespace Go.Proofs.YtpcmamoomaddoaaGreatDoor
open Go.RowKit
open Lib(hid)
theorem kL(p:UInt8->Bool)(l:Bs):l.drop (runB p l)=l.dropWhile p:=by
 unfold runB
 induction l with
 |nil=>rfl
 |cons a l ih =>
  rw[List.takeWhile_cons,List.dropWhile_cons]
  split
  ·simpa using ih
  ·simp
theorem kJ(l:List UInt8)(a b:Nat):(⟨l.toArray⟩:ByteArray).extract a b=⟨((l.drop a).take (b - a)).toArray⟩:=by
 rw[Lib.extract_eq]
theorem uE(l:List UInt8)(k:Nat):(⟨l.toArray⟩:ByteArray).extract 0 k=⟨(l.take k).toArray⟩:=by
 rw[kJ];rfl
theorem eY(l:List UInt8)(k:Nat):(⟨l.toArray⟩:ByteArray).extract k l.length=⟨(l.drop k).toArray⟩:=by
 rw[kJ,List.take_of_length_le (by simp)]
theorem wX(s:List UInt8)(w:World)(hs:s.length<=100000000) :
  Calls Tryz.prog 113 #[.string ⟨s.toArray⟩] w fun e w'=>e=.returned (.int .i64 ((s.length - (gapB s).length:Nat):Int))/\w=w':=by
 have n:=hid (iG s w hs);have D:=gX bj s;obtain⟨q,G⟩:∃q,runB bj s=q:=⟨_,rfl⟩
 have l:gapC (s.length+1) (s.drop q)=gapB s:=by rw[<-G,kL];rfl
 have C:q<=s.length:=G▸D;rw[G]at n;have Q:=hid l;clear l G D;obtain⟨R,Y⟩:∃R,gapB s=R:=⟨_,rfl⟩;rw[Y]at Q ⊢
 go_enter Tryz.func113,Tryz.ntmps113
 go_wp2_with (go_at_call 105;refine n.out.mono ?_;rintro e w' ⟨rfl,rfl⟩)
 go_loop [3] (fun i=>∃k f:Nat,k<=s.length/\i=.int .i64 k/\s.length - k < f/\gapC f (s.drop k)=R) (fun i=>s.length - (intOf i).toNat)
 case atStart=>exact⟨q,s.length+1,C,rfl,by omega,Q.out⟩
 case round =>
  obtain⟨k,f,X,rfl,hf,T⟩:=hrel;have L:=hid T;clear T Q C n
  by_cases hlt:k < s.length
  ·have y:k < (⟨s.toArray⟩:ByteArray).size:=by simpa [ByteArray.size]using hlt
   obtain⟨c,O⟩:∃c,((⟨s.toArray⟩:ByteArray)[k]'y).toNat=c:=⟨_,rfl⟩
   by_cases h35:(c:Int)=35
   ·have I:((c:Int)==35)=true:=by simp[h35]
    go_wp2_with fail;have h:s.drop k=s[k]::s.drop (k+1):=List.drop_eq_getElem_cons hlt
    have A:s[k].toNat=35:=by have:s[k].toNat=c:=O;omega
    obtain⟨f,rfl⟩:∃g,f=g+1:=⟨f - 1,by omega⟩
    have p:gapC f (((s.drop k).dropWhile (fun c=>c.toNat != 10)).dropWhile bj)=R:=by
     have:=L.out;rw[h,gapC,if_pos A,<-h]at this;exact this
    have J:=hid p;have U:=hid h;have P:=hid A;clear p h A L O I h35
    go_loop [3] (fun i=>∃j:Nat,k<=j/\j<=s.length/\i=.int .i64 j/\(s.drop k).dropWhile (fun c=>c.toNat != 10)=(s.drop j).dropWhile (fun c=>c.toNat != 10)) (fun i=>s.length - (intOf i).toNat)
    case atStart=>exact⟨k,Nat.le_refl _,X,rfl,rfl⟩
    case round =>
     obtain⟨j,V,hj,rfl,m⟩:=hrel;have F:=hid m;clear m
     by_cases hjl:j < s.length
     ·have y:j < (⟨s.toArray⟩:ByteArray).size:=by simpa [ByteArray.size]using hjl
      have x:s.drop j=s[j]::s.drop (j+1):=List.drop_eq_getElem_cons hjl;obtain⟨d,N⟩:∃d,((⟨s.toArray⟩:ByteArray)[j]'y).toNat=d:=⟨_,rfl⟩
      by_cases h10:(d:Int)=10
      ·have I:((d:Int) != 10)=false:=by simp[h10]
       have u:(s.drop j).dropWhile (fun c=>c.toNat != 10)=s.drop j:=by
        have v:s[j].toNat=d:=N;rw[x,List.dropWhile_cons,if_neg (by rw[v];simp;omega)]
       have M:j≠k:=by
        intro e;subst e;have v:s[j].toNat=d:=N;have:=P.out;omega
       have E:=hid u;clear u x h10;have o:=gX bj (s.drop j);obtain⟨r,z⟩:∃r,runB bj (s.drop j)=r:=⟨_,rfl⟩
       have a:gapC f (s.drop (j+r))=R:=by
        have v:=J.out;rw[F.out,E.out,<-kL,z,List.drop_drop]at v;exact v
       have b:=hid (iG (s.drop j) w (by rw[List.length_drop];omega));rw[z]at b o;rw[List.length_drop]at o;have B:=hid a;clear a z J F E U P;go_wp2_with (go_at_call 105;rw[eY];refine b.out.mono ?_;rintro e w' ⟨rfl,rfl⟩)
       go_round
       case rel=>exact⟨j+r,f,by omega,by go_num,by omega,B.out⟩
       case measure=>simp[intOf];omega
      ·have I:((d:Int) != 10)=true:=by simp[h10]
       have l:(s.drop k).dropWhile (fun c=>c.toNat != 10)=(s.drop (j+1)).dropWhile (fun c=>c.toNat != 10):=by
        have v:s[j].toNat=d:=N;rw[F.out,x,List.dropWhile_cons,if_pos (by rw[v];simp;omega)]
       have Z:=hid l;clear l x;go_wp2_with fail
       go_round
       case rel=>exact⟨j+1,by omega,by omega,by go_num,Z.out⟩
       case measure=>simp[intOf];omega
     ·have u:(s.drop j).dropWhile (fun c=>c.toNat != 10)=s.drop j:=by rw[List.drop_of_length_le (by omega)];rfl
      have M:j≠k:=by omega
      have E:=hid u;clear u;have o:=gX bj (s.drop j);obtain⟨r,z⟩:∃r,runB bj (s.drop j)=r:=⟨_,rfl⟩
      have a:gapC f (s.drop (j+r))=R:=by
       have v:=J.out;rw[F.out,E.out,<-kL,z,List.drop_drop]at v;exact v
      have b:=hid (iG (s.drop j) w (by rw[List.length_drop];omega));rw[z]at b o;rw[List.length_drop]at o;have B:=hid a;clear a z J F E U P;go_wp2_with (go_at_call 105;rw[eY];refine b.out.mono ?_;rintro e w' ⟨rfl,rfl⟩)
      go_round
      case rel=>exact⟨j+r,f,by omega,by go_num,by omega,B.out⟩
      case measure=>simp[intOf];omega
   ·have I:((c:Int)==35)=false:=by simp[h35]
    have a:R.length=s.length - k:=by
     have h:s.drop k=s[k]::s.drop (k+1):=List.drop_eq_getElem_cons hlt;have v:s[k].toNat=c:=O;have:=L.out;obtain⟨f,rfl⟩:∃g,f=g+1:=⟨f - 1,by omega⟩;rw[h,gapC,if_neg (by omega),<-h]at this;rw[<-this,List.length_drop]
    have t:s.length - R.length=k:=by omega
    have B:=hid t;clear a t;go_wp2_with fail;go_ret;exact⟨by rw[B.out];rfl,rfl⟩
  ·obtain rfl:k=s.length:=by omega
   have a:R.length=0:=by
    have:=L.out;obtain⟨f,rfl⟩:∃g,f=g+1:=⟨f - 1,by omega⟩;rw[List.drop_length,gapC]at this;rw[<-this];rfl
   have t:s.length - R.length=s.length:=by omega
   have B:=hid t;clear a t;go_wp2_with fail;go_ret;exact⟨by rw[B.out];rfl,rfl⟩
end Go.Proofs.YtpcmamoomaddoaaGreatDoor
