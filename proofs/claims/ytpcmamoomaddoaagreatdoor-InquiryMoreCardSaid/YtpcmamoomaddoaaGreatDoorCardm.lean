/- InquiryMore: for all inputs, with a further issuing no holder is possible for a sight no longer, as long as there are accounts, and with a further sight none is possible that was not: the row and its card; no condition. (Shortened by program to keep within the size of a claim.) -/
import Derived.Test.YtpcmamoomaddoaaGreatDoorLwm
import Derived.Test.YtpcmamoomaddoaaGreatDoorSan
import Derived.Test.YtpcmamoomaddoaaGreatDoorOpm
import Derived.Test.YtpcmamoomaddoaaGreatDoorClfm
import Derived.Test.YtpcmamoomaddoaaGreatDoorCards
import Derived.Test.YtpcmamoomaddoaaGreatDoorTie
import Derived.Deep.DeepHandedRow
import Derived.Deep.DeepWitnessRowRef
import Derived.ShutString
import Derived.SizedLaws
set_option maxRecDepth 100000
set_option maxHeartbeats 32000000
namespace Go.Proofs.YtpcmamoomaddoaaGreatDoor
open Go.ChangeShapes Go.WideShapes Go.ChangeAt Go.RowKit
open Go.Proofs.Tryz
theorem ownm:ownKnob prog.godebug=none:=by kernel_rfl
theorem eJ:laidOutB prog=true:=by kernel_rfl
theorem tG(H:Type)(enc:TypeId × Value->H)(W:World)(base:Nat)(args:Array Value)(ds gs:List (DataW H))(before:List MemPlace)
  (hval:∀(j:Nat) t v,Tryz.f5.params[j]?=some t->args[j]?=some v->Value.okWide prog W .any base t v)
  (hW:DataW.Whole enc prog Tryz.f5.params.toList Rows.inquiryMoreSpec.vars false W args.toList ds gs before) (hwt:(DataW.weightsEach prog (Tryz.f5.params.toList++(OpenSpec.ofChange Rows.inquiryMoreSpec).bare.plain.varTypes prog) (ds++gs)).all (·<=reachBytes)=true) (hL:laidMetH prog Rows.inquiryMoreRow.laid W) (hsh:W.ShapedOpen prog) :
  Calls prog 5 args W fun e W'=>∃v,e=.returned v/\Rows.inquiryMoreSpec.post enc prog Tryz.f5 false true false false W args v W':=by
 have hW':=hW;obtain⟨p,q,w,hV,rfl,a8,a7⟩:=hW;have hA:DataW.TrodAll enc prog W 0 (fun _=>true) true Tryz.f5.params.toList args.toList ds p:=w;rw[params5]at hA hval;obtain⟨E,a5,d0,af,p0,q0,V,rfl,rfl,Z,r0⟩:=trodAll_cons hA;obtain⟨D,a4,d1,ad,p1,q1,rfl,rfl,rfl,y,r1⟩:=trodAll_cons r0;obtain⟨C,a3,d2,ac,p2,q2,rfl,rfl,rfl,A,r2⟩:=trodAll_cons r1;obtain⟨B,a2,d3,ab,p3,q3,rfl,rfl,rfl,z,r3⟩:=trodAll_cons r2;obtain⟨v4,a1,d4,aa,p4,q4,rfl,rfl,rfl,Y,r4⟩:=trodAll_cons r3;obtain⟨v5,a0,d5,a9,p5,q5,rfl,rfl,rfl,X,r5⟩:=trodAll_cons r4;obtain⟨rfl,rfl,rfl⟩:=trodAll_nil r5
 obtain rfl:args=#[E,D,C,B,v4,v5]:=by cases args;simp_all
 obtain⟨rfl,rfl⟩:=trodVars_none hV
 obtain⟨ks,R⟩:∃l:List Pss,aj PssR 4 W E l:=by
  obtain⟨a,m,c,rfl⟩:=okWide_slice underlying22 (hval 0 _ E rfl rfl);obtain⟨b,g⟩:=Z;exact iJ (n:=b) (by simpa [Value.cells]using g)
 obtain⟨a6,s⟩:∃l:List Int,Row W 1 D l.length (ints l):=by
  obtain⟨a,m,c,rfl⟩:=okWide_slice underlying23 (hval 1 _ D rfl rfl);obtain⟨b,g⟩:=y;obtain⟨l,y,_⟩:=ii (n:=b) (by simpa [Value.cells]using g);exact⟨l,y⟩
 obtain⟨is,u,Q⟩:∃l:List Iss,aj IssR 7 W C l/\∀x∈l,∀a∈x.attrs,Wf a:=by
  obtain⟨a,m,c,rfl⟩:=okWide_slice underlying24 (hval 2 _ C rfl rfl);obtain⟨b,g⟩:=A;exact lS (n:=b) (by simpa [Value.cells]using g)
 obtain⟨ss,r⟩:∃l:List Sgt,aj SgtR 18 W B l:=by
  obtain⟨a,m,c,rfl⟩:=okWide_slice underlying25 (hval 3 _ B rfl rfl);obtain⟨b,g⟩:=z;exact lD (n:=b) (by simpa [Value.cells]using g)
 obtain⟨ci,xi,rfl,O,P⟩:=uZ (hval 4 _ v4 rfl rfl) Y;obtain⟨cy,xy,rfl,N⟩:=tZ (hval 5 _ v5 rfl rfl) X
 have M:∀x∈p0,x.block < W.heap.size:=by obtain⟨m,f⟩:=Z;exact DataW.trod_lt m _ _ _ f
 have L:∀x∈p1,x.block < W.heap.size:=by obtain⟨m,f⟩:=y;exact DataW.trod_lt m _ _ _ f
 have J:∀x∈p2,x.block < W.heap.size:=by obtain⟨m,f⟩:=A;exact DataW.trod_lt m _ _ _ f
 have I:∀x∈p3,x.block < W.heap.size:=by obtain⟨m,f⟩:=z;exact DataW.trod_lt m _ _ _ f
 have G:∀x∈p4,x.block < W.heap.size:=by obtain⟨m,f⟩:=Y;exact DataW.trod_lt m _ _ _ f
 have F:∀x∈p5,x.block < W.heap.size:=by obtain⟨m,f⟩:=X;exact DataW.trod_lt m _ _ _ f
 have U:is.length*72<=140737488351232:=by
  obtain⟨a,c,o,_,_⟩:=aj.form u;obtain⟨b,g⟩:=A
  exact oX underlying24 (by simpa [o,Value.cells]using g) o (fun elems spare hd=>by
   have:=sized_slice hwt (j:=2) (t:=24) (by kernel_rfl) (by rw[hd];rfl) underlying24
   rwa [show prog.bytesOf 42=72 by kernel_rfl]at this)
 have T:ss.length*328<=140737488351232:=by
  obtain⟨a,c,o,_,_⟩:=aj.form r;obtain⟨b,g⟩:=z
  exact oX underlying25 (by simpa [o,Value.cells]using g) o (fun elems spare hd=>by
   have:=sized_slice hwt (j:=3) (t:=25) (by kernel_rfl) (by rw[hd];rfl) underlying25
   rwa [show prog.bytesOf 61=328 by kernel_rfl]at this)
 clear w;have hE:=rD hL hsh;have i:=more_walk hE R s u Q r O P N U T (fun w' k=>nO (hE.kept0 k));refine i.mono fun e W' ⟨he,hk'⟩=>?_;subst he;have d:=hk'.below;exact⟨_,rfl,_,_,_,[],_,[],hW',trodAll_mk1 (shut_bool underlying4 _),(trodAll_cons_mk (Below.trod eJ (by kernel_rfl) (of_decide_eq_true (by kernel_rfl)) Z d M) (trodAll_cons_mk (Below.trod eJ (by kernel_rfl) (of_decide_eq_true (by kernel_rfl)) y d L) (trodAll_cons_mk (Below.trod eJ (by kernel_rfl) (of_decide_eq_true (by kernel_rfl)) A d J) (trodAll_cons_mk (Below.trod eJ (by kernel_rfl) (of_decide_eq_true (by kernel_rfl)) z d I) (trodAll_cons_mk (Below.trod eJ (by kernel_rfl) (of_decide_eq_true (by kernel_rfl)) Y d G) (trodAll_cons_mk (Below.trod eJ (by kernel_rfl) (of_decide_eq_true (by kernel_rfl)) X d F) trodAll_mk0)))))),rfl,d.frame _,fun h=>by cases h⟩
def vF:Array Value:=#[.slice none 0 0,.slice none 0 0,.slice none 0 0,.slice none 0 0,.agg #[.int .i64 0,.slice none 0 0,.int .i64 0,.int .i64 0,.int .i64 0,.int .i64 0,.int .i64 0],.agg #[.int .i64 0,.string ⟨#[]⟩,.slice none 0 0,.int .i64 0,.slice none 0 0,.int .i64 0,.int .i64 0,.int .i64 0,.slice none 0 0,.slice none 0 0,.slice none 0 0,.slice none 0 0,.slice none 0 0,.slice none 0 0,.slice none 0 0,.slice none 0 0,.slice none 0 0,.int .i64 0]]
theorem xY(os:Os){H:Type}(enc:TypeId × Value->H):∃places,DataW.whole enc prog ((laidWorld os).forCall (fun _ _=>0) ⟨#[],vF,[]⟩).memory Tryz.f5.params.toList Rows.inquiryMoreSpec.vars false vF.toList 8 =
  some ([.nil,.nil,.nil,.nil,.agg [.lit (.int .i64 0),.agg [.nil,.agg [.lit (.int .i64 0),.lit (.int .i64 0),.lit (.int .i64 0)],.lit (.int .i64 0),.lit (.int .i64 0)]],.agg [.agg [.lit (.int .i64 0),.lit (.string []),.nil,.lit (.int .i64 0),.nil,.lit (.int .i64 0),.lit (.int .i64 0),.lit (.int .i64 0)],.agg [.nil,.nil,.nil,.nil,.nil,.nil,.nil,.agg [.nil,.nil]],.lit (.int .i64 0)]],[],places) := ⟨[],by kernel_rfl⟩
theorem wN(os:Os)(started:os.Started)(H:Type)(enc:TypeId × Value->H)(F:Stop.Interp) :
  ReturnsInHanded {} Tryz.checked os 5 .any ((OpenSpec.ofChange Rows.inquiryMoreSpec).preRow enc prog Tryz.f5 Rows.inquiryMoreRow.domain false Rows.inquiryMoreRow.laid) (((OpenSpec.ofChange Rows.inquiryMoreSpec).at F).post enc prog Tryz.f5 false true false false):=by
 obtain⟨e,h⟩:=xY os enc
 refine returnsInHanded_of_row (C:=Tryz.checked) (s:=OpenSpec.ofChange Rows.inquiryMoreSpec) ownm started (by kernel_rfl) func5
  (witness_row_atRef (enc:=enc) (C:=Tryz.checked) false (laidWorld os) vF rfl (by kernel_rfl) (by kernel_rfl) (by kernel_rfl)
   (OpenSpec.preRow_of_cond 8 h (by kernel_rfl) (fun k hk=>by cases hk) (by kernel_rfl) (oz os _))) ?_
 intro W c d m l a b i _ _ f j g _;exact tG H enc W c d m l a b i f j g
theorem saidm:Rows.InquiryMoreSaid :=
 OpenClaim.holds_of_cond 5 Tryz.f5 rfl rfl rfl rfl rfl rfl rfl ⟨rfl,rfl,rfl,rfl,rfl⟩ rfl rfl rfl rfl rfl namem func5 closedm instm wrapm
  (fun os started H enc _ F=>by rw[OpenClaim.pre_eq_preRow];exact wN os started H enc F)
/-- No parameter wants a stand-in; the program's own looks are off: what the card asks. -/
theorem yg (f : FuncId) (fn : Func) (hf : Tryz.pinned.checked.prog.funcNamed "cloak/cloaklaw10.InquiryMore" = some f) (hfn : Tryz.pinned.checked.prog.funcs[f]? = some fn) :
  true=Tryz.pinned.checked.prog.looks []/\∀(j:Nat) t,fn.params[j]?=some t->Tryz.pinned.checked.prog.wantsStandIn t=false:=by
 obtain rfl : f = 5 := Option.some.inj ((show prog.funcNamed "cloak/cloaklaw10.InquiryMore" = some 5 by kernel_rfl).symm.trans hf) |>.symm;obtain rfl:fn=Tryz.f5:=(Option.some.inj (func5.symm.trans hfn)).symm;refine ⟨by kernel_rfl,fun j t ht=>?_⟩;rw [params5] at ht;have a:=Array.mem_of_getElem? ht;simp at a
 rcases a with rfl|rfl|rfl|rfl|rfl|rfl
 ·exact(show prog.wantsStandIn 22=false by kernel_rfl)
 ·exact(show prog.wantsStandIn 23=false by kernel_rfl)
 ·exact(show prog.wantsStandIn 24=false by kernel_rfl)
 ·exact(show prog.wantsStandIn 25=false by kernel_rfl)
 ·exact(show prog.wantsStandIn 42=false by kernel_rfl)
 ·exact(show prog.wantsStandIn 61=false by kernel_rfl)
/-- ████ THE CARD ████ -/
theorem cardm:Rows.InquiryMoreCardSaid :=
 Claim7.holds_tied_plain_at .later [] _ _ _ _ saidm (fun _ h=>by cases h) (by kernel_rfl) (fun _ h=>by cases h) inquiryMore_row_tie rfl ⟨rfl,rfl⟩ (by kernel_rfl) rfl yg (by kernel_rfl)
end Go.Proofs.YtpcmamoomaddoaaGreatDoor
