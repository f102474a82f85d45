/- InquiryOpened: for all inputs, if there is an account and a sight is opened, nobody but its holder is possible for it, and without the opening all that were possible still are: the row and its card; no condition. (Shortened by program to keep within the size of a claim.) -/
import Derived.Test.YtpcmamoomaddoaaGreatDoorLwo
import Derived.Test.YtpcmamoomaddoaaGreatDoorSan
import Derived.Test.YtpcmamoomaddoaaGreatDoorOpm
import Derived.Test.YtpcmamoomaddoaaGreatDoorClfo
import Derived.Test.YtpcmamoomaddoaaGreatDoorCards
import Derived.Test.YtpcmamoomaddoaaGreatDoorTie
import Derived.Deep.DeepHandedRow
import Derived.Deep.DeepWitnessRowRef
import Derived.ShutString
set_option maxRecDepth 100000
set_option maxHeartbeats 32000000
namespace Go.Proofs.YtpcmamoomaddoaaGreatDoor
open Go.ChangeShapes Go.WideShapes Go.ChangeAt Go.RowKit
open Go.Proofs.Tryz
theorem owno:ownKnob prog.godebug=none:=by kernel_rfl
theorem fD:laidOutB prog=true:=by kernel_rfl
theorem tF(H:Type)(enc:TypeId × Value->H)(W:World)(base:Nat)(args:Array Value)(ds gs:List (DataW H))(before:List MemPlace)
  (hval:∀(j:Nat) t v,Tryz.f6.params[j]?=some t->args[j]?=some v->Value.okWide prog W .any base t v)
  (hW:DataW.Whole enc prog Tryz.f6.params.toList Rows.inquiryOpenedSpec.vars false W args.toList ds gs before) (hL:laidMetH prog Rows.inquiryOpenedRow.laid W) (hsh:W.ShapedOpen prog) :
  Calls prog 6 args W fun e W'=>∃v,e=.returned v/\Rows.inquiryOpenedSpec.post enc prog Tryz.f6 false true false false W args v W':=by
 have hW':=hW;obtain⟨p,q,r,hV,rfl,a3,a2⟩:=hW;have U:DataW.TrodAll enc prog W 0 (fun _=>true) true Tryz.f6.params.toList args.toList ds p:=r;rw[params6]at U hval;obtain⟨A,a0,d0,a8,p0,q0,N,rfl,rfl,R,r0⟩:=trodAll_cons U;obtain⟨z,Z,d1,a7,p1,q1,rfl,rfl,rfl,s,r1⟩:=trodAll_cons r0;obtain⟨y,Y,d2,a6,p2,q2,rfl,rfl,rfl,Q,r2⟩:=trodAll_cons r1;obtain⟨w,X,d3,a5,p3,q3,rfl,rfl,rfl,P,r3⟩:=trodAll_cons r2;obtain⟨u,V,d4,a4,p4,q4,rfl,rfl,rfl,O,r4⟩:=trodAll_cons r3;obtain⟨rfl,rfl,rfl⟩:=trodAll_nil r4
 obtain rfl:args=#[A,z,y,w,u]:=by cases args;simp_all
 obtain⟨rfl,rfl⟩:=trodVars_none hV
 obtain⟨ks,L⟩:∃l:List Pss,aj PssR 4 W A l:=by
  obtain⟨a,m,c,rfl⟩:=okWide_slice underlying22 (hval 0 _ A rfl rfl);obtain⟨b,g⟩:=R;exact iJ (n:=b) (by simpa [Value.cells]using g)
 obtain⟨a1,o⟩:∃l:List Int,Row W 1 z l.length (ints l):=by
  obtain⟨a,m,c,rfl⟩:=okWide_slice underlying23 (hval 1 _ z rfl rfl);obtain⟨b,g⟩:=s;obtain⟨l,s,_⟩:=ii (n:=b) (by simpa [Value.cells]using g);exact⟨l,s⟩
 obtain⟨is,M,I⟩:∃l:List Iss,aj IssR 7 W y l/\∀x∈l,∀a∈x.attrs,Wf a:=by
  obtain⟨a,m,c,rfl⟩:=okWide_slice underlying24 (hval 2 _ y rfl rfl);obtain⟨b,g⟩:=Q;exact lS (n:=b) (by simpa [Value.cells]using g)
 obtain⟨ss,J⟩:∃l:List Sgt,aj SgtR 18 W w l:=by
  obtain⟨a,m,c,rfl⟩:=okWide_slice underlying25 (hval 3 _ w rfl rfl);obtain⟨b,g⟩:=P;exact lD (n:=b) (by simpa [Value.cells]using g)
 obtain⟨wh,rfl,G⟩:∃i:Int,u=.int .u8 i/\(Lit.int .u8 i).wf=true:=by
  obtain⟨i,rfl⟩:=okWide_int underlying5 (hval 4 _ u rfl rfl);obtain⟨b,g⟩:=O;exact xw (n:=b) (by simpa [Value.cells]using g)
 have F:∀x∈p0,x.block < W.heap.size:=by obtain⟨m,f⟩:=R;exact DataW.trod_lt m _ _ _ f
 have E:∀x∈p1,x.block < W.heap.size:=by obtain⟨m,f⟩:=s;exact DataW.trod_lt m _ _ _ f
 have D:∀x∈p2,x.block < W.heap.size:=by obtain⟨m,f⟩:=Q;exact DataW.trod_lt m _ _ _ f
 have C:∀x∈p3,x.block < W.heap.size:=by obtain⟨m,f⟩:=P;exact DataW.trod_lt m _ _ _ f
 have B:∀x∈p4,x.block < W.heap.size:=by obtain⟨m,f⟩:=O;exact DataW.trod_lt m _ _ _ f
 clear r;have T:=rD hL hsh;have k:=opened_walk T L o M I J G (nO T);refine k.mono fun e W' ⟨he,hk'⟩=>?_;subst he;have d:=hk'.below;exact⟨_,rfl,_,_,_,[],_,[],hW',trodAll_mk1 (shut_bool underlying4 _),(trodAll_cons_mk (Below.trod fD (by kernel_rfl) (of_decide_eq_true (by kernel_rfl)) R d F) (trodAll_cons_mk (Below.trod fD (by kernel_rfl) (of_decide_eq_true (by kernel_rfl)) s d E) (trodAll_cons_mk (Below.trod fD (by kernel_rfl) (of_decide_eq_true (by kernel_rfl)) Q d D) (trodAll_cons_mk (Below.trod fD (by kernel_rfl) (of_decide_eq_true (by kernel_rfl)) P d C) (trodAll_cons_mk (Below.trod fD (by kernel_rfl) (of_decide_eq_true (by kernel_rfl)) O d B) trodAll_mk0))))),rfl,d.frame _,fun h=>by cases h⟩
def vE:Array Value:=#[.slice none 0 0,.slice none 0 0,.slice none 0 0,.slice none 0 0,.int .u8 0]
theorem xX(os:Os){H:Type}(enc:TypeId × Value->H):∃places,DataW.whole enc prog ((laidWorld os).forCall (fun _ _=>0) ⟨#[],vE,[]⟩).memory Tryz.f6.params.toList Rows.inquiryOpenedSpec.vars false vE.toList 8 =
  some ([.nil,.nil,.nil,.nil,.lit (.int .u8 0)],[],places) := ⟨[],by kernel_rfl⟩
theorem wL(os:Os)(started:os.Started)(H:Type)(enc:TypeId × Value->H)(F:Stop.Interp) :
  ReturnsInHanded {} Tryz.checked os 6 .any ((OpenSpec.ofChange Rows.inquiryOpenedSpec).preRow enc prog Tryz.f6 Rows.inquiryOpenedRow.domain false Rows.inquiryOpenedRow.laid) (((OpenSpec.ofChange Rows.inquiryOpenedSpec).at F).post enc prog Tryz.f6 false true false false):=by
 obtain⟨e,g⟩:=xX os enc
 refine returnsInHanded_of_row (C:=Tryz.checked) (s:=OpenSpec.ofChange Rows.inquiryOpenedSpec) owno started (by kernel_rfl) func6
  (witness_row_atRef (enc:=enc) (C:=Tryz.checked) false (laidWorld os) vE rfl (by kernel_rfl) (by kernel_rfl) (by kernel_rfl)
   (OpenSpec.preRow_of_cond 8 g (by kernel_rfl) (fun k hk=>by cases hk) (by kernel_rfl) (oz os _))) ?_
 intro W c d l j a b h _ _ _ i f _;exact tF H enc W c d l j a b h i f
theorem saido:Rows.InquiryOpenedSaid :=
 OpenClaim.holds_of_cond 6 Tryz.f6 rfl rfl rfl rfl rfl rfl rfl ⟨rfl,rfl,rfl,rfl,rfl⟩ rfl rfl rfl rfl rfl nameo func6 closedo insto wrapo
  (fun os started H enc _ F=>by rw[OpenClaim.pre_eq_preRow];exact wL os started H enc F)
/-- No parameter wants a stand-in; the program's own looks are off: what the card asks. -/
theorem yf (f : FuncId) (fn : Func) (hf : Tryz.pinned.checked.prog.funcNamed "cloak/cloaklaw10.InquiryOpened" = some f) (hfn : Tryz.pinned.checked.prog.funcs[f]? = some fn) :
  true=Tryz.pinned.checked.prog.looks []/\∀(j:Nat) t,fn.params[j]?=some t->Tryz.pinned.checked.prog.wantsStandIn t=false:=by
 obtain rfl : f = 6 := Option.some.inj ((show prog.funcNamed "cloak/cloaklaw10.InquiryOpened" = some 6 by kernel_rfl).symm.trans hf) |>.symm;obtain rfl:fn=Tryz.f6:=(Option.some.inj (func6.symm.trans hfn)).symm;refine ⟨by kernel_rfl,fun j t ht=>?_⟩;rw [params6] at ht;have a:=Array.mem_of_getElem? ht;simp at a
 rcases a with rfl|rfl|rfl|rfl|rfl
 ·exact(show prog.wantsStandIn 22=false by kernel_rfl)
 ·exact(show prog.wantsStandIn 23=false by kernel_rfl)
 ·exact(show prog.wantsStandIn 24=false by kernel_rfl)
 ·exact(show prog.wantsStandIn 25=false by kernel_rfl)
 ·exact(show prog.wantsStandIn 5=false by kernel_rfl)
/-- ████ THE CARD ████ -/
theorem cardo:Rows.InquiryOpenedCardSaid :=
 Claim7.holds_tied_plain_at .later [] _ _ _ _ saido (fun _ h=>by cases h) (by kernel_rfl) (fun _ h=>by cases h) inquiryOpened_row_tie rfl ⟨rfl,rfl⟩ (by kernel_rfl) rfl yf (by kernel_rfl)
end Go.Proofs.YtpcmamoomaddoaaGreatDoor
