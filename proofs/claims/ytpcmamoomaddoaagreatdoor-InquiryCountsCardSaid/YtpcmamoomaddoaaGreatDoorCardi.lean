/- The law InquiryCounts: its row and its card. -/
import Derived.Test.YtpcmamoomaddoaaGreatDoorSnq
import Derived.Test.YtpcmamoomaddoaaGreatDoorSan
import Derived.Test.YtpcmamoomaddoaaGreatDoorOpk
import Derived.Test.YtpcmamoomaddoaaGreatDoorClfi
import Derived.Test.YtpcmamoomaddoaaGreatDoorCards
import Derived.Test.YtpcmamoomaddoaaGreatDoorTie
import Derived.WalkKit
import Derived.ProofKit
import Derived.OpenShut
import Derived.Below
import Derived.Deep.DeepHandedRow
import Derived.Deep.DeepWitnessRowRef
import Derived.ShutString
namespace Go.Proofs.YtpcmamoomaddoaaGreatDoor
open Go.ChangeShapes Go.WideShapes Go.ChangeAt Go.RowKit
theorem owni:ownKnob Tryz.prog.godebug=none:=by kernel_rfl
theorem laidOuti:laidOutB Tryz.prog=true:=by kernel_rfl
set_option maxRecDepth 100000 in
theorem contracti (H:Type) (enc:TypeId × Value→H) (W:World) (base:Nat) (args:Array Value) (ds gs:List (DataW H)) (before:List MemPlace)
  (hval:∀ (j:Nat) t v,Tryz.f4.params[j]?=some t→args[j]?=some v→Value.okWide Tryz.prog W .any base t v)
  (hW:DataW.Whole enc Tryz.prog Tryz.f4.params.toList Rows.inquiryCountsSpec.vars false W args.toList ds gs before) (hL:laidMetH Tryz.prog Rows.inquiryCountsRow.laid W) (hsh:W.ShapedOpen Tryz.prog) :
  Calls Tryz.prog 4 args W fun e W'=>∃ v,e=.returned v∧Rows.inquiryCountsSpec.post enc Tryz.prog Tryz.f4 false true false false W args v W':=by
 have hW':=hW;obtain ⟨p,q,hA0,hV,rfl,hfz,hnd⟩:=hW;have hA:DataW.TrodAll enc Tryz.prog W 0 (fun _=>true) true Tryz.f4.params.toList args.toList ds p:=hA0;rw [Tryz.params4] at hA hval;obtain ⟨v0,vs0,d0,ds0,p0,q0,hargs,rfl,rfl,h0,r0⟩:=trodAll_cons hA;obtain ⟨v1,vs1,d1,ds1,p1,q1,rfl,rfl,rfl,h1,r1⟩:=trodAll_cons r0;obtain ⟨v2,vs2,d2,ds2,p2,q2,rfl,rfl,rfl,h2,r2⟩:=trodAll_cons r1;obtain ⟨v3,vs3,d3,ds3,p3,q3,rfl,rfl,rfl,h3,r3⟩:=trodAll_cons r2;obtain ⟨rfl,rfl,rfl⟩:=trodAll_nil r3
 obtain rfl:args=#[v0,v1,v2,v3]:=by cases args;simp_all
 obtain ⟨rfl,rfl⟩:=trodVars_none hV
 obtain ⟨ks,hks⟩:∃ l:List Pss,RowOf PssR 4 W v0 l:=by
  obtain ⟨a,m,c,rfl⟩:=okWide_slice Tryz.underlying22 (hval 0 _ v0 rfl rfl);obtain ⟨fuel,hf⟩:=h0;exact passes_of (n:=fuel) (by simpa [Value.cells] using hf)
 obtain ⟨log,hlog⟩:∃ l:List Int,Row W 1 v1 l.length (ints l):=by
  obtain ⟨a,m,c,rfl⟩:=okWide_slice Tryz.underlying23 (hval 1 _ v1 rfl rfl);obtain ⟨fuel,hf⟩:=h1;obtain ⟨l,h1,_⟩:=ints_of (n:=fuel) (by simpa [Value.cells] using hf);exact ⟨l,h1⟩
 obtain ⟨is,his,hwf⟩:∃ l:List Iss,RowOf IssR 7 W v2 l∧∀ x∈l,∀ a∈x.attrs,Wf a:=by
  obtain ⟨a,m,c,rfl⟩:=okWide_slice Tryz.underlying24 (hval 2 _ v2 rfl rfl);obtain ⟨fuel,hf⟩:=h2;exact issues_of (n:=fuel) (by simpa [Value.cells] using hf)
 obtain ⟨ss,hss⟩:∃ l:List Sgt,RowOf SgtR 18 W v3 l:=by
  obtain ⟨a,m,c,rfl⟩:=okWide_slice Tryz.underlying25 (hval 3 _ v3 rfl rfl);obtain ⟨fuel,hf⟩:=h3;exact sights_of (n:=fuel) (by simpa [Value.cells] using hf)
 have lt0:∀ x∈p0,x.block < W.heap.size:=by obtain ⟨m,hm⟩:=h0;exact DataW.trod_lt m _ _ _ hm
 have lt1:∀ x∈p1,x.block < W.heap.size:=by obtain ⟨m,hm⟩:=h1;exact DataW.trod_lt m _ _ _ hm
 have lt2:∀ x∈p2,x.block < W.heap.size:=by obtain ⟨m,hm⟩:=h2;exact DataW.trod_lt m _ _ _ hm
 have lt3:∀ x∈p3,x.block < W.heap.size:=by obtain ⟨m,hm⟩:=h3;exact DataW.trod_lt m _ _ _ hm
 clear hA0;have hE:=envB_of hL hsh;have hcall:=counts_walk hE hks hlog his hwf hss (sane_any hE);refine hcall.mono fun e W' ⟨he,hk'⟩=>?_;subst he;have bel:=hk'.below;exact ⟨_,rfl,_,_,_,[],_,[],hW',trodAll_mk1 (shut_bool Tryz.underlying4 _),(trodAll_cons_mk (Below.trod laidOuti (by kernel_rfl) (of_decide_eq_true (by kernel_rfl)) h0 bel lt0) (trodAll_cons_mk (Below.trod laidOuti (by kernel_rfl) (of_decide_eq_true (by kernel_rfl)) h1 bel lt1) (trodAll_cons_mk (Below.trod laidOuti (by kernel_rfl) (of_decide_eq_true (by kernel_rfl)) h2 bel lt2) (trodAll_cons_mk (Below.trod laidOuti (by kernel_rfl) (of_decide_eq_true (by kernel_rfl)) h3 bel lt3) trodAll_mk0)))),rfl,bel.frame _,fun h=>by cases h⟩
def argsi:Array Value:=#[.slice none 0 0,.slice none 0 0,.slice none 0 0,.slice none 0 0]
theorem readsi (os:Os) {H:Type} (enc:TypeId × Value→H):∃ places,DataW.whole enc Tryz.prog ((laidWorld os).forCall (fun _ _=>0) ⟨#[],argsi,[]⟩).memory Tryz.f4.params.toList Rows.inquiryCountsSpec.vars false argsi.toList 8 =
  some ([.nil,.nil,.nil,.nil],[],places) :=
 ⟨[],by kernel_rfl⟩
set_option maxRecDepth 100000 in
theorem liftedi (os:Os) (started:os.Started) (H:Type) (enc:TypeId × Value→H) (F:Stop.Interp) :
  ReturnsInHanded {} Tryz.checked os 4 .any ((OpenSpec.ofChange Rows.inquiryCountsSpec).preRow enc Tryz.prog Tryz.f4 Rows.inquiryCountsRow.domain false Rows.inquiryCountsRow.laid) (((OpenSpec.ofChange Rows.inquiryCountsSpec).at F).post enc Tryz.prog Tryz.f4 false true false false):=by
 obtain ⟨places,hx⟩:=readsi os enc
 refine returnsInHanded_of_row (C:=Tryz.checked) (s:=OpenSpec.ofChange Rows.inquiryCountsSpec) owni started (by kernel_rfl) Tryz.func4
  (witness_row_atRef (enc:=enc) (C:=Tryz.checked) false (laidWorld os) argsi rfl (by kernel_rfl) (by kernel_rfl) (by kernel_rfl)
   (OpenSpec.preRow_of_cond 8 hx (by kernel_rfl) (fun k hk=>by cases hk) (by kernel_rfl) (laid_met os _))) ?_
 intro W base args ds gs before hval hW _ _ _ hL hsh _;exact contracti H enc W base args ds gs before hval hW hL hsh
theorem saidi:Rows.InquiryCountsSaid :=
 OpenClaim.holds_of_cond 4 Tryz.f4 rfl rfl rfl rfl rfl rfl rfl ⟨rfl,rfl,rfl,rfl,rfl⟩ rfl rfl rfl rfl rfl namei Tryz.func4 closedi insti wrapi
  (fun os started H enc _ F=>by rw [OpenClaim.pre_eq_preRow];exact liftedi os started H enc F)
/-- No parameter wants a stand-in; the program's own looks are off: what the card asks. -/
theorem plaini (f : FuncId) (fn : Func) (hf : Tryz.pinned.checked.prog.funcNamed "cloak/cloaklaw10.InquiryCounts" = some f) (hfn : Tryz.pinned.checked.prog.funcs[f]? = some fn) :
  true=Tryz.pinned.checked.prog.looks []∧∀ (j:Nat) t,fn.params[j]?=some t→Tryz.pinned.checked.prog.wantsStandIn t=false:=by
 obtain rfl : f = 4 := Option.some.inj ((show Tryz.prog.funcNamed "cloak/cloaklaw10.InquiryCounts" = some 4 by kernel_rfl).symm.trans hf) |>.symm;obtain rfl:fn=Tryz.f4:=(Option.some.inj (Tryz.func4.symm.trans hfn)).symm;refine ⟨by kernel_rfl,fun j t ht=>?_⟩;rw [Tryz.params4] at ht;have hm:=Array.mem_of_getElem? ht;simp at hm
 rcases hm with rfl|rfl|rfl|rfl
 ·exact (show Tryz.prog.wantsStandIn 22=false by kernel_rfl)
 ·exact (show Tryz.prog.wantsStandIn 23=false by kernel_rfl)
 ·exact (show Tryz.prog.wantsStandIn 24=false by kernel_rfl)
 ·exact (show Tryz.prog.wantsStandIn 25=false by kernel_rfl)
/-- ████ THE CARD ████ -/
theorem cardi:Rows.InquiryCountsCardSaid :=
 Claim7.holds_tied_plain_at .later [] _ _ _ _ saidi (fun _ h=>by cases h) (by kernel_rfl) (fun _ h=>by cases h) inquiryCounts_row_tie rfl ⟨rfl,rfl⟩ (by kernel_rfl) rfl plaini (by kernel_rfl)
end Go.Proofs.YtpcmamoomaddoaaGreatDoor
