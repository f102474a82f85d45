/- The law on the tools of showings: its row and its card. -/
import Derived.Test.YtpcdfepndmconaaGreatDoorLaw8
import Derived.Test.YtpcdfepndmconaaGreatDoorOpen7
import Derived.Test.YtpcdfepndmconaaGreatDoorOpen8
import Derived.Test.YtpcdfepndmconaaGreatDoorCards
import Derived.Test.YtpcdfepndmconaaGreatDoorTie
import Derived.WalkKit
import Derived.ProofKit
import Derived.OpenShut
import Derived.Below
import Derived.Deep.DeepHandedRow
import Derived.Deep.DeepWitnessRowRef
import Derived.ShutString
namespace Go.Proofs.YtpcdfepndmconaaGreatDoor
open Go.ChangeShapes Go.WideShapes Go.ChangeAt Go.RowKit
theorem own8:ownKnob Tryz.prog.godebug=none:=by kernel_rfl
theorem laidOut8:laidOutB Tryz.prog=true:=by kernel_rfl
set_option maxRecDepth 100000 in
theorem contract8 (H:Type) (enc:TypeId × Value→H) (W:World) (base:Nat) (args:Array Value) (ds gs:List (DataW H)) (before:List MemPlace)
  (hval:∀ (j:Nat) t v,Tryz.f4.params[j]?=some t→args[j]?=some v→Value.okWide Tryz.prog W .any base t v)
  (hW:DataW.Whole enc Tryz.prog Tryz.f4.params.toList Rows.showToolsSpec.vars false W args.toList ds gs before) (hL:laidMetH Tryz.prog Rows.showToolsRow.laid W) :
  Calls Tryz.prog 4 args W fun e W'=>∃ v,e=.returned v∧Rows.showToolsSpec.post enc Tryz.prog Tryz.f4 false true false false W args v W':=by
 have hW':=hW;obtain ⟨p,q,hA0,hV,rfl,hfz,hnd⟩:=hW;have hA:DataW.TrodAll enc Tryz.prog W 0 (fun _=>true) true Tryz.f4.params.toList args.toList ds p:=hA0;rw [Tryz.params4] at hA hval;obtain ⟨v0,vs0,d0,ds0,p0,q0,hargs,rfl,rfl,h0,r0⟩:=trodAll_cons hA;obtain ⟨v1,vs1,d1,ds1,p1,q1,rfl,rfl,rfl,h1,r1⟩:=trodAll_cons r0;obtain ⟨v2,vs2,d2,ds2,p2,q2,rfl,rfl,rfl,h2,r2⟩:=trodAll_cons r1;obtain ⟨v3,vs3,d3,ds3,p3,q3,rfl,rfl,rfl,h3,r3⟩:=trodAll_cons r2;obtain ⟨v4,vs4,d4,ds4,p4,q4,rfl,rfl,rfl,h4,r4⟩:=trodAll_cons r3;obtain ⟨v5,vs5,d5,ds5,p5,q5,rfl,rfl,rfl,h5,r5⟩:=trodAll_cons r4;obtain ⟨v6,vs6,d6,ds6,p6,q6,rfl,rfl,rfl,h6,r6⟩:=trodAll_cons r5;obtain ⟨v7,vs7,d7,ds7,p7,q7,rfl,rfl,rfl,h7,r7⟩:=trodAll_cons r6;obtain ⟨v8,vs8,d8,ds8,p8,q8,rfl,rfl,rfl,h8,r8⟩:=trodAll_cons r7;obtain ⟨rfl,rfl,rfl⟩:=trodAll_nil r8
 obtain rfl:args=#[v0,v1,v2,v3,v4,v5,v6,v7,v8]:=by cases args;simp_all
 obtain ⟨rfl,rfl⟩:=trodVars_none hV;obtain ⟨s,hs⟩:=setup_of (hval 0 _ v0 rfl rfl) h0;obtain ⟨x,rfl,_,_,ix⟩:=open_int Tryz.underlying3 (hval 1 _ v1 rfl rfl) h1;obtain ⟨y,rfl,_,_,iy⟩:=open_int Tryz.underlying3 (hval 2 _ v2 rfl rfl) h2;obtain ⟨z,rfl,_,_,iz⟩:=open_int Tryz.underlying3 (hval 3 _ v3 rfl rfl) h3
 obtain ⟨a,ha,ia⟩:∃ l:List Int,Row W 1 v4 l.length (ints l)∧∀ x∈l,Wire.I64 x:=by
  obtain ⟨a,m,c,rfl⟩:=okWide_slice Tryz.underlying24 (hval 4 _ v4 rfl rfl);obtain ⟨fuel,hf⟩:=h4;obtain ⟨l,h1,h2,_⟩:=ints_of (n:=fuel) (by simpa [Value.cells] using hf);exact ⟨l,h1,h2⟩
 obtain ⟨b,hb,ib⟩:∃ l:List Int,Row W 1 v5 l.length (ints l)∧∀ x∈l,Wire.I64 x:=by
  obtain ⟨a,m,c,rfl⟩:=okWide_slice Tryz.underlying24 (hval 5 _ v5 rfl rfl);obtain ⟨fuel,hf⟩:=h5;obtain ⟨l,h1,h2,_⟩:=ints_of (n:=fuel) (by simpa [Value.cells] using hf);exact ⟨l,h1,h2⟩
 obtain ⟨pts,hp,ip⟩:∃ l:List Pnt3,Row W 3 v6 l.length (ints (flatP l))∧∀ p∈l,Wire.I64 p.1∧Wire.I64 p.2.1∧Wire.I64 p.2.2:=by
  obtain ⟨a,m,c,rfl⟩:=okWide_slice Tryz.underlying31 (hval 6 _ v6 rfl rfl);obtain ⟨fuel,hf⟩:=h6;exact points_of (n:=fuel) (by simpa [Value.cells] using hf)
 obtain ⟨rec,hrv,hri,hrl⟩:=record_of (hval 7 _ v7 rfl rfl) h7;obtain ⟨tx,rfl,_,_,htl⟩:=Go.ChangeMaps.open_string Tryz.underlying9 (hval 8 _ v8 rfl rfl) h8
 have lt0:∀ x∈p0,x.block < W.heap.size:=by obtain ⟨m,hm⟩:=h0;exact DataW.trod_lt m _ _ _ hm
 have lt1:∀ x∈p1,x.block < W.heap.size:=by obtain ⟨m,hm⟩:=h1;exact DataW.trod_lt m _ _ _ hm
 have lt2:∀ x∈p2,x.block < W.heap.size:=by obtain ⟨m,hm⟩:=h2;exact DataW.trod_lt m _ _ _ hm
 have lt3:∀ x∈p3,x.block < W.heap.size:=by obtain ⟨m,hm⟩:=h3;exact DataW.trod_lt m _ _ _ hm
 have lt4:∀ x∈p4,x.block < W.heap.size:=by obtain ⟨m,hm⟩:=h4;exact DataW.trod_lt m _ _ _ hm
 have lt5:∀ x∈p5,x.block < W.heap.size:=by obtain ⟨m,hm⟩:=h5;exact DataW.trod_lt m _ _ _ hm
 have lt6:∀ x∈p6,x.block < W.heap.size:=by obtain ⟨m,hm⟩:=h6;exact DataW.trod_lt m _ _ _ hm
 have lt7:∀ x∈p7,x.block < W.heap.size:=by obtain ⟨m,hm⟩:=h7;exact DataW.trod_lt m _ _ _ hm
 have lt8:∀ x∈p8,x.block < W.heap.size:=by obtain ⟨m,hm⟩:=h8;exact DataW.trod_lt m _ _ _ hm
 clear hA0;have hmx:maxLen=9223372036854775807:=rfl;rw [hmx] at hrl htl;obtain ⟨tk,sp,lk,cm,ch,bt,es,da,an,rfl,hrs⟩:=hrv;have hcall:=law8_any v0 v4 v5 v6 tk sp lk cm ch bt es da an s a b pts rec tx.data.toList x y z W hs ha hb hp hrs hri ia ib ip (wf_i64 ix) (wf_i64 iy) (wf_i64 iz) (env2_of_laid hL) hrl htl;rw [ofBytes9] at hcall;refine hcall.mono fun e W' ⟨he,hk⟩=>?_;subst he;have bel:=hk.below;exact ⟨_,rfl,_,_,_,[],_,[],hW',trodAll_mk1 (shut_bool Tryz.underlying4 _),(trodAll_cons_mk (Below.trod laidOut8 (by kernel_rfl) (of_decide_eq_true (by kernel_rfl)) h0 bel lt0) (trodAll_cons_mk (Below.trod laidOut8 (by kernel_rfl) (of_decide_eq_true (by kernel_rfl)) h1 bel lt1) (trodAll_cons_mk (Below.trod laidOut8 (by kernel_rfl) (of_decide_eq_true (by kernel_rfl)) h2 bel lt2) (trodAll_cons_mk (Below.trod laidOut8 (by kernel_rfl) (of_decide_eq_true (by kernel_rfl)) h3 bel lt3) (trodAll_cons_mk (Below.trod laidOut8 (by kernel_rfl) (of_decide_eq_true (by kernel_rfl)) h4 bel lt4) (trodAll_cons_mk (Below.trod laidOut8 (by kernel_rfl) (of_decide_eq_true (by kernel_rfl)) h5 bel lt5) (trodAll_cons_mk (Below.trod laidOut8 (by kernel_rfl) (of_decide_eq_true (by kernel_rfl)) h6 bel lt6) (trodAll_cons_mk (Below.trod laidOut8 (by kernel_rfl) (of_decide_eq_true (by kernel_rfl)) h7 bel lt7) (trodAll_cons_mk (Below.trod laidOut8 (by kernel_rfl) (of_decide_eq_true (by kernel_rfl)) h8 bel lt8) trodAll_mk0))))))))),rfl,bel.frame _,fun h=>by cases h⟩
def args8:Array Value:=#[.agg #[.int .i64 0,.int .i64 0,.int .i64 0,.slice none 0 0,.int .i64 0],.int .i64 0,.int .i64 0,.int .i64 0,.slice none 0 0,.slice none 0 0,.slice none 0 0,.agg #[.slice none 0 0,.slice none 0 0,.slice none 0 0,.slice none 0 0,.slice none 0 0,.slice none 0 0,.slice none 0 0,.slice none 0 0,.slice none 0 0],.string ⟨#[]⟩]
theorem reads8 (os:Os) {H:Type} (enc:TypeId × Value→H):∃ places,DataW.whole enc Tryz.prog ((laidWorld os).forCall (fun _ _=>0) ⟨#[],args8,[]⟩).memory Tryz.f4.params.toList Rows.showToolsSpec.vars false args8.toList 8 =
  some ([.agg [.agg [.lit (.int .i64 0),.lit (.int .i64 0),.lit (.int .i64 0)],.nil,.lit (.int .i64 0)],.lit (.int .i64 0),.lit (.int .i64 0),.lit (.int .i64 0),.nil,.nil,.nil,.agg [.nil,.nil,.nil,.nil,.nil,.nil,.nil,.agg [.nil,.nil]],.lit (.string [])],[],places) :=
 ⟨[],by kernel_rfl⟩
set_option maxRecDepth 100000 in
theorem lifted8 (os:Os) (started:os.Started) (H:Type) (enc:TypeId × Value→H) (F:Stop.Interp) :
  ReturnsInHanded {} Tryz.checked os 4 .any ((OpenSpec.ofChange Rows.showToolsSpec).preRow enc Tryz.prog Tryz.f4 Rows.showToolsRow.domain false Rows.showToolsRow.laid) (((OpenSpec.ofChange Rows.showToolsSpec).at F).post enc Tryz.prog Tryz.f4 false true false false):=by
 obtain ⟨places,hx⟩:=reads8 os enc
 refine returnsInHanded_of_row (C:=Tryz.checked) (s:=OpenSpec.ofChange Rows.showToolsSpec) own8 started (by kernel_rfl) Tryz.func4
  (witness_row_atRef (enc:=enc) (C:=Tryz.checked) false (laidWorld os) args8 rfl (by kernel_rfl) (by kernel_rfl) (by kernel_rfl)
   (OpenSpec.preRow_of_cond 8 hx (by kernel_rfl) (fun k hk=>by cases hk) (by kernel_rfl) (laid_met os _))) ?_
 intro W base args ds gs before hval hW _ _ _ hL _ _;exact contract8 H enc W base args ds gs before hval hW hL
theorem said8:Rows.ShowToolsSaid :=
 OpenClaim.holds_of_cond 4 Tryz.f4 rfl rfl rfl rfl rfl rfl rfl ⟨rfl,rfl,rfl,rfl,rfl⟩ rfl rfl rfl rfl rfl (by kernel_rfl) Tryz.func4 (by kernel_rfl)
  (of_decide_eq_true (by kernel_rfl)) (by unfold Func.isWrapper;first|(rw [if_pos (by decide +kernel)];kernel_rfl)|(rw [if_neg (by decide +kernel)];exact ⟨rfl,rfl⟩))
  (fun os started H enc _ F=>by rw [OpenClaim.pre_eq_preRow];exact lifted8 os started H enc F)
/-- No parameter wants a stand-in; the program's own looks are off: what the card asks. -/
theorem plain8 (f : FuncId) (fn : Func) (hf : Tryz.pinned.checked.prog.funcNamed "cloak/cloaklaw06.ShowTools" = some f) (hfn : Tryz.pinned.checked.prog.funcs[f]? = some fn) :
  true=Tryz.pinned.checked.prog.looks []∧∀ (j:Nat) t,fn.params[j]?=some t→Tryz.pinned.checked.prog.wantsStandIn t=false:=by
 obtain rfl : f = 4 := Option.some.inj ((show Tryz.prog.funcNamed "cloak/cloaklaw06.ShowTools" = some 4 by kernel_rfl).symm.trans hf) |>.symm;obtain rfl:fn=Tryz.f4:=(Option.some.inj (Tryz.func4.symm.trans hfn)).symm;refine ⟨by kernel_rfl,fun j t ht=>?_⟩;rw [Tryz.params4] at ht;have hm:=Array.mem_of_getElem? ht;simp at hm
 rcases hm with rfl|rfl|rfl|rfl|rfl|rfl
 ·exact (show Tryz.prog.wantsStandIn 26=false by kernel_rfl)
 ·exact (show Tryz.prog.wantsStandIn 3=false by kernel_rfl)
 ·exact (show Tryz.prog.wantsStandIn 24=false by kernel_rfl)
 ·exact (show Tryz.prog.wantsStandIn 31=false by kernel_rfl)
 ·exact (show Tryz.prog.wantsStandIn 67=false by kernel_rfl)
 ·exact (show Tryz.prog.wantsStandIn 9=false by kernel_rfl)
/-- ████ THE CARD ████ -/
theorem card8:Rows.ShowToolsCardSaid :=
 Claim7.holds_tied_plain_at .later [] _ _ _ _ said8 (fun _ h=>by cases h) (by kernel_rfl) (fun _ h=>by cases h) showTools_row_tie rfl ⟨rfl,rfl⟩ (by kernel_rfl) rfl plain8 (by kernel_rfl)
end Go.Proofs.YtpcdfepndmconaaGreatDoor
