/- GateTimes: for all inputs Bounds, Conflict and Impossible return what the reference returns: the row and its card; no condition. (Shortened by program to keep within the size of a claim.) -/
import Derived.Test.YtcidfldeiklcjaaGreatDoorOpe
import Derived.Test.YtcidfldeiklcjaaGreatDoorCards
import Derived.Test.YtcidfldeiklcjaaGreatDoorTie
import Derived.Deep.DeepHandedRow
import Derived.Deep.DeepWitnessRowRef
import Derived.ShutString
set_option maxRecDepth 100000
set_option maxHeartbeats 32000000
namespace Go.Proofs.YtcidfldeiklcjaaGreatDoor
open Go.ChangeShapes Go.WideShapes Go.ChangeAt Go.RowKit Tm
theorem ownt:ownKnob Tryz.prog.godebug=none:=by kernel_rfl
theorem fy:laidOutB Tryz.prog=true:=by kernel_rfl
theorem uA(H:Type)(enc:TypeId × Value->H)(W:World)(base:Nat)(args:Array Value)(ds gs:List (DataW H))(before:List MemPlace)
  (hval:∀(j:Nat) t v,Tryz.f3.params[j]?=some t->args[j]?=some v->Value.okWide Tryz.prog W .any base t v)
  (hW:DataW.Whole enc Tryz.prog Tryz.f3.params.toList Rows.gateTimesSpec.vars false W args.toList ds gs before) (hL:laidMetH Tryz.prog Rows.gateTimesRow.laid W) :
  Calls Tryz.prog 3 args W fun e W'=>∃v,e=.returned v/\Rows.gateTimesSpec.post enc Tryz.prog Tryz.f3 false true false false W args v W':=by
 have hW':=hW;obtain⟨p,q,u,hV,rfl,a1,a0⟩:=hW;have N:DataW.TrodAll enc Tryz.prog W 0 (fun _=>true) true Tryz.f3.params.toList args.toList ds p:=u;rw[Tryz.params3]at N hval;obtain⟨A,U,d0,a6,p0,q0,G,rfl,rfl,L,V⟩:=trodAll_cons N;obtain⟨z,T,d1,a5,p1,q1,rfl,rfl,rfl,k,r1⟩:=trodAll_cons V;obtain⟨y,R,d2,a4,Z,q2,rfl,rfl,rfl,i,r2⟩:=trodAll_cons r1;obtain⟨M,Q,d3,a3,Y,q3,rfl,rfl,rfl,J,r3⟩:=trodAll_cons r2;obtain⟨w,P,d4,a2,X,q4,rfl,rfl,rfl,I,r4⟩:=trodAll_cons r3;obtain⟨rfl,rfl,rfl⟩:=trodAll_nil r4
 obtain rfl:args=#[A,z,y,M,w]:=by cases args;simp_all
 obtain⟨rfl,rfl⟩:=trodVars_none hV;obtain⟨s,hs⟩:=vw (hval 0 _ A rfl rfl) L
 obtain⟨O,hk,ik⟩:∃l:List Int,Row W 1 z l.length (ints l)/\∀x∈l,Wire.I64 x:=by
  obtain⟨a,m,c,rfl⟩:=okWide_slice Tryz.underlying24 (hval 1 _ z rfl rfl);obtain⟨d,r⟩:=k;obtain⟨l,k,i,_⟩:=ki (n:=d) (by simpa [Value.cells]using r);exact⟨l,k,i⟩
 obtain⟨l,hl,il⟩:∃l:List Ent,aU W y l/\∀e∈l,EntJ e:=by
  obtain⟨a,m,c,rfl⟩:=okWide_slice Tryz.underlying27 (hval 2 _ y rfl rfl);obtain⟨d,r⟩:=i;obtain⟨l,k,i,_⟩:=yG (n:=d) (by simpa [Value.cells]using r);exact⟨l,k,i⟩
 obtain⟨dr,rfl,_,_,ir⟩:=open_int Tryz.underlying3 (hval 3 _ M rfl rfl) J
 obtain⟨b,hb,ib⟩:∃l:List Int,Row W 1 w l.length (ints l)/\∀x∈l,Wire.I64 x:=by
  obtain⟨a,m,c,rfl⟩:=okWide_slice Tryz.underlying24 (hval 4 _ w rfl rfl);obtain⟨d,r⟩:=I;obtain⟨l,k,i,_⟩:=ki (n:=d) (by simpa [Value.cells]using r);exact⟨l,k,i⟩
 have F:∀x∈p0,x.block < W.heap.size:=by obtain⟨m,g⟩:=L;exact DataW.trod_lt m _ _ _ g
 have E:∀x∈p1,x.block < W.heap.size:=by obtain⟨m,g⟩:=k;exact DataW.trod_lt m _ _ _ g
 have D:∀x∈Z,x.block < W.heap.size:=by obtain⟨m,g⟩:=i;exact DataW.trod_lt m _ _ _ g
 have C:∀x∈Y,x.block < W.heap.size:=by obtain⟨m,g⟩:=J;exact DataW.trod_lt m _ _ _ g
 have B:∀x∈X,x.block < W.heap.size:=by obtain⟨m,g⟩:=I;exact DataW.trod_lt m _ _ _ g
 clear u;have o:=law08t_any A z y w s O l dr b W hs hk hl hb il ik ib (oP hL);refine o.mono fun e W' ⟨he,hk'⟩=>?_;subst he;have f:=hk'.below;exact⟨_,rfl,_,_,_,[],_,[],hW',trodAll_mk1 (shut_bool Tryz.underlying4 _),(trodAll_cons_mk (Below.trod fy (by kernel_rfl) (of_decide_eq_true (by kernel_rfl)) L f F) (trodAll_cons_mk (Below.trod fy (by kernel_rfl) (of_decide_eq_true (by kernel_rfl)) k f E) (trodAll_cons_mk (Below.trod fy (by kernel_rfl) (of_decide_eq_true (by kernel_rfl)) i f D) (trodAll_cons_mk (Below.trod fy (by kernel_rfl) (of_decide_eq_true (by kernel_rfl)) J f C) (trodAll_cons_mk (Below.trod fy (by kernel_rfl) (of_decide_eq_true (by kernel_rfl)) I f B) trodAll_mk0))))),rfl,f.frame _,fun h=>by cases h⟩
def xC:Array Value:=#[.agg #[.int .i64 0,.int .i64 0,.int .i64 0,.slice none 0 0,.int .i64 0],.slice none 0 0,.slice none 0 0,.int .i64 0,.slice none 0 0]
theorem zz(os:Os){H:Type}(enc:TypeId × Value->H):∃places,DataW.whole enc Tryz.prog ((laidWorld os).forCall (fun _ _=>0) ⟨#[],xC,[]⟩).memory Tryz.f3.params.toList Rows.gateTimesSpec.vars false xC.toList 8 =
  some ([.agg [.agg [.lit (.int .i64 0),.lit (.int .i64 0),.lit (.int .i64 0)],.nil,.lit (.int .i64 0)],.nil,.nil,.lit (.int .i64 0),.nil],[],places) := ⟨[],by kernel_rfl⟩
theorem yx(os:Os)(started:os.Started)(H:Type)(enc:TypeId × Value->H)(F:Stop.Interp) :
  ReturnsInHanded {} Tryz.checked os 3 .any ((OpenSpec.ofChange Rows.gateTimesSpec).preRow enc Tryz.prog Tryz.f3 Rows.gateTimesRow.domain false Rows.gateTimesRow.laid) (((OpenSpec.ofChange Rows.gateTimesSpec).at F).post enc Tryz.prog Tryz.f3 false true false false):=by
 obtain⟨e,f⟩:=zz os enc
 refine returnsInHanded_of_row (C:=Tryz.checked) (s:=OpenSpec.ofChange Rows.gateTimesSpec) ownt started (by kernel_rfl) Tryz.func3
  (witness_row_atRef (enc:=enc) (C:=Tryz.checked) false (laidWorld os) xC rfl (by kernel_rfl) (by kernel_rfl) (by kernel_rfl)
   (OpenSpec.preRow_of_cond 8 f (by kernel_rfl) (fun k hk=>by cases hk) (by kernel_rfl) (wz os _))) ?_
 intro W c d j i a b g _ _ _ h _ _;exact uA H enc W c d j i a b g h
theorem saidt:Rows.GateTimesSaid :=
 OpenClaim.holds_of_cond 3 Tryz.f3 rfl rfl rfl rfl rfl rfl rfl ⟨rfl,rfl,rfl,rfl,rfl⟩ rfl rfl rfl rfl rfl (by kernel_rfl) Tryz.func3 (by kernel_rfl)
  (of_decide_eq_true (by kernel_rfl)) (by unfold Func.isWrapper;first|(rw[if_pos (by decide +kernel)];kernel_rfl)|(rw[if_neg (by decide +kernel)];exact⟨rfl,rfl⟩))
  (fun os started H enc _ F=>by rw[OpenClaim.pre_eq_preRow];exact yx os started H enc F)
theorem zF (f : FuncId) (fn : Func) (hf : Tryz.pinned.checked.prog.funcNamed "cloak/cloaklaw08.GateTimes" = some f) (hfn : Tryz.pinned.checked.prog.funcs[f]? = some fn) :
  true=Tryz.pinned.checked.prog.looks []/\∀(j:Nat) t,fn.params[j]?=some t->Tryz.pinned.checked.prog.wantsStandIn t=false:=by
 obtain rfl : f = 3 := Option.some.inj ((show Tryz.prog.funcNamed "cloak/cloaklaw08.GateTimes" = some 3 by kernel_rfl).symm.trans hf) |>.symm;obtain rfl:fn=Tryz.f3:=(Option.some.inj (Tryz.func3.symm.trans hfn)).symm;refine ⟨by kernel_rfl,fun j t ht=>?_⟩;rw [Tryz.params3] at ht;have a:=Array.mem_of_getElem? ht;simp at a
 rcases a with rfl|rfl|rfl|rfl|rfl
 ·exact(show Tryz.prog.wantsStandIn 26=false by kernel_rfl)
 ·exact(show Tryz.prog.wantsStandIn 24=false by kernel_rfl)
 ·exact(show Tryz.prog.wantsStandIn 27=false by kernel_rfl)
 ·exact(show Tryz.prog.wantsStandIn 3=false by kernel_rfl)
 ·exact(show Tryz.prog.wantsStandIn 24=false by kernel_rfl)
theorem cardt:Rows.GateTimesCardSaid :=
 Claim7.holds_tied_plain_at .later [] _ _ _ _ saidt (fun _ h=>by cases h) (by kernel_rfl) (fun _ h=>by cases h) gateTimes_row_tie rfl ⟨rfl,rfl⟩ (by kernel_rfl) rfl zF (by kernel_rfl)
end Go.Proofs.YtcidfldeiklcjaaGreatDoor
