/- A region in whatever order, with a last part that waits for all the rest: ahead of that part S holds, and is not asked for behind. -/
import Derived.Test.YtpcmamoomaddoaaGreatDoorAcp
import Derived.Deep.RegionHeld3
import Derived.OrdersHeld
namespace Go.Proofs.YtpcmamoomaddoaaGreatDoor
open Go.RowKit
section
variable {P:Program} {ops:Array Oper} {Q:Exit→Act→World→Prop} {md:Region.Mode} {S:World→Prop} {T:List Nat}
/-- none of the last part has come up -/
def Ahead (T:List Nat) (listed:Array Bool):Prop:=∀ t∈T,listed.getD t true=false
def wpAnyT (P:Program) (md:Region.Mode) (ops:Array Oper) (Q:Exit→Act→World→Prop) (S:World→Prop) (T:List Nat):Nat→Array Bool→Act→World→Prop
 | 0,listed,a,w=>Region.ready md ops listed=[]∧Q .normal a w
 | fuel+1,listed,a,w =>
  (Region.ready md ops listed=[]→Q .normal a w) ∧
  ∀ i∈Region.ready md ops listed,wpOp P ops Q i (fun a' w'=>(Ahead T (listed.setIfInBounds i true)→S w')∧wpAnyT P md ops Q S T fuel (listed.setIfInBounds i true) a' w') a w
theorem wpAny_of_T:∀ (fuel:Nat) (listed:Array Bool) (a:Act) (w:World),wpAnyT P md ops Q S T fuel listed a w→wpAny P md ops Q fuel listed a w
 | 0,_,_,_,h=>h
 | fuel+1,_,_,_,h=>⟨h.1,fun i hi=>wpOp_mono (fun a' w' h'=>wpAny_of_T fuel _ a' w' h'.2) (h.2 i hi)⟩
/-- no operation of D can come up ahead of i -/
def waits (md:Region.Mode) (ops:Array Oper) (i:Nat) (D:List Nat):Bool :=
 D.all fun t=>match ops[t]? with
  | some o=>o.after.any fun e=>Region.binds md e&&((e.on==i) || D.contains e.on)
  | none=>false
theorem waits_spec {i:Nat} {D:List Nat} (h:waits md ops i D=true):∀ t∈D,∃ o,ops[t]?=some o∧∃ e∈o.after,Region.binds md e=true∧(e.on=i∨e.on∈D):=fun t ht=>by
 have h1:=List.all_eq_true.1 h t ht
 cases ho:ops[t]? with
 | none=>rw [ho] at h1;simp at h1
 | some o =>
  rw [ho] at h1;simp only [Array.any_eq_true'] at h1;obtain ⟨e,he,h2⟩:=h1;rw [Bool.and_eq_true] at h2;exact ⟨o,rfl,e,he,h2.1,by simpa using h2.2⟩
theorem wpAnyT_first {i:Nat} {oi:Oper} {v:Value} (hi:ops[i]?=some oi) (hsel:∀ (j:Nat) (o:Oper) cs b,ops[j]?=some o→o.op≠.select cs b)
  (hQ:∀ c a w,Q (.panic c) (a.put oi.dst v) w→Q (.panic c) a w) {D:List Nat} (hwt:∀ t∈D,∃ o,ops[t]?=some o∧∃ e∈o.after,Region.binds md e=true∧(e.on=i∨e.on∈D)) (hiD:i∉D) (hTD:∀ t∈T,t∈D) :
  ∀ (fuel:Nat) (listed:Array Bool) (a:Act) (w:World),
   (∀ j oj,ops[j]?=some oj→j≠i→listed.getD j true=false→(∀ e∈oj.after,Region.binds md e=true→e.on≠i)→oi.apart ops oj=true) →
   i∈Region.ready md ops listed→YieldsIf P ops S oi v a→S w→Ahead D listed →
   wpAnyT P md ops Q S T fuel (listed.setIfInBounds i true) (a.put oi.dst v) w→wpAnyT P md ops Q S T (fuel+1) listed a w:=by
 have stay:∀ {listed:Array Bool} {j:Nat},Ahead D listed→j∉D→Ahead D (listed.setIfInBounds j true):=fun {listed j} hA hj t ht=>by
  rw [getD_set_ne true (fun e=>hj (by subst e;exact ht))];exact hA t ht
 intro fuel
 induction fuel with
 | zero =>
  intro listed a w _ hr hy hS hA H;refine ⟨fun h=>(by rw [h] at hr;cases hr),fun j hj=>?_⟩
  by_cases hji:j=i
  ·subst hji;exact hy.wpOp hi hS ⟨fun _=>hS,H⟩
  ·have:=ready_mono hj hji;rw [H.1] at this
   cases this
 | succ fuel ih =>
  intro listed a w hfree hr hy hS hA H;refine ⟨fun h=>(by rw [h] at hr;cases hr),fun j hj=>?_⟩
  by_cases hji:j=i
  ·subst hji;exact hy.wpOp hi hS ⟨fun _=>hS,H⟩
  ·have h1:=H.2 j (ready_mono hj hji);obtain ⟨hjun,oj,hoj,hall⟩:=mem_ready.1 hj
   have hnot:∀ e∈oj.after,Region.binds md e=true→e.on≠i:=fun e he hb heq=>by
    have h1:=hall e he hb;have h0:=(mem_ready.1 hr).1;rw [heq] at h1
    rcases Nat.lt_or_ge i listed.size with h'|h'
    ·simp [h'] at h0 h1;rw [h0] at h1;cases h1
    ·simp [Array.getElem?_eq_none h'] at h1
   have hjT:j∉D:=fun hm=>by
    obtain ⟨o,ho,e,he,hb,heq⟩:=hwt j hm;rw [hoj] at ho;injection ho with ho;subst ho
    rcases heq with heq|heq
    ·exact hnot e he hb heq
    ·have h1:=hall e he hb;have h2:=hA _ heq
     rcases Nat.lt_or_ge e.on listed.size with h'|h'
     ·simp [h'] at h1 h2
      rw [h2] at h1
      cases h1
     ·simp [Array.getElem?_eq_none h'] at h2
   have h2:=wpOp_putIf hoj (hfree j oj hoj hji hjun hnot) (fun cs b=>hsel i oi cs b hi) (fun cs b=>hsel j oj cs b hoj) hQ hy h1
   have hfree':∀ k ok,ops[k]?=some ok→k≠i→(listed.setIfInBounds j true).getD k true=false →
     (∀ e∈ok.after,Region.binds md e=true→e.on≠i)→oi.apart ops ok=true:=fun k ok hk hki hun hno=>by
    refine hfree k ok hk hki ?_ hno
    by_cases hjk:j=k
    ·subst hjk;exact hjun
    ·rw [getD_set_ne true hjk] at hun;exact hun
   have hA1:=stay hA hjT;have hA2:Ahead T ((listed.setIfInBounds i true).setIfInBounds j true):=fun t ht=>stay (stay hA hiD) hjT t (hTD t ht);refine wpOp_mono (fun a' w' h3=>⟨fun _=>h3.2.1 hA2,ih (listed.setIfInBounds j true) a' w' hfree' (ready_mono hr (Ne.symm hji)) h3.1 (h3.2.1 hA2) hA1 ?_⟩) h2;rw [Array.setIfInBounds_comm _ _ hji];exact h3.2.2
theorem takeT (D:List Nat) {i:Nat} {d:Option Tmp} {op:Go.Op} {ty:TypeId} {pos:String} {after:Array Edge} {g:Option (Nat × Bool)}
  {v:Value} {fuel:Nat} {listed:Array Bool} {a:Act} {w:World} (hi:ops[i]?=some ⟨d,op,ty,pos,after,g⟩)
  (hs:Region.noSelect ops=true) (hf:Region.free md ops listed i=true) (hr:(Region.ready md ops listed).contains i=true) (hw:(waits md ops i D&&!D.contains i&&(D.all fun t=>!listed.getD t true)&&T.all D.contains)=true)
  (hQ:∀ c a w,Q (.panic c) (a.put d v) w→Q (.panic c) a w) (hy:YieldsIf P ops S ⟨d,op,ty,pos,after,g⟩ v a) (hS:S w)
  (h:wpAnyT P md ops Q S T fuel (listed.setIfInBounds i true) (a.put d v) w):wpAnyT P md ops Q S T (fuel+1) listed a w:=by
 rw [Bool.and_eq_true,Bool.and_eq_true,Bool.and_eq_true] at hw;obtain ⟨⟨⟨h1,h2⟩,h3⟩,h4⟩:=hw;exact wpAnyT_first hi (Region.noSelect_spec hs) hQ (waits_spec h1) (by simpa using h2) (fun t ht=>by simpa using List.all_eq_true.1 h4 t ht) fuel listed a w (Region.free_spec hi hf) (by simpa using hr) hy hS (fun t ht=>by simpa using List.all_eq_true.1 h3 t ht) h
def AllReadyT (P:Program) (md:Region.Mode) (ops:Array Oper) (Q:Exit→Act→World→Prop) (S:World→Prop) (T:List Nat) (fuel:Nat) (listed:Array Bool) (a:Act) (w:World) (rs:List Nat):Prop :=
 ∀ i∈rs,wpOp P ops Q i (fun a' w'=>(Ahead T (listed.setIfInBounds i true)→S w')∧wpAnyT P md ops Q S T fuel (listed.setIfInBounds i true) a' w') a w
theorem AllReadyT.nil {fuel:Nat} {listed:Array Bool} {a:Act} {w:World}:AllReadyT P md ops Q S T fuel listed a w []:=fun _ h=>by cases h
/-- ahead of the last part -/
theorem AllReadyT.cons {fuel:Nat} {listed:Array Bool} {a:Act} {w:World} {i:Nat} {o:Oper} {rs:List Nat} (ho:ops[i]?=some o)
  (h:∀ K':Act→World→Prop,Shut (∀ a w,S w→(S w→wpAnyT P md ops Q S T fuel (listed.setIfInBounds i true) a w)→K' a w)→if Region.wanted o (yielded ops a.tmps)=true then Oper.wp P o a w K' Q else K' (a.put o.dst undef) w)
  (hs:AllReadyT P md ops Q S T fuel listed a w rs):AllReadyT P md ops Q S T fuel listed a w (i::rs):=fun j hj=>by
 rcases List.mem_cons.1 hj with rfl|hj
 ·exact wpOp_step ho (fun K' hK=>h K' (fun a w hS hW=>hK a w ⟨fun _=>hS,hW hS⟩))
 ·exact hs j hj
/-- in the last part -/
theorem AllReadyT.last {fuel:Nat} {listed:Array Bool} {a:Act} {w:World} {i:Nat} {o:Oper} (ho:ops[i]?=some o) (hT:(T.any fun t=>(listed.setIfInBounds i true).getD t true)=true)
  (h:∀ K':Act→World→Prop,Shut (∀ a w,wpAnyT P md ops Q S T fuel (listed.setIfInBounds i true) a w→K' a w)→if Region.wanted o (yielded ops a.tmps)=true then Oper.wp P o a w K' Q else K' (a.put o.dst undef) w):AllReadyT P md ops Q S T fuel listed a w [i]:=fun j hj=>by
 rw [List.mem_singleton] at hj;subst hj;refine wpOp_step ho (fun K' hK=>h K' (fun a w hW=>hK a w ⟨fun hA=>?_,hW⟩));obtain ⟨t,ht,h1⟩:=List.any_eq_true.1 hT;rw [hA t ht] at h1
 cases h1
theorem wpAnyT_ready {rs:List Nat} {fuel:Nat} {listed:Array Bool} {a:Act} {w:World} (hr:Region.ready md ops listed=rs) (hne:rs≠[])
  (h:AllReadyT P md ops Q S T fuel listed a w rs):wpAnyT P md ops Q S T (fuel+1) listed a w :=
 ⟨fun h0=>absurd (hr▸h0) hne,hr▸h⟩
theorem wpAnyT_done {listed:Array Bool} {a:Act} {w:World} (hr:Region.ready md ops listed=[]) (h:Q .normal a w) :
  ∀ fuel,wpAnyT P md ops Q S T fuel listed a w
 | 0=>⟨hr,h⟩
 | _+1=>⟨fun _=>h,by rw [hr];simp⟩
theorem wp_region_T {id:Nat} {a:Act} {w:World} (T:List Nat) (S:World→Prop) (hm:P.follows .mixedOrders=true) (hS:S w.drew)
  (h:S w.drew→wpAnyT P .any ops Q S T ops.size (Array.replicate ops.size false) a w.drew):(Code.region id ops true).wp P Q a w :=
 wp_region_any hm (wpAny_of_T _ _ _ _ (h hS))
end
end Go.Proofs.YtpcmamoomaddoaaGreatDoor
