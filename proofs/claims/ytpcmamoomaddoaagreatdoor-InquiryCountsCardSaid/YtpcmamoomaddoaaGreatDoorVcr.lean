/- crowd.ValidCrowd. -/
import Derived.Test.YtpcmamoomaddoaaGreatDoorIdq
namespace Go.Proofs.YtpcmamoomaddoaaGreatDoor
open Go.RowKit
def CrR (w:World) (cs:List Value) (c:Crw):Prop:=∃ vq vm vu,cs=[vq,vm,vu]∧RowOf PdR 5 w vq c.qs∧RowOf MbR 3 w vm c.ms∧RowOf SnR 4 w vu c.us
set_option maxRecDepth 100000 in
set_option maxHeartbeats 4000000 in
theorem validCrowd_any {B:Nat} {w:World} {cs:List Value} {c:Crw} (h:CrR w cs c) (hsh:∀ p∈c.qs,shortB p=true) (hms:∀ m∈c.ms,(∀ b∈m.binds,b.1.length≤10000000)∧m.binds.length≤100000) (hlq:c.qs.length≤1000000) (hlm:c.ms.length≤1000000) (hlu:c.us.length≤1000000) (hE:EnvB B w) :
  Calls Tryz.prog 22 #[.agg cs.toArray] w fun e w'=>e=.returned (.bool (crowdB c))∧Kept [] w w':=by
 obtain ⟨vq,vm,vu,rfl,hq,hm,hu⟩:=h;obtain ⟨R,hR⟩:∃ R,crowdB c=R:=⟨_,rfl⟩;rw [hR]
 unfold crowdB at hR
 obtain ⟨qs,ms,us⟩:=c
 dsimp only at hR hq hm hu hsh hms hlq hlm hlu
 obtain ⟨qa,qc,rfl,_,_⟩:=RowOf.form hq;obtain ⟨ma,mc,rfl,_,_⟩:=RowOf.form hm;obtain ⟨ua,uc,rfl,_,_⟩:=RowOf.form hu;obtain ⟨W,hW⟩:∃ W,w.alloc (.cells #[.slice qa qs.length qc,.slice ma ms.length mc,.slice ua us.length uc] 67)=W:=⟨_,rfl⟩;have kW:Kept [] w W:=hW▸(Kept.refl _ _).alloc _;have hB:Blk W w.heap.size 67 #[.slice qa qs.length qc,.slice ma ms.length mc,.slice ua us.length uc]:=hW▸Blk.new _ _ _;have C1:=vqK_any (fun p=>!validB p) (RowOf.kept hq (fun _ _ h=>PdR.kept kW h) kW) (fun a ha cs w' k h=>v1_any h (hsh a ha) (hE.kept0 (kW.trans k)));have C2:=fun (w':World) (k:Kept [] W w')=>vmK_any (fun m=>!memB m) (RowOf.kept hm (fun _ _ h=>MbR.kept h (kW.trans k)) (kW.trans k)) (fun a ha cs w2 k2 h=>v2_any h (hms a ha).1 (hms a ha).2 (hE.kept0 ((kW.trans k).trans k2)));have C3:=fun (w':World) (k:Kept [] W w')=>vuK_any (cb:=w.heap.size) (fun x=>!useB qs.length ms.length x) (RowOf.kept (w':=w') hu (fun _ _ h=>h) (kW.trans k)) (fun a ha cs w2 k2 h=>v3_any (hB.kept (k.trans k2) (by simp)) h hlq hlm);obtain ⟨b1,hb1⟩:∃ b,(qs.any fun p=>!validB p)=b:=⟨_,rfl⟩;obtain ⟨b2,hb2⟩:∃ b,(ms.any fun m=>!memB m)=b:=⟨_,rfl⟩;obtain ⟨b3,hb3⟩:∃ b,(us.any fun x=>!useB qs.length ms.length x)=b:=⟨_,rfl⟩;rw [hb1] at C1 hR;rw [hb2] at C2 hR;rw [hb3] at C3 hR;obtain ⟨nq,hnq⟩:∃ n,qs.length=n:=⟨_,rfl⟩;obtain ⟨nm,hnm⟩:∃ n,ms.length=n:=⟨_,rfl⟩;obtain ⟨nu,hnu⟩:∃ n,us.length=n:=⟨_,rfl⟩;rw [hnq] at C1 hR hB hW ⊢;rw [hnm] at C2 hR hB hW ⊢;rw [hnu] at C3 hR hB hW ⊢;have x0:W.cell? ⟨w.heap.size,0,none⟩=some (.slice qa nq qc):=hB.cell 0
 have x1:W.cell? ⟨w.heap.size,1,none⟩=some (.slice ma nm mc):=hB.cell 1;have x2:W.cell? ⟨w.heap.size,2,none⟩=some (.slice ua nu uc):=hB.cell 2;have C1:=Lib.hid C1;have C2:=Lib.hid C2;have C3:=Lib.hid C3;have HB:=Lib.hid hB;have HK:=Lib.hid kW;have HW:=Lib.hid hW;have HR:=Lib.hid hR;clear hW kW hB hb1 hb2 hb3 hnq hnm hnu hq hm hu hsh hms hE hlq hlm hlu hR
 show Calls _ _ #[.agg #[.slice qa nq qc,.slice ma nm mc,.slice ua nu uc]] _ _
 by_cases n1:nq≤128
 ·by_cases n2:nm≤64
  ·by_cases n3:nu≤4096
   ·have n1':¬ (128:Int) < (nq:Int):=by omega
    have n2':¬ (64:Int) < (nm:Int):=by omega
    have n3':¬ (4096:Int) < (nu:Int):=by omega
    have hR:=HR.out;rw [decide_eq_true n1,decide_eq_true n2,decide_eq_true n3] at hR;have HR2:=Lib.hid hR;clear hR HR
    cases b1 <;> cases b2 <;> (
     go_enter Tryz.func22,Tryz.ntmps22
     go_upto_region 1 with (fail);have hW':=HW.out;rw [hW'];clear hW'
     go_wp2_with (first
      | (go_at_call 52;(with_reducible refine C1.out.mono ?_);rintro e w5 ⟨rfl,k5⟩;have hb5:=HB.out.kept k5 (by simp);have d1:w5.cell? ⟨w.heap.size,1,none⟩=some (.slice ma nm mc):=hb5.cell 1;have d2:w5.cell? ⟨w.heap.size,2,none⟩=some (.slice ua nu uc):=hb5.cell 2;have K5:=Lib.hid k5;clear hb5 k5)
      | (go_at_call 54;(with_reducible refine (C2.out _ K5.out).mono ?_);rintro e w6 ⟨rfl,k6⟩;have K6:=Lib.hid (K5.out.trans k6);have e2:w6.cell? ⟨w.heap.size,2,none⟩=some (.slice ua nu uc):=Kept.cellOf d2 _ k6;clear k6)
      | (go_at_call 57;(with_reducible refine (C3.out _ K6.out).mono ?_);rintro e w7 ⟨rfl,k7⟩;have K7:=Lib.hid (K6.out.trans k7);clear k7))
     go_ret
     first
      | exact ⟨by rw [←HR2.out];rfl,HK.out.trans K7.out⟩
      | exact ⟨by rw [←HR2.out];rfl,HK.out.trans K6.out⟩
      | exact ⟨by rw [←HR2.out];rfl,HK.out.trans K5.out⟩)
   ·have n1':¬ (128:Int) < (nq:Int):=by omega
    have n2':¬ (64:Int) < (nm:Int):=by omega
    have n3':(4096:Int) < (nu:Int):=by omega
    have hR:=HR.out;rw [decide_eq_false n3] at hR;have HR2:Hid (false=R):=Lib.hid (by rw [←hR];simp);clear hR HR
    go_enter Tryz.func22,Tryz.ntmps22
    go_upto_region 1 with (fail);have hW':=HW.out;rw [hW'];clear hW';go_wp2_with fail;go_ret;exact ⟨by rw [←HR2.out];rfl,HK.out⟩
  ·have n1':¬ (128:Int) < (nq:Int):=by omega
   have n2':(64:Int) < (nm:Int):=by omega
   have hR:=HR.out;rw [decide_eq_false n2] at hR;have HR2:Hid (false=R):=Lib.hid (by rw [←hR];simp);clear hR HR
   go_enter Tryz.func22,Tryz.ntmps22
   go_upto_region 1 with (fail);have hW':=HW.out;rw [hW'];clear hW';go_wp2_with fail;go_ret;exact ⟨by rw [←HR2.out];rfl,HK.out⟩
 ·have n1':(128:Int) < (nq:Int):=by omega
  have hR:=HR.out;rw [decide_eq_false n1] at hR;have HR2:Hid (false=R):=Lib.hid (by rw [←hR];simp);clear hR HR
  go_enter Tryz.func22,Tryz.ntmps22
  go_upto_region 1 with (fail);have hW':=HW.out;rw [hW'];clear hW';go_wp2_with fail;go_ret;exact ⟨by rw [←HR2.out];rfl,HK.out⟩
end Go.Proofs.YtpcmamoomaddoaaGreatDoor
