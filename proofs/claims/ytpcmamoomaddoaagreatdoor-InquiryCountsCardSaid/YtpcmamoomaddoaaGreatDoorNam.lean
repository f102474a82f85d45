/- ask.Names. -/
import Derived.Test.YtpcmamoomaddoaaGreatDoorSiz
import Derived.Test.YtpcmamoomaddoaaGreatDoorVps
/- JOINED: Fmq Fmr Vpd Nam -/
/- validAtom, formed, ValidPred. -/
namespace Go.Proofs.YtpcmamoomaddoaaGreatDoor
open Go.RowKit
mutual
/-- no name is long -/
def shortB:Pd→Bool
 | .node _ l r _ ks=>decide (l.length≤1000)&&decide (r.length≤1000)&&shortL ks
def shortL:List Pd→Bool
 | []=>true
 | p::l=>shortB p&&shortL l
end
theorem shortL_iff:∀ l:List Pd,shortL l=true↔∀ p∈l,shortB p=true
 | []=>by simp [shortL]
 | p::l=>by simp [shortL,shortL_iff l]
theorem free_len {s:Bs} (h:freeB s=true):s.length≤20:=by
 unfold freeB nameB at h
 simp only [Bool.and_eq_true,decide_eq_true_eq] at h;exact h.1.1.2
theorem validName_len {s:Bs} (h:validNameB s=true):s.length≤41:=by
 unfold validNameB at h
 split at h
 ·cases h
 ·next a b hc =>
  rw [Bool.and_eq_true] at h;have h1:=free_len h.1;have h2:=free_len h.2
  unfold cutB at hc
  split at hc
  ·injection hc with hc;injection hc with e1 e2;rw [←e2,List.length_drop] at h2;rw [←e1] at h1;omega
  ·cases hc
theorem named_len {s:Bs} (h:namedB s=true):s.length≤41:=by
 unfold namedB at h
 rw [Bool.or_eq_true] at h
 rcases h with h|h
 ·rw [List.isEmpty_iff] at h;subst h;simp
 ·exact validName_len h
mutual
theorem formed_short:∀ p:Pd,formedB p=true→shortB p=true
 | .node k l r c ks=>by
  intro h;rw [formedB] at h;rw [shortB]
  split at h
  ·simp only [Bool.and_eq_true,List.isEmpty_iff] at h;obtain ⟨⟨⟨rfl,h1⟩,h2⟩,_⟩:=h;have:=named_len h1;have:=named_len h2
   simp [shortL]
   omega
  ·split at h
   ·simp only [Bool.and_eq_true,List.isEmpty_iff] at h;obtain ⟨⟨⟨_,rfl⟩,rfl⟩,h⟩:=h
    simp [formedL_short ks h]
   ·split at h
    ·simp only [Bool.and_eq_true,List.isEmpty_iff] at h;obtain ⟨⟨⟨_,rfl⟩,rfl⟩,h⟩:=h
     simp [formedL_short ks h]
    ·cases h
theorem formedL_short:∀ l:List Pd,formedL l=true→shortL l=true
 | []=>fun _=>rfl
 | p::l=>by
  intro h;rw [formedL,Bool.and_eq_true] at h;rw [shortL,formed_short p h.1,formedL_short l h.2]
  rfl
end
set_option maxRecDepth 100000 in
set_option maxHeartbeats 4000000 in
theorem validAtom_any {B:Nat} (l r:Bs) (cc:Int) (ka:Option Addr) (kn kc:Nat) (w:World) (hkn:kn≤9223372036854775807) (hl:l.length≤1000) (hr:r.length≤1000) (hE:EnvB B w) :
  Calls Tryz.prog 123 #[.agg #[.int .i64 0,.string ⟨l.toArray⟩,.string ⟨r.toArray⟩,.int .i64 cc,.slice ka kn kc]] w fun e w'=>e=.returned (.bool (decide (kn=0)&&namedB l&&namedB r&&inRange cc))∧Kept [] w w':=by
 obtain ⟨W,hW⟩:∃ W,w.alloc (.cells #[.int .i64 0,.string ⟨l.toArray⟩,.string ⟨r.toArray⟩,.int .i64 cc,.slice ka kn kc] 46)=W:=⟨_,rfl⟩;have hkW:Kept [] w W:=hW▸(Kept.refl _ _).alloc _;have hB:Blk W w.heap.size 46 #[.int .i64 0,.string ⟨l.toArray⟩,.string ⟨r.toArray⟩,.int .i64 cc,.slice ka kn kc]:=hW▸Blk.new _ _ _;have c0:W.cell? ⟨w.heap.size,0,none⟩=some (.int .i64 0):=hB.cell 0;have c1:W.cell? ⟨w.heap.size,1,none⟩=some (.string ⟨l.toArray⟩):=hB.cell 1;have c2:W.cell? ⟨w.heap.size,2,none⟩=some (.string ⟨r.toArray⟩):=hB.cell 2;have c3:W.cell? ⟨w.heap.size,3,none⟩=some (.int .i64 cc):=hB.cell 3;have c4:W.cell? ⟨w.heap.size,4,none⟩=some (.slice ka kn kc):=hB.cell 4;have hcl:∀ (s:Bs),s.length≤1000→∀ w',Kept [] W w'→Calls Tryz.prog 161 #[.string ⟨s.toArray⟩] w' fun e w2=>e=.returned (.bool (namedB s))∧Kept [] w' w2:=fun s hs w' k=>named_any s w' (by omega) (hE.kept0 (hkW.trans k));obtain ⟨bl,hbl⟩:∃ b,namedB l=b:=⟨_,rfl⟩;obtain ⟨br,hbr⟩:∃ b,namedB r=b:=⟨_,rfl⟩;have HL:=Lib.hid (hcl l hl);have HR:=Lib.hid (hcl r hr);have HB:=Lib.hid hB;have HK:=Lib.hid hkW;have HW:=Lib.hid hW;rw [hbl] at HL ⊢;rw [hbr] at HR ⊢;clear hW hkW hB hcl hE hbl hbr hl hr
 by_cases hn0:kn=0
 ·subst hn0;simp only [decide_true,Bool.true_and]
  cases bl
  ·simp only [Bool.false_and]
   go_enter Tryz.func123,Tryz.ntmps123
   go_upto_region 1 with (fail);have hW':=HW.out;rw [hW'];clear hW' HW;go_wp2_with (first|(go_at_call 161;(with_reducible refine (HL.out W (Kept.refl _ _)).mono ?_);(rintro e w5 ⟨rfl,k5⟩;have hb5:=HB.out.kept k5 (by simp);have d0:w5.cell? ⟨w.heap.size,0,none⟩=some (.int .i64 0):=hb5.cell 0;have d1:w5.cell? ⟨w.heap.size,1,none⟩=some (.string ⟨l.toArray⟩):=hb5.cell 1;have d2:w5.cell? ⟨w.heap.size,2,none⟩=some (.string ⟨r.toArray⟩):=hb5.cell 2;have d3:w5.cell? ⟨w.heap.size,3,none⟩=some (.int .i64 cc):=hb5.cell 3;have d4:w5.cell? ⟨w.heap.size,4,none⟩=some (.slice ka 0 kc):=hb5.cell 4;have K5:=Lib.hid k5;clear k5))|(go_at_call 161;refine (HR.out w5 K5.out).mono ?_;rintro e w6 ⟨rfl,k6⟩;have hb6:=(HB.out.kept K5.out (by simp)).kept k6 (by simp);have e0:w6.cell? ⟨w.heap.size,0,none⟩=some (.int .i64 0):=hb6.cell 0;have e1:w6.cell? ⟨w.heap.size,1,none⟩=some (.string ⟨l.toArray⟩):=hb6.cell 1;have e2:w6.cell? ⟨w.heap.size,2,none⟩=some (.string ⟨r.toArray⟩):=hb6.cell 2;have e3:w6.cell? ⟨w.heap.size,3,none⟩=some (.int .i64 cc):=hb6.cell 3;have e4:w6.cell? ⟨w.heap.size,4,none⟩=some (.slice ka 0 kc):=hb6.cell 4;have K6:=Lib.hid (K5.out.trans k6);clear k6));go_ret;exact ⟨rfl,HK.out.trans K5.out⟩
  ·cases br
   ·simp only [Bool.false_and,Bool.and_false]
    go_enter Tryz.func123,Tryz.ntmps123
    go_upto_region 1 with (fail);have hW':=HW.out;rw [hW'];clear hW' HW;go_wp2_with (first|(go_at_call 161;(with_reducible refine (HL.out W (Kept.refl _ _)).mono ?_);(rintro e w5 ⟨rfl,k5⟩;have hb5:=HB.out.kept k5 (by simp);have d0:w5.cell? ⟨w.heap.size,0,none⟩=some (.int .i64 0):=hb5.cell 0;have d1:w5.cell? ⟨w.heap.size,1,none⟩=some (.string ⟨l.toArray⟩):=hb5.cell 1;have d2:w5.cell? ⟨w.heap.size,2,none⟩=some (.string ⟨r.toArray⟩):=hb5.cell 2;have d3:w5.cell? ⟨w.heap.size,3,none⟩=some (.int .i64 cc):=hb5.cell 3;have d4:w5.cell? ⟨w.heap.size,4,none⟩=some (.slice ka 0 kc):=hb5.cell 4;have K5:=Lib.hid k5;clear k5))|(go_at_call 161;refine (HR.out w5 K5.out).mono ?_;rintro e w6 ⟨rfl,k6⟩;have hb6:=(HB.out.kept K5.out (by simp)).kept k6 (by simp);have e0:w6.cell? ⟨w.heap.size,0,none⟩=some (.int .i64 0):=hb6.cell 0;have e1:w6.cell? ⟨w.heap.size,1,none⟩=some (.string ⟨l.toArray⟩):=hb6.cell 1;have e2:w6.cell? ⟨w.heap.size,2,none⟩=some (.string ⟨r.toArray⟩):=hb6.cell 2;have e3:w6.cell? ⟨w.heap.size,3,none⟩=some (.int .i64 cc):=hb6.cell 3;have e4:w6.cell? ⟨w.heap.size,4,none⟩=some (.slice ka 0 kc):=hb6.cell 4;have K6:=Lib.hid (K5.out.trans k6);clear k6));go_ret;exact ⟨rfl,HK.out.trans K6.out⟩
   ·simp only [Bool.true_and]
    unfold inRange
    by_cases h1:-1099511627776≤cc
    ·by_cases h2:cc < 1099511627776
     ·rw [decide_eq_true h1,decide_eq_true h2]
      go_enter Tryz.func123,Tryz.ntmps123
      go_upto_region 1 with (fail);have hW':=HW.out;rw [hW'];clear hW' HW;go_wp2_with (first|(go_at_call 161;(with_reducible refine (HL.out W (Kept.refl _ _)).mono ?_);(rintro e w5 ⟨rfl,k5⟩;have hb5:=HB.out.kept k5 (by simp);have d0:w5.cell? ⟨w.heap.size,0,none⟩=some (.int .i64 0):=hb5.cell 0;have d1:w5.cell? ⟨w.heap.size,1,none⟩=some (.string ⟨l.toArray⟩):=hb5.cell 1;have d2:w5.cell? ⟨w.heap.size,2,none⟩=some (.string ⟨r.toArray⟩):=hb5.cell 2;have d3:w5.cell? ⟨w.heap.size,3,none⟩=some (.int .i64 cc):=hb5.cell 3;have d4:w5.cell? ⟨w.heap.size,4,none⟩=some (.slice ka 0 kc):=hb5.cell 4;have K5:=Lib.hid k5;clear k5))|(go_at_call 161;refine (HR.out w5 K5.out).mono ?_;rintro e w6 ⟨rfl,k6⟩;have hb6:=(HB.out.kept K5.out (by simp)).kept k6 (by simp);have e0:w6.cell? ⟨w.heap.size,0,none⟩=some (.int .i64 0):=hb6.cell 0;have e1:w6.cell? ⟨w.heap.size,1,none⟩=some (.string ⟨l.toArray⟩):=hb6.cell 1;have e2:w6.cell? ⟨w.heap.size,2,none⟩=some (.string ⟨r.toArray⟩):=hb6.cell 2;have e3:w6.cell? ⟨w.heap.size,3,none⟩=some (.int .i64 cc):=hb6.cell 3;have e4:w6.cell? ⟨w.heap.size,4,none⟩=some (.slice ka 0 kc):=hb6.cell 4;have K6:=Lib.hid (K5.out.trans k6);clear k6));go_ret;exact ⟨rfl,HK.out.trans K6.out⟩
     ·have h2':1099511627776≤cc:=by omega
      rw [decide_eq_true h1,decide_eq_false h2]
      go_enter Tryz.func123,Tryz.ntmps123
      go_upto_region 1 with (fail);have hW':=HW.out;rw [hW'];clear hW' HW;go_wp2_with (first|(go_at_call 161;(with_reducible refine (HL.out W (Kept.refl _ _)).mono ?_);(rintro e w5 ⟨rfl,k5⟩;have hb5:=HB.out.kept k5 (by simp);have d0:w5.cell? ⟨w.heap.size,0,none⟩=some (.int .i64 0):=hb5.cell 0;have d1:w5.cell? ⟨w.heap.size,1,none⟩=some (.string ⟨l.toArray⟩):=hb5.cell 1;have d2:w5.cell? ⟨w.heap.size,2,none⟩=some (.string ⟨r.toArray⟩):=hb5.cell 2;have d3:w5.cell? ⟨w.heap.size,3,none⟩=some (.int .i64 cc):=hb5.cell 3;have d4:w5.cell? ⟨w.heap.size,4,none⟩=some (.slice ka 0 kc):=hb5.cell 4;have K5:=Lib.hid k5;clear k5))|(go_at_call 161;refine (HR.out w5 K5.out).mono ?_;rintro e w6 ⟨rfl,k6⟩;have hb6:=(HB.out.kept K5.out (by simp)).kept k6 (by simp);have e0:w6.cell? ⟨w.heap.size,0,none⟩=some (.int .i64 0):=hb6.cell 0;have e1:w6.cell? ⟨w.heap.size,1,none⟩=some (.string ⟨l.toArray⟩):=hb6.cell 1;have e2:w6.cell? ⟨w.heap.size,2,none⟩=some (.string ⟨r.toArray⟩):=hb6.cell 2;have e3:w6.cell? ⟨w.heap.size,3,none⟩=some (.int .i64 cc):=hb6.cell 3;have e4:w6.cell? ⟨w.heap.size,4,none⟩=some (.slice ka 0 kc):=hb6.cell 4;have K6:=Lib.hid (K5.out.trans k6);clear k6));go_ret;exact ⟨by simp [h2'],HK.out.trans K6.out⟩
    ·have h1':cc < -1099511627776:=by omega
     rw [decide_eq_false h1];simp only [Bool.false_and]
     go_enter Tryz.func123,Tryz.ntmps123
     go_upto_region 1 with (fail);have hW':=HW.out;rw [hW'];clear hW' HW;go_wp2_with (first|(go_at_call 161;(with_reducible refine (HL.out W (Kept.refl _ _)).mono ?_);(rintro e w5 ⟨rfl,k5⟩;have hb5:=HB.out.kept k5 (by simp);have d0:w5.cell? ⟨w.heap.size,0,none⟩=some (.int .i64 0):=hb5.cell 0;have d1:w5.cell? ⟨w.heap.size,1,none⟩=some (.string ⟨l.toArray⟩):=hb5.cell 1;have d2:w5.cell? ⟨w.heap.size,2,none⟩=some (.string ⟨r.toArray⟩):=hb5.cell 2;have d3:w5.cell? ⟨w.heap.size,3,none⟩=some (.int .i64 cc):=hb5.cell 3;have d4:w5.cell? ⟨w.heap.size,4,none⟩=some (.slice ka 0 kc):=hb5.cell 4;have K5:=Lib.hid k5;clear k5))|(go_at_call 161;refine (HR.out w5 K5.out).mono ?_;rintro e w6 ⟨rfl,k6⟩;have hb6:=(HB.out.kept K5.out (by simp)).kept k6 (by simp);have e0:w6.cell? ⟨w.heap.size,0,none⟩=some (.int .i64 0):=hb6.cell 0;have e1:w6.cell? ⟨w.heap.size,1,none⟩=some (.string ⟨l.toArray⟩):=hb6.cell 1;have e2:w6.cell? ⟨w.heap.size,2,none⟩=some (.string ⟨r.toArray⟩):=hb6.cell 2;have e3:w6.cell? ⟨w.heap.size,3,none⟩=some (.int .i64 cc):=hb6.cell 3;have e4:w6.cell? ⟨w.heap.size,4,none⟩=some (.slice ka 0 kc):=hb6.cell 4;have K6:=Lib.hid (K5.out.trans k6);clear k6));go_ret;exact ⟨rfl,HK.out.trans K6.out⟩
 ·have hnb:((kn:Int)==0)=false:=by simpa using hn0
  rw [decide_eq_false hn0];simp only [Bool.false_and]
  go_enter Tryz.func123,Tryz.ntmps123
  go_upto_region 1 with (fail);have hW':=HW.out;rw [hW'];clear hW' HW;go_wp2_with fail;go_ret;exact ⟨rfl,HK.out⟩
end Go.Proofs.YtpcmamoomaddoaaGreatDoor
/- formed. -/
namespace Go.Proofs.YtpcmamoomaddoaaGreatDoor
open Go.RowKit
theorem formedL_any:∀ l:List Pd,formedL l=!(l.any fun q=>!formedB q)
 | []=>rfl
 | p::l=>by rw [formedL,List.any_cons,formedL_any l];cases formedB p <;> simp
set_option maxRecDepth 100000 in
set_option maxHeartbeats 8000000 in
theorem formed_any {B:Nat}:∀ (m:Nat) (p:Pd) (cs:List Value) (w:World),sizeB p≤m→shortB p=true→PdR w cs p→EnvB B w →
  Calls Tryz.prog 75 #[.agg cs.toArray] w fun e w'=>e=.returned (.bool (formedB p))∧Kept [] w w':=by
 intro m
 induction m with
 | zero=>intro p cs w hm;cases p;rw [sizeB] at hm;omega
 | succ m ih =>
  rintro ⟨kd,l,r,cc,ks⟩ cs w hm hsh hp hE;obtain ⟨ka,kc,rfl,hrow⟩:=hp.rows;rw [sizeB] at hm;rw [shortB] at hsh;simp only [Bool.and_eq_true,decide_eq_true_eq] at hsh;obtain ⟨⟨hl,hr⟩,hsk⟩:=hsh;obtain ⟨_,_,hke,hkm,_⟩:=hrow.form;clear hke
  -- the closure on a kid
  have hclo:∀ q∈ks,∀ cq w',Kept [] w w'→PdR w' cq q→Calls Tryz.prog 124 #[.agg cq.toArray] w' fun e w2=>e=.returned (.bool (!formedB q))∧Kept [] w' w2:=by
   intro q hq cq w' k hpq
   have hqs:sizeB q≤m:=by have:=sizeL_mem hq;omega
   have hqh:=(shortL_iff ks).1 hsk q hq;obtain ⟨qk,ql,qr,qc,qks⟩:=q;obtain ⟨qa,qcc,rfl,_⟩:=hpq.rows;obtain ⟨W,hW⟩:∃ W,w'.alloc (.cells #[.int .i64 qk,.string ⟨ql.toArray⟩,.string ⟨qr.toArray⟩,.int .i64 qc,.slice qa qks.length qcc] 46)=W:=⟨_,rfl⟩;have hkW:Kept [] w' W:=hW▸(Kept.refl _ _).alloc _;have hB:Blk W w'.heap.size 46 #[.int .i64 qk,.string ⟨ql.toArray⟩,.string ⟨qr.toArray⟩,.int .i64 qc,.slice qa qks.length qcc]:=hW▸Blk.new _ _ _;have c0:W.cell? ⟨w'.heap.size,0,none⟩=some (.int .i64 qk):=hB.cell 0;have c1:W.cell? ⟨w'.heap.size,1,none⟩=some (.string ⟨ql.toArray⟩):=hB.cell 1;have c2:W.cell? ⟨w'.heap.size,2,none⟩=some (.string ⟨qr.toArray⟩):=hB.cell 2;have c3:W.cell? ⟨w'.heap.size,3,none⟩=some (.int .i64 qc):=hB.cell 3;have c4:W.cell? ⟨w'.heap.size,4,none⟩=some (.slice qa qks.length qcc):=hB.cell 4;have IH:=Lib.hid (ih _ _ W hqs hqh (PdR.kept hkW hpq) (hE.kept0 (k.trans hkW)));have HK:=Lib.hid hkW;have HW:=Lib.hid hW;obtain ⟨b,hb⟩:∃ b,formedB (.node qk ql qr qc qks)=b:=⟨_,rfl⟩;rw [hb] at IH ⊢;clear hW hkW hB hpq hqh hb k hrow hp ih
   show Calls _ _ #[.agg #[.int .i64 qk,.string ⟨ql.toArray⟩,.string ⟨qr.toArray⟩,.int .i64 qc,.slice qa qks.length qcc]] _ _
   go_enter Tryz.func124,Tryz.ntmps124
   go_upto_region 1 with (fail);have hW':=HW.out;rw [hW'];clear hW' HW;go_wp2_with (go_at_call 75;refine IH.out.mono ?_;rintro e w5 ⟨rfl,k5⟩);go_ret;exact ⟨rfl,HK.out.trans k5⟩
  obtain ⟨kn,hkn⟩:∃ kn,ks.length=kn:=⟨_,rfl⟩;rw [hkn] at hkm;obtain ⟨W,hW⟩:∃ W,w.alloc (.cells #[.int .i64 kd,.string ⟨l.toArray⟩,.string ⟨r.toArray⟩,.int .i64 cc,.slice ka kn kc] 46)=W:=⟨_,rfl⟩;have hkW:Kept [] w W:=hW▸(Kept.refl _ _).alloc _;have hB:Blk W w.heap.size 46 #[.int .i64 kd,.string ⟨l.toArray⟩,.string ⟨r.toArray⟩,.int .i64 cc,.slice ka kn kc]:=hW▸Blk.new _ _ _;have c0:W.cell? ⟨w.heap.size,0,none⟩=some (.int .i64 kd):=hB.cell 0;have c1:W.cell? ⟨w.heap.size,1,none⟩=some (.string ⟨l.toArray⟩):=hB.cell 1;have c2:W.cell? ⟨w.heap.size,2,none⟩=some (.string ⟨r.toArray⟩):=hB.cell 2;have c3:W.cell? ⟨w.heap.size,3,none⟩=some (.int .i64 cc):=hB.cell 3;have c4:W.cell? ⟨w.heap.size,4,none⟩=some (.slice ka kn kc):=hB.cell 4
  have hrowW:RowOf PdR 5 W (.slice ka kn kc) ks:=by
   rw [←hkn];exact hrow.kept (fun _ _ x=>PdR.kept hkW x) hkW
  have hcf:Calls Tryz.prog 52 #[.slice ka kn kc,.func (.func 124) #[] #[]] W fun e w'=>e=.returned (.bool (ks.any fun q=>!formedB q))∧Kept [] W w' :=
   formedK_any (fun q=>!formedB q) hrowW fun a ha cs w' k hR=>hclo a ha cs w' (hkW.trans k) hR
  have HVA:=Lib.hid (fun (h0:kd=0)=>validAtom_any l r cc ka kn kc W hkm hl hr (hE.kept0 hkW));have HCF:=Lib.hid hcf;have HK:=Lib.hid hkW;have HW:=Lib.hid hW;rw [formedB,hkn]
  show Calls Tryz.prog 75 #[.agg #[.int .i64 kd,.string ⟨l.toArray⟩,.string ⟨r.toArray⟩,.int .i64 cc,.slice ka kn kc]] w _
  clear hW hkW hB hcf hclo hrow hrowW hp ih hl hr
  by_cases h0:kd=0
  ·subst h0;have HV:Hid (Calls Tryz.prog 123 #[.agg #[.int .i64 0,.string ⟨l.toArray⟩,.string ⟨r.toArray⟩,.int .i64 cc,.slice ka kn kc]] W fun e w'=>e=.returned (.bool (decide (kn=0)&&namedB l&&namedB r&&inRange cc))∧Kept [] W w'):=Lib.hid (HVA.out rfl)
   have he:decide (kn=0)=ks.isEmpty:=by
    cases ks with
    | nil=>simp at hkn;subst hkn;rfl
    | cons x t=>simp at hkn;simp;omega
   rw [he] at HV;rw [if_pos rfl];obtain ⟨bb,hbb⟩:∃ b,(ks.isEmpty&&namedB l&&namedB r&&inRange cc)=b:=⟨_,rfl⟩;rw [hbb] at HV ⊢;clear HVA he hbb
   go_enter Tryz.func75,Tryz.ntmps75
   go_upto_region 1 with (fail);have hW':=HW.out;rw [hW'];clear hW' HW;go_wp2_with (go_at_call 123;refine HV.out.mono ?_;rintro e w5 ⟨rfl,k5⟩);go_ret;exact ⟨rfl,HK.out.trans k5⟩
  ·rw [if_neg h0];clear HVA
   by_cases h1:kd=1
   ·subst h1;rw [if_pos (Or.inl rfl)]
    by_cases hn2:kn < 2
    ·have hn2':(kn:Int) < 2:=by omega
     rw [decide_eq_false (show ¬ 2≤kn by omega)];simp only [Bool.false_and]
     go_enter Tryz.func75,Tryz.ntmps75
     go_upto_region 1 with (fail);have hW':=HW.out;rw [hW'];clear hW' HW;go_wp2_with fail;go_ret;exact ⟨rfl,HK.out⟩
    ·have hn2':¬ (kn:Int) < 2:=by omega
     by_cases hcz:cc=0
     ·subst hcz
      rcases l with _|⟨l0,lt⟩
      ·rcases r with _|⟨r0,rt⟩
       ·rw [decide_eq_true (show 2≤kn by omega),decide_eq_true (rfl:(0:Int)=0)];simp only [List.isEmpty_nil,Bool.true_and,Bool.and_true];rw [formedL_any];obtain ⟨bb,hbb⟩:∃ b,(ks.any fun q=>!formedB q)=b:=⟨_,rfl⟩;rw [hbb] at HCF ⊢;clear hbb
        go_enter Tryz.func75,Tryz.ntmps75
        go_upto_region 1 with (fail);have hW':=HW.out;rw [hW'];clear hW' HW;go_wp2_with (go_at_call 52;refine HCF.out.mono ?_;rintro e w5 ⟨rfl,k5⟩);go_ret;exact ⟨rfl,HK.out.trans k5⟩
       ·rw [decide_eq_true (show 2≤kn by omega),decide_eq_true (rfl:(0:Int)=0)];have hrb:((r0::rt:Bs)==[])=false:=rfl;obtain ⟨r,hre⟩:∃ r,r0::rt=r:=⟨_,rfl⟩
        have hri:r.isEmpty=false:=by rw [←hre];rfl
        rw [hre] at hrb c2 HW ⊢;rw [hri];simp only [Bool.and_false,Bool.false_and];clear hre hri
        go_enter Tryz.func75,Tryz.ntmps75
        go_upto_region 1 with (fail);have hW':=HW.out;rw [hW'];clear hW' HW;go_wp2_with fail;go_ret;exact ⟨rfl,HK.out⟩
      ·rw [decide_eq_true (show 2≤kn by omega),decide_eq_true (rfl:(0:Int)=0)];have hlb:((l0::lt:Bs)==[])=false:=rfl;obtain ⟨l,hle⟩:∃ l,l0::lt=l:=⟨_,rfl⟩
       have hli:l.isEmpty=false:=by rw [←hle];rfl
       rw [hle] at hlb c1 HW ⊢;rw [hli];simp only [Bool.and_false,Bool.false_and];clear hle hli
       go_enter Tryz.func75,Tryz.ntmps75
       go_upto_region 1 with (fail);have hW':=HW.out;rw [hW'];clear hW' HW;go_wp2_with fail;go_ret;exact ⟨rfl,HK.out⟩
     ·have hczb:(cc != 0)=true:=by simpa using hcz
      rw [decide_eq_false hcz];simp only [Bool.false_and,Bool.and_false]
      go_enter Tryz.func75,Tryz.ntmps75
      go_upto_region 1 with (fail);have hW':=HW.out;rw [hW'];clear hW' HW;go_wp2_with fail;go_ret;exact ⟨rfl,HK.out⟩
   ·by_cases h2:kd=2
    ·subst h2;rw [if_pos (Or.inr rfl)]
     by_cases hn2:kn < 2
     ·have hn2':(kn:Int) < 2:=by omega
      rw [decide_eq_false (show ¬ 2≤kn by omega)];simp only [Bool.false_and]
      go_enter Tryz.func75,Tryz.ntmps75
      go_upto_region 1 with (fail);have hW':=HW.out;rw [hW'];clear hW' HW;go_wp2_with fail;go_ret;exact ⟨rfl,HK.out⟩
     ·have hn2':¬ (kn:Int) < 2:=by omega
      by_cases hcz:cc=0
      ·subst hcz
       rcases l with _|⟨l0,lt⟩
       ·rcases r with _|⟨r0,rt⟩
        ·rw [decide_eq_true (show 2≤kn by omega),decide_eq_true (rfl:(0:Int)=0)];simp only [List.isEmpty_nil,Bool.true_and,Bool.and_true];rw [formedL_any];obtain ⟨bb,hbb⟩:∃ b,(ks.any fun q=>!formedB q)=b:=⟨_,rfl⟩;rw [hbb] at HCF ⊢;clear hbb
         go_enter Tryz.func75,Tryz.ntmps75
         go_upto_region 1 with (fail);have hW':=HW.out;rw [hW'];clear hW' HW;go_wp2_with (go_at_call 52;refine HCF.out.mono ?_;rintro e w5 ⟨rfl,k5⟩);go_ret;exact ⟨rfl,HK.out.trans k5⟩
        ·rw [decide_eq_true (show 2≤kn by omega),decide_eq_true (rfl:(0:Int)=0)];have hrb:((r0::rt:Bs)==[])=false:=rfl;obtain ⟨r,hre⟩:∃ r,r0::rt=r:=⟨_,rfl⟩
         have hri:r.isEmpty=false:=by rw [←hre];rfl
         rw [hre] at hrb c2 HW ⊢;rw [hri];simp only [Bool.and_false,Bool.false_and];clear hre hri
         go_enter Tryz.func75,Tryz.ntmps75
         go_upto_region 1 with (fail);have hW':=HW.out;rw [hW'];clear hW' HW;go_wp2_with fail;go_ret;exact ⟨rfl,HK.out⟩
       ·rw [decide_eq_true (show 2≤kn by omega),decide_eq_true (rfl:(0:Int)=0)];have hlb:((l0::lt:Bs)==[])=false:=rfl;obtain ⟨l,hle⟩:∃ l,l0::lt=l:=⟨_,rfl⟩
        have hli:l.isEmpty=false:=by rw [←hle];rfl
        rw [hle] at hlb c1 HW ⊢;rw [hli];simp only [Bool.and_false,Bool.false_and];clear hle hli
        go_enter Tryz.func75,Tryz.ntmps75
        go_upto_region 1 with (fail);have hW':=HW.out;rw [hW'];clear hW' HW;go_wp2_with fail;go_ret;exact ⟨rfl,HK.out⟩
      ·have hczb:(cc != 0)=true:=by simpa using hcz
       rw [decide_eq_false hcz];simp only [Bool.false_and,Bool.and_false]
       go_enter Tryz.func75,Tryz.ntmps75
       go_upto_region 1 with (fail);have hW':=HW.out;rw [hW'];clear hW' HW;go_wp2_with fail;go_ret;exact ⟨rfl,HK.out⟩
    ·rw [if_neg (by omega)]
     by_cases h3:kd=3
     ·subst h3;rw [if_pos rfl]
      by_cases hc1:cc < 1
      ·rw [decide_eq_false (show ¬ 1≤cc by omega)];simp only [Bool.false_and]
       go_enter Tryz.func75,Tryz.ntmps75
       go_upto_region 1 with (fail);have hW':=HW.out;rw [hW'];clear hW' HW;go_wp2_with fail;go_ret;exact ⟨rfl,HK.out⟩
      ·by_cases hc2:(kn:Int) < cc
       ·rw [decide_eq_false (show ¬ cc≤(kn:Int) by omega)];simp only [Bool.false_and,Bool.and_false]
        go_enter Tryz.func75,Tryz.ntmps75
        go_upto_region 1 with (fail);have hW':=HW.out;rw [hW'];clear hW' HW;go_wp2_with fail;go_ret;exact ⟨rfl,HK.out⟩
       ·have hc3:¬ cc > (kn:Int):=by omega
        rcases l with _|⟨l0,lt⟩
        ·rcases r with _|⟨r0,rt⟩
         ·rw [decide_eq_true (show cc≤(kn:Int) by omega),decide_eq_true (show 1≤cc by omega)];simp only [List.isEmpty_nil,Bool.true_and,Bool.and_true];rw [formedL_any];obtain ⟨bb,hbb⟩:∃ b,(ks.any fun q=>!formedB q)=b:=⟨_,rfl⟩;rw [hbb] at HCF ⊢;clear hbb
          go_enter Tryz.func75,Tryz.ntmps75
          go_upto_region 1 with (fail);have hW':=HW.out;rw [hW'];clear hW' HW;go_wp2_with (go_at_call 52;refine HCF.out.mono ?_;rintro e w5 ⟨rfl,k5⟩);go_ret;exact ⟨rfl,HK.out.trans k5⟩
         ·rw [decide_eq_true (show cc≤(kn:Int) by omega),decide_eq_true (show 1≤cc by omega)];have hrb:((r0::rt:Bs)==[])=false:=rfl;obtain ⟨r,hre⟩:∃ r,r0::rt=r:=⟨_,rfl⟩
          have hri:r.isEmpty=false:=by rw [←hre];rfl
          rw [hre] at hrb c2 HW ⊢;rw [hri];simp only [Bool.and_false,Bool.false_and];clear hre hri
          go_enter Tryz.func75,Tryz.ntmps75
          go_upto_region 1 with (fail);have hW':=HW.out;rw [hW'];clear hW' HW;go_wp2_with fail;go_ret;exact ⟨rfl,HK.out⟩
        ·rw [decide_eq_true (show cc≤(kn:Int) by omega),decide_eq_true (show 1≤cc by omega)];have hlb:((l0::lt:Bs)==[])=false:=rfl;obtain ⟨l,hle⟩:∃ l,l0::lt=l:=⟨_,rfl⟩
         have hli:l.isEmpty=false:=by rw [←hle];rfl
         rw [hle] at hlb c1 HW ⊢;rw [hli];simp only [Bool.and_false,Bool.false_and];clear hle hli
         go_enter Tryz.func75,Tryz.ntmps75
         go_upto_region 1 with (fail);have hW':=HW.out;rw [hW'];clear hW' HW;go_wp2_with fail;go_ret;exact ⟨rfl,HK.out⟩
     ·rw [if_neg h3]
      have b0:(kd==0)=false:=by simpa using h0
      have b1:(kd==1)=false:=by simpa using h1
      have b2:(kd==2)=false:=by simpa using h2
      have b3:(kd==3)=false:=by simpa using h3
      go_enter Tryz.func75,Tryz.ntmps75
      go_upto_region 1 with (fail);have hW':=HW.out;rw [hW'];clear hW' HW;go_wp2_with fail;go_ret;exact ⟨rfl,HK.out⟩
end Go.Proofs.YtpcmamoomaddoaaGreatDoor
/- ValidPred. -/
namespace Go.Proofs.YtpcmamoomaddoaaGreatDoor
open Go.RowKit
set_option maxRecDepth 100000 in
set_option maxHeartbeats 2000000 in
theorem validPred_any {B:Nat} {w:World} {p:Pd} {cs:List Value} (hp:PdR w cs p) (hsh:shortB p=true) (hE:EnvB B w) :
  Calls Tryz.prog 33 #[.agg cs.toArray] w fun e w'=>e=.returned (.bool (validB p))∧Kept [] w w':=by
 obtain ⟨kd,l,r,cc,ks⟩:=p;obtain ⟨ka,kc,rfl,_⟩:=hp.rows;obtain ⟨kn,hkn⟩:∃ kn,ks.length=kn:=⟨_,rfl⟩;obtain ⟨W,hW⟩:∃ W,w.alloc (.cells #[.int .i64 kd,.string ⟨l.toArray⟩,.string ⟨r.toArray⟩,.int .i64 cc,.slice ka kn kc] 46)=W:=⟨_,rfl⟩;rw [hkn] at hp ⊢;have hkW:Kept [] w W:=hW▸(Kept.refl _ _).alloc _;have hB:Blk W w.heap.size 46 #[.int .i64 kd,.string ⟨l.toArray⟩,.string ⟨r.toArray⟩,.int .i64 cc,.slice ka kn kc]:=hW▸Blk.new _ _ _;have c0:W.cell? ⟨w.heap.size,0,none⟩=some (.int .i64 kd):=hB.cell 0;have c1:W.cell? ⟨w.heap.size,1,none⟩=some (.string ⟨l.toArray⟩):=hB.cell 1;have c2:W.cell? ⟨w.heap.size,2,none⟩=some (.string ⟨r.toArray⟩):=hB.cell 2;have c3:W.cell? ⟨w.heap.size,3,none⟩=some (.int .i64 cc):=hB.cell 3;have c4:W.cell? ⟨w.heap.size,4,none⟩=some (.slice ka kn kc):=hB.cell 4;have hpW:=PdR.kept hkW hp;have HS:=Lib.hid (small_any hpW);have HF:=Lib.hid (fun w' (k:Kept [] W w')=>formed_any _ _ _ w' (Nat.le_refl _) hsh (PdR.kept k hpW) (hE.kept0 (hkW.trans k)));have HB:=Lib.hid hB;have HK:=Lib.hid hkW;have HW:=Lib.hid hW
 unfold validB
 obtain ⟨b1,h1⟩:∃ b,smallB (.node kd l r cc ks)=b:=⟨_,rfl⟩;obtain ⟨b2,h2⟩:∃ b,formedB (.node kd l r cc ks)=b:=⟨_,rfl⟩;rw [h1] at HS ⊢;rw [h2] at HF ⊢;clear hW hkW hB hp hpW hE hsh h1 h2 hkn
 show Calls _ _ #[.agg #[.int .i64 kd,.string ⟨l.toArray⟩,.string ⟨r.toArray⟩,.int .i64 cc,.slice ka kn kc]] _ _
 cases b1
 ·go_enter Tryz.func33,Tryz.ntmps33
  go_upto_region 1 with (fail);have hW':=HW.out;rw [hW'];clear hW' HW;go_wp2_with (go_at_call 73;refine HS.out.mono ?_;rintro e w5 ⟨rfl,k5⟩);go_ret;exact ⟨rfl,HK.out.trans k5⟩
 ·go_enter Tryz.func33,Tryz.ntmps33
  go_upto_region 1 with (fail);have hW':=HW.out;rw [hW'];clear hW' HW;go_wp2_with (first|(go_at_call 73;refine HS.out.mono ?_;rintro e w5 ⟨rfl,k5⟩;have hb5:=HB.out.kept k5 (by simp);have d0:w5.cell? ⟨w.heap.size,0,none⟩=some (.int .i64 kd):=hb5.cell 0;have d1:w5.cell? ⟨w.heap.size,1,none⟩=some (.string ⟨l.toArray⟩):=hb5.cell 1;have d2:w5.cell? ⟨w.heap.size,2,none⟩=some (.string ⟨r.toArray⟩):=hb5.cell 2;have d3:w5.cell? ⟨w.heap.size,3,none⟩=some (.int .i64 cc):=hb5.cell 3;have d4:w5.cell? ⟨w.heap.size,4,none⟩=some (.slice ka kn kc):=hb5.cell 4;have K5:=Lib.hid k5;clear k5 hb5)|(go_at_call 75;refine (HF.out w5 K5.out).mono ?_;rintro e w6 ⟨rfl,k6⟩));go_ret;exact ⟨rfl,(HK.out.trans K5.out).trans k6⟩
end Go.Proofs.YtpcmamoomaddoaaGreatDoor
namespace Go.Proofs.YtpcmamoomaddoaaGreatDoor
open Go.RowKit
set_option maxRecDepth 100000 in
set_option maxHeartbeats 2000000 in
theorem namesOf_any {B:Nat} {w:World} {p:Pd} {cs:List Value} (hp:PdR w cs p) (hv:validB p=true) (hsz:sizeB p≤100000) (hE:EnvB B w) :
  Calls Tryz.prog 32 #[.agg cs.toArray] w (NamesE w (atomsB p)):=by
 have hf:formedB p=true:=by unfold validB at hv;rw [Bool.and_eq_true] at hv;exact hv.2
 have hsh:=formed_short p hf;obtain ⟨A,hA⟩:∃ A,atomsB p=A:=⟨_,rfl⟩
 have HNM:∀ (W:World) (g:Nat),Kept [] w W→Blk W g 46 cs.toArray→Calls Tryz.prog 74 #[.slice (some ⟨g,0,none⟩) 1 1] W (NamesE W A):=fun W g k hb=>by
  have hr:RowOf PdR 5 W (.slice (some ⟨g,0,none⟩) 1 1) [p]:=⟨[cs],rfl,fun c hc=>by rw [List.mem_singleton] at hc;exact hc▸hp.len,fun j a ha=>by
   rcases j with _|j
   ·simp at ha;subst ha;exact ⟨cs,rfl,PdR.kept k hp⟩
   ·simp at ha,by
    have:=row_of_blk (size:=5) (n:=1) hb (by rw [hp.len]) (by decide)
    simpa using this⟩
  have:=names_any hr (fun q hq=>by rw [List.mem_singleton] at hq;exact hq▸hf) (by simp [sizeL];omega);rw [show atomsL [p]=atomsB p by simp [atomsL],hA] at this;exact this
 rw [hA]
 have HV:∀ (W:World),Kept [] w W→Calls Tryz.prog 33 #[.agg cs.toArray] W fun e w'=>e=.returned (.bool true)∧Kept [] W w':=fun W k=>by
  have:=validPred_any (PdR.kept k hp) hsh (hE.kept0 k)
  rwa [hv] at this
 obtain ⟨kd,l,r,cc,ks⟩:=p;obtain ⟨ka,kc,rfl,_⟩:=hp.rows;obtain ⟨kn,hkn⟩:∃ kn,ks.length=kn:=⟨_,rfl⟩;rw [hkn] at HV HNM ⊢;clear hkn hp hv hE hf hsh hA hsz;obtain ⟨W,hW⟩:∃ W,w.alloc (.cells #[.int .i64 kd,.string ⟨l.toArray⟩,.string ⟨r.toArray⟩,.int .i64 cc,.slice ka kn kc] 46)=W:=⟨_,rfl⟩;have hkW:Kept [] w W:=hW▸(Kept.refl _ _).alloc _;have hB:Blk W w.heap.size 46 #[.int .i64 kd,.string ⟨l.toArray⟩,.string ⟨r.toArray⟩,.int .i64 cc,.slice ka kn kc]:=hW▸Blk.new _ _ _;have c0:W.cell? ⟨w.heap.size,0,none⟩=some (.int .i64 kd):=hB.cell 0;have c1:W.cell? ⟨w.heap.size,1,none⟩=some (.string ⟨l.toArray⟩):=hB.cell 1;have c2:W.cell? ⟨w.heap.size,2,none⟩=some (.string ⟨r.toArray⟩):=hB.cell 2;have c3:W.cell? ⟨w.heap.size,3,none⟩=some (.int .i64 cc):=hB.cell 3;have c4:W.cell? ⟨w.heap.size,4,none⟩=some (.slice ka kn kc):=hB.cell 4;have H1:=Lib.hid (HV W hkW);have H2:=Lib.hid HNM;have HB:=Lib.hid hB;have HK:=Lib.hid hkW;have HW:=Lib.hid hW;clear hW hkW hB HV HNM
 show Calls _ _ #[.agg #[.int .i64 kd,.string ⟨l.toArray⟩,.string ⟨r.toArray⟩,.int .i64 cc,.slice ka kn kc]] _ _
 go_enter Tryz.func32,Tryz.ntmps32
 go_upto_region 1 with (fail);have hW':=HW.out;rw [hW'];clear hW' HW
 go_wp2_with (first
  | (go_at_call 33;refine H1.out.mono ?_;rintro e w5 ⟨rfl,k5⟩;have hb5:=HB.out.kept k5 (by simp);have d0:w5.cell? ⟨w.heap.size,0,none⟩=some (.int .i64 kd):=hb5.cell 0;have d1:w5.cell? ⟨w.heap.size,1,none⟩=some (.string ⟨l.toArray⟩):=hb5.cell 1;have d2:w5.cell? ⟨w.heap.size,2,none⟩=some (.string ⟨r.toArray⟩):=hb5.cell 2;have d3:w5.cell? ⟨w.heap.size,3,none⟩=some (.int .i64 cc):=hb5.cell 3;have d4:w5.cell? ⟨w.heap.size,4,none⟩=some (.slice ka kn kc):=hb5.cell 4;have K5:=Lib.hid k5;clear k5 hb5)
  | (go_at_call 74;refine (H2.out _ _ ((HK.out.trans K5.out).alloc _) (Blk.new _ _ _)).mono ?_;rintro e w6 ⟨u,ns,rfl,h1,h2,h3,h4,h5⟩))
 go_ret;have kk:=(HK.out.trans K5.out).alloc (.cells #[.int .i64 kd,.string ⟨l.toArray⟩,.string ⟨r.toArray⟩,.int .i64 cc,.slice ka kn kc] 46);exact ⟨u,ns,rfl,h1,h2,h3,ownsRow_base_a h4 kk.size,kk.trans h5⟩
end Go.Proofs.YtpcmamoomaddoaaGreatDoor
