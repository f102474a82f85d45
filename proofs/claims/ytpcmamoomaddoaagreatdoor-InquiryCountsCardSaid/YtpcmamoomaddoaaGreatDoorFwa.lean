/- FewPass, FewKeys, FewIssues, FewSights. -/
import Derived.Test.YtpcmamoomaddoaaGreatDoorAdd
namespace Go.Proofs.YtpcmamoomaddoaaGreatDoor
open Go.RowKit
def fewPassB (p:Pss):Bool:=decide (p.name.length≤30)&&decide (p.attrs.length≤8)&&p.attrs.all fun a=>decide (a.length≤30)
def fewKeysB (l:List Pss):Bool:=decide (l.length≤18)&&l.all fewPassB
def fewIssuesB (l:List Iss) (m:Nat):Bool:=decide (l.length≤m)&&l.all fun x=>decide (x.attrs.length≤9)
def fewSightB (x:Sgt):Bool:=decide (x.q.length≤300)&&decide (x.passes.length≤3)&&decide (x.rev.length≤18)&&decide (x.links.length≤3)&&x.passes.all fewPassB
def fewSightsB (l:List Sgt) (m:Nat):Bool:=decide (l.length≤m)&&l.all fewSightB
def LnR (_:World) (c:List Value) (n:Nat):Prop:=∃ a cc,c=[.slice a n cc]∧n≤9223372036854775807
def IsSl (v:Value):Prop:=∃ a n c,v=.slice a n c
def IsPf (v u:Value):Prop:=IsSl v∧IsSl u
def SgtR (w:World) (c:List Value) (x:Sgt):Prop:=∃ ver vp vr da qu ju k0 k1 vl k3 k4 k5 k6 k7 k8,
 c=[.int .i64 ver,.string ⟨x.q.toArray⟩,vp,.int .i64 x.most,vr,.int .i64 da,.int .i64 qu,.int .i64 ju,k0,k1,vl,k3,k4,k5,k6,k7,k8,.int .i64 x.holder]∧RowOf PssR 4 w vp x.passes∧Row w 1 vr x.rev.length (ints x.rev)∧RowOf LnR 1 w vl x.links∧(IsSl k0∧IsSl k1∧IsSl k3∧IsSl k4∧IsSl k5∧IsSl k6∧IsPf k7 k8)
theorem SgtR.kept {w w':World} {c:List Value} {x:Sgt} (h:SgtR w c x) (k:Kept [] w w'):SgtR w' c x:=by
 obtain ⟨ver,vp,vr,da,qu,ju,k0,k1,vl,k3,k4,k5,k6,k7,k8,h1,h2,h3,h4,h5⟩:=h;exact ⟨ver,vp,vr,da,qu,ju,k0,k1,vl,k3,k4,k5,k6,k7,k8,h1,h2.kept (fun _ _ h=>PssR.kept h k) k,h3.kept k,RowOf.kept (w':=w') h4 (fun _ _ h=>h) k,h5⟩
theorem all_false {α:Type} {f:α→Bool} {l:List α} {j:Nat} {x:α} (h:l[j]?=some x) (hf:f x=false):l.all f=false:=by
 cases h1:l.all f with
 | false=>rfl
 | true=>rw [List.all_eq_true.1 h1 x (List.mem_of_getElem? h)] at hf;cases hf
theorem all_take {α:Type} {f:α→Bool} {l:List α} {j:Nat} {x:α} (h:l[j]?=some x) (ht:(l.take j).all f=true) (hf:f x=true):(l.take (j+1)).all f=true:=by
 rw [List.take_succ_eq_append_getElem (List.getElem?_eq_some_iff.1 h).1,(List.getElem?_eq_some_iff.1 h).2,List.all_append,ht]
 simp [hf]
theorem all_done {α:Type} {f:α→Bool} {l:List α} {j:Nat} (hj:l.length≤j) (ht:(l.take j).all f=true):l.all f=true:=by
 rwa [List.take_of_length_le hj] at ht
set_option maxRecDepth 100000 in
set_option maxHeartbeats 2000000 in
theorem fewPass_any {w:World} {cs:List Value} {p:Pss} (hp:PssR w cs p) :
  Calls Tryz.prog 27 #[.agg cs.toArray] w fun e w'=>e=.returned (.bool (fewPassB p))∧Kept [] w w':=by
 obtain ⟨va,vg,rfl,h,_⟩:=hp;obtain ⟨a,c,rfl,h63,_⟩:=h.form;obtain ⟨R,hR⟩:∃ R,fewPassB p=R:=⟨_,rfl⟩;rw [hR]
 unfold fewPassB at hR
 obtain ⟨nm,pu,at_,gs⟩:=p
 dsimp only at h h63 hR ⊢
 obtain ⟨n,hn⟩:∃ n,at_.length=n:=⟨_,rfl⟩;rw [hn] at h h63 hR ⊢;obtain ⟨W,hW⟩:∃ W,w.alloc (.cells #[.string ⟨nm.toArray⟩,.int .i64 pu,.slice a n c,vg] 36)=W:=⟨_,rfl⟩;have hkW:Kept [] w W:=hW▸(Kept.refl _ _).alloc _;have hB:Blk W w.heap.size 36 #[.string ⟨nm.toArray⟩,.int .i64 pu,.slice a n c,vg]:=hW▸Blk.new _ _ _;have H:=Lib.hid (h.kept hkW);have HB:=Lib.hid hB;have HK:=Lib.hid hkW;have HW:=Lib.hid hW;have HR:=Lib.hid hR;have HN:=Lib.hid hn;clear hW hkW hB hR hn h
 go_enter Tryz.func27,Tryz.ntmps27
 go_upto_region 1 with (fail);have hW':=HW.out;rw [hW'];clear hW' HW;go_wp2_with fail
 go_loopw [3] (fun v wr=>∃ j:Nat,j≤n∧j≤9∧v=.int .i64 j∧Kept [] W wr∧(at_.take j).all (fun a=>decide (a.length≤30))=true) (fun v _=>n - (intOf v).toNat)
 case atStart=>exact ⟨0,Nat.zero_le _,Nat.zero_le _,rfl,Kept.refl _ _,by simp⟩
 case round =>
  obtain ⟨j,hj,hj9,rfl,hkr,hall⟩:=hrel;have HKR:=Lib.hid hkr;have HALL:=Lib.hid hall;have hb:=HB.out.kept hkr (by simp);have d2:wr.cell? ⟨w.heap.size,2,none⟩=some (.slice a n c):=hb.cell 2;have d0:wr.cell? ⟨w.heap.size,0,none⟩=some (.string ⟨nm.toArray⟩):=hb.cell 0;have hrw:=H.out.kept hkr;clear hall hkr hb
  by_cases hlt:j < n
  ·have hlt':(j:Int) < (n:Int):=by omega
   by_cases h8:j≤8
   ·have h8':(j:Int)≤8:=by omega
    obtain ⟨b,off,rfl,hc⟩:=hrw.at_ (by omega)
    have hil:j < at_.length:=by have:=HN.out;omega
    obtain ⟨x,hx⟩:∃ x,at_[j]?=some x:=⟨_,List.getElem?_eq_getElem hil⟩;have y0:wr.cell? ⟨b,off+j,none⟩=some (.string ⟨x.toArray⟩):=hc j _ (by simp [strs,hx]);have HX:=Lib.hid hx
    have sz:(⟨x.toArray⟩:ByteArray).size=x.length:=by simp [ByteArray.size]
    clear hc hx hrw
    by_cases h30:x.length≤30
    ·have h30':¬ (30:Int) < (x.length:Int):=by omega
     go_wp2_with fail
     go_roundw
     case rel=>exact ⟨j+1,by omega,by omega,by go_num,HKR.out,all_take HX.out HALL.out (decide_eq_true h30)⟩
     case measure=>simp [intOf];omega
    ·have h30':(30:Int) < (x.length:Int):=by omega
     go_wp2_with fail;go_ret;refine ⟨?_,HK.out.trans HKR.out⟩;rw [←HR.out,all_false HX.out (decide_eq_false h30),Bool.and_false]
     rfl
   ·have h8':¬ (j:Int)≤8:=by omega
    have sz:(⟨nm.toArray⟩:ByteArray).size=nm.length:=by simp [ByteArray.size]
    have hn8:¬ (n:Int)≤8:=by omega
    clear hrw
    by_cases hm:nm.length≤30
    ·have hm':(nm.length:Int)≤30:=by omega
     go_wp2_with fail;go_ret;refine ⟨?_,HK.out.trans HKR.out⟩;rw [←HR.out,decide_eq_false (show ¬ n≤8 by omega),Bool.and_false,Bool.false_and]
     rfl
    ·have hm':¬ (nm.length:Int)≤30:=by omega
     go_wp2_with fail;go_ret;refine ⟨?_,HK.out.trans HKR.out⟩;rw [←HR.out,decide_eq_false hm,Bool.false_and,Bool.false_and]
     rfl
  ·obtain rfl:j=n:=by omega
   have sz:(⟨nm.toArray⟩:ByteArray).size=nm.length:=by simp [ByteArray.size]
   have hfin:=all_done (by have:=HN.out;omega) HALL.out;have HFIN:=Lib.hid hfin;clear hrw hfin
   by_cases hm:nm.length≤30
   ·have hm':(nm.length:Int)≤30:=by omega
    by_cases h8:j≤8
    ·have h8':(j:Int)≤8:=by omega
     go_wp2_with fail;go_ret;refine ⟨?_,HK.out.trans HKR.out⟩;rw [←HR.out,decide_eq_true hm,decide_eq_true h8,HFIN.out]
     rfl
    ·have h8':¬ (j:Int)≤8:=by omega
     go_wp2_with fail;go_ret;refine ⟨?_,HK.out.trans HKR.out⟩;rw [←HR.out,decide_eq_false h8,Bool.and_false,Bool.false_and]
     rfl
   ·have hm':¬ (nm.length:Int)≤30:=by omega
    go_wp2_with fail;go_ret;refine ⟨?_,HK.out.trans HKR.out⟩;rw [←HR.out,decide_eq_false hm,Bool.false_and,Bool.false_and]
    rfl
set_option maxRecDepth 100000 in
set_option maxHeartbeats 2000000 in
theorem fewKeys_any {w:World} {v:Value} {l:List Pss} (h:RowOf PssR 4 w v l) :
  Calls Tryz.prog 8 #[v] w fun e w'=>e=.returned (.bool (fewKeysB l))∧Kept [] w w':=by
 obtain ⟨a,c,rfl,h63,_⟩:=h.form;obtain ⟨R,hR⟩:∃ R,fewKeysB l=R:=⟨_,rfl⟩;rw [hR]
 unfold fewKeysB at hR
 obtain ⟨n,hn⟩:∃ n,l.length=n:=⟨_,rfl⟩;rw [hn] at h h63 hR ⊢;have H:=Lib.hid h;have HR:=Lib.hid hR;have HN:=Lib.hid hn;clear hR hn h
 go_enter Tryz.func8,Tryz.ntmps8
 go_wp2_with fail
 go_loopw [3] (fun v wr=>∃ j:Nat,j≤n∧j≤19∧v=.int .i64 j∧Kept [] w wr∧(l.take j).all fewPassB=true) (fun v _=>n - (intOf v).toNat)
 case atStart=>exact ⟨0,Nat.zero_le _,Nat.zero_le _,rfl,Kept.refl _ _,by simp⟩
 case round =>
  obtain ⟨j,hj,hj9,rfl,hkr,hall⟩:=hrel;have HKR:=Lib.hid hkr;have HALL:=Lib.hid hall;have hrw:=H.out.kept (fun _ _ h=>PssR.kept h hkr) hkr;clear hall hkr
  by_cases hlt:j < n
  ·have hlt':(j:Int) < (n:Int):=by omega
   by_cases h18:j≤18
   ·have h18':(j:Int)≤18:=by omega
    obtain ⟨b,off,rfl,hc⟩:=hrw.at_ (by have:=HN.out;omega);obtain ⟨p,hp⟩:∃ a,l[j]?=some a:=⟨_,List.getElem?_eq_getElem (by have:=HN.out;omega)⟩;obtain ⟨cs,p1,p2,p3⟩:=hc j p hp;have HP:=Lib.hid hp;have FP:=fewPass_any p2;obtain ⟨r,hr⟩:∃ r,fewPassB p=r:=⟨_,rfl⟩;rw [hr] at FP;have HRR:=Lib.hid hr;obtain ⟨va,vg,rfl,h1,_⟩:=p2;obtain ⟨pa,pc,rfl,_,_⟩:=h1.form;have y0:wr.cell? ⟨b,off+j*4,none⟩=some (.string ⟨p.name.toArray⟩):=p3 0 _ (by decide) rfl;have y1:wr.cell? ⟨b,off+j*4+1,none⟩=some (.int .i64 p.pub):=p3 1 _ (by decide) rfl;have y2:wr.cell? ⟨b,off+j*4+2,none⟩=some (.slice pa p.attrs.length pc):=p3 2 _ (by decide) rfl;have y3:wr.cell? ⟨b,off+j*4+3,none⟩=some vg:=p3 3 _ (by decide) rfl;have FP:=Lib.hid FP;clear hc hp hr hrw h1 p1 p3
    cases r
    ·go_wp2_with (go_at_call 27;refine FP.out.mono ?_;rintro e w5 ⟨rfl,k5⟩);go_ret;refine ⟨?_,HKR.out.trans k5⟩;rw [←HR.out,all_false HP.out HRR.out,Bool.and_false]
     rfl
    ·go_wp2_with (go_at_call 27;refine FP.out.mono ?_;rintro e w5 ⟨rfl,k5⟩)
     go_roundw
     case rel=>exact ⟨j+1,by omega,by omega,by go_num,HKR.out.trans k5,all_take HP.out HALL.out HRR.out⟩
     case measure=>simp [intOf];omega
   ·have h18':¬ (j:Int)≤18:=by omega
    have hn18:¬ (n:Int)≤18:=by omega
    clear hrw;go_wp2_with fail;go_ret;refine ⟨?_,HKR.out⟩;rw [←HR.out,decide_eq_false (show ¬ n≤18 by omega),Bool.false_and]
    rfl
  ·obtain rfl:j=n:=by omega
   have hfin:=all_done (by have:=HN.out;omega) HALL.out;have HFIN:=Lib.hid hfin;clear hrw hfin
   by_cases h18:j≤18
   ·have h18':(j:Int)≤18:=by omega
    go_wp2_with fail;go_ret;refine ⟨?_,HKR.out⟩;rw [←HR.out,decide_eq_true h18,HFIN.out]
    rfl
   ·have h18':¬ (j:Int)≤18:=by omega
    go_wp2_with fail;go_ret;refine ⟨?_,HKR.out⟩;rw [←HR.out,decide_eq_false h18,Bool.false_and]
    rfl
set_option maxRecDepth 100000 in
set_option maxHeartbeats 2000000 in
theorem fewIssues_any {w:World} {v:Value} {l:List Iss} (m:Nat) (hm:m≤1000) (h:RowOf IssR 7 w v l) :
  Calls Tryz.prog 9 #[v,.int .i64 (m:Int)] w fun e w'=>e=.returned (.bool (fewIssuesB l m))∧Kept [] w w':=by
 obtain ⟨a,c,rfl,h63,_⟩:=h.form;obtain ⟨R,hR⟩:∃ R,fewIssuesB l m=R:=⟨_,rfl⟩;rw [hR]
 unfold fewIssuesB at hR
 obtain ⟨n,hn⟩:∃ n,l.length=n:=⟨_,rfl⟩;rw [hn] at h h63 hR ⊢;have H:=Lib.hid h;have HR:=Lib.hid hR;have HN:=Lib.hid hn;clear hR hn h
 go_enter Tryz.func9,Tryz.ntmps9
 go_wp2_with fail
 go_loopw [5] (fun v wr=>∃ j:Nat,j≤n∧j≤m+1∧v=.int .i64 j∧Kept [] w wr∧(l.take j).all (fun x=>decide (x.attrs.length≤9))=true) (fun v _=>n - (intOf v).toNat)
 case atStart=>exact ⟨0,Nat.zero_le _,Nat.zero_le _,rfl,Kept.refl _ _,by simp⟩
 case round =>
  obtain ⟨j,hj,hj9,rfl,hkr,hall⟩:=hrel;have HKR:=Lib.hid hkr;have HALL:=Lib.hid hall;have hrw:=H.out.kept (fun _ _ h=>IssR.kept h hkr) hkr;clear hall hkr
  by_cases hlt:j < n
  ·have hlt':(j:Int) < (n:Int):=by omega
   by_cases h18:j≤m
   ·have h18':(j:Int)≤(m:Int):=by omega
    obtain ⟨b,off,rfl,hc⟩:=hrw.at_ (by have:=HN.out;omega);obtain ⟨x,hp⟩:∃ a,l[j]?=some a:=⟨_,List.getElem?_eq_getElem (by have:=HN.out;omega)⟩;obtain ⟨cs,p1,p2,p3⟩:=hc j x hp;have HP:=Lib.hid hp;obtain ⟨va,o1,o2,o3,o4,o5,rfl,h1⟩:=p2;obtain ⟨xa,xc,rfl,hx63,_⟩:=h1.form;have y1:wr.cell? ⟨b,off+j*7+1,none⟩=some (.slice xa x.attrs.length xc):=p3 1 _ (by decide) rfl;obtain ⟨q,hq⟩:∃ q,x.attrs.length=q:=⟨_,rfl⟩;have HQ:=Lib.hid hq;rw [hq] at y1 hx63;clear hc hp hrw h1 p1 p3 hq
    by_cases h9:q≤9
    ·have h9':¬ (9:Int) < (q:Int):=by omega
     go_wp2_with fail
     go_roundw
     case rel=>exact ⟨j+1,by omega,by omega,by go_num,HKR.out,all_take HP.out HALL.out (decide_eq_true (by rw [HQ.out];exact h9))⟩
     case measure=>simp [intOf];omega
    ·have h9':(9:Int) < (q:Int):=by omega
     go_wp2_with fail;go_ret;refine ⟨?_,HKR.out⟩;rw [←HR.out,all_false HP.out (decide_eq_false (by rw [HQ.out];exact h9)),Bool.and_false]
     rfl
   ·have h18':¬ (j:Int)≤(m:Int):=by omega
    have hn18:¬ (n:Int)≤(m:Int):=by omega
    clear hrw;go_wp2_with fail;go_ret;refine ⟨?_,HKR.out⟩;rw [←HR.out,decide_eq_false (show ¬ n≤m by omega),Bool.false_and]
    rfl
  ·obtain rfl:j=n:=by omega
   have hfin:=all_done (by have:=HN.out;omega) HALL.out;have HFIN:=Lib.hid hfin;clear hrw hfin
   by_cases h18:j≤m
   ·have h18':(j:Int)≤(m:Int):=by omega
    go_wp2_with fail;go_ret;refine ⟨?_,HKR.out⟩;rw [←HR.out,decide_eq_true h18,HFIN.out]
    rfl
   ·have h18':¬ (j:Int)≤(m:Int):=by omega
    go_wp2_with fail;go_ret;refine ⟨?_,HKR.out⟩;rw [←HR.out,decide_eq_false h18,Bool.false_and]
    rfl
set_option maxRecDepth 100000 in
set_option maxHeartbeats 4000000 in
theorem fewSights_any {w:World} {v:Value} {l:List Sgt} (m:Nat) (hm:m≤1000) (h:RowOf SgtR 18 w v l) :
  Calls Tryz.prog 10 #[v,.int .i64 (m:Int)] w fun e w'=>e=.returned (.bool (fewSightsB l m))∧Kept [] w w':=by
 obtain ⟨a,c,rfl,h63,_⟩:=h.form;obtain ⟨R,hR⟩:∃ R,fewSightsB l m=R:=⟨_,rfl⟩;rw [hR]
 unfold fewSightsB at hR
 obtain ⟨n,hn⟩:∃ n,l.length=n:=⟨_,rfl⟩;rw [hn] at h h63 hR ⊢;have H:=Lib.hid h;have HR:=Lib.hid hR;have HN:=Lib.hid hn;clear hR hn h
 go_enter Tryz.func10,Tryz.ntmps10
 go_wp2_with fail
 go_loopw [5] (fun v wr=>∃ j:Nat,j≤n∧j≤m+1∧v=.int .i64 j∧Kept [] w wr∧(l.take j).all fewSightB=true) (fun v _=>n - (intOf v).toNat)
 case atStart=>exact ⟨0,Nat.zero_le _,Nat.zero_le _,rfl,Kept.refl _ _,by simp⟩
 case round =>
  obtain ⟨j,hj,hj9,rfl,hkr,hall⟩:=hrel;have HKR:=Lib.hid hkr;have HALL:=Lib.hid hall;have hrw:=H.out.kept (fun _ _ h=>SgtR.kept h hkr) hkr;clear hall hkr
  by_cases hlt:j < n
  ·have hlt':(j:Int) < (n:Int):=by omega
   by_cases h18:j≤m
   ·have h18':(j:Int)≤(m:Int):=by omega
    obtain ⟨b,off,rfl,hc⟩:=hrw.at_ (by have:=HN.out;omega);obtain ⟨x,hp⟩:∃ a,l[j]?=some a:=⟨_,List.getElem?_eq_getElem (by have:=HN.out;omega)⟩;obtain ⟨cs,p1,p2,p3⟩:=hc j x hp;have HP:=Lib.hid hp;obtain ⟨ver,vp,vr,da,qu,ju,k0,k1,vl,k3,k4,k5,k6,k7,k8,rfl,h1,h2,h3,_⟩:=p2;obtain ⟨pa,pc,rfl,hp63,_⟩:=h1.form;obtain ⟨ra,rc,rfl,hr63,_⟩:=h2.form;obtain ⟨la,lc,rfl,hl63,_⟩:=RowOf.form h3
    have hbad:¬ x.q.length≤300∨¬ x.passes.length≤3∨¬ x.rev.length≤18∨¬ x.links.length≤3∨x.passes.all fewPassB=false→fewSightB x=false:=fun h=>by
     unfold fewSightB
     rcases h with h|h|h|h|h
     ·rw [decide_eq_false h];simp
     ·rw [decide_eq_false h];simp
     ·rw [decide_eq_false h];simp
     ·rw [decide_eq_false h];simp
     ·rw [h];simp
    have hgood:x.q.length≤300→x.passes.length≤3→x.rev.length≤18→x.links.length≤3→x.passes.all fewPassB=true→fewSightB x=true:=fun a1 a2 a3 a4 a5=>by
     unfold fewSightB
     rw [decide_eq_true a1,decide_eq_true a2,decide_eq_true a3,decide_eq_true a4,a5]
     rfl
    obtain ⟨q,most,ps,rev,links,hold⟩:=x
    dsimp only at h1 h2 h3 hp63 hr63 hl63 hbad hgood p3
    obtain ⟨pn,hpn⟩:∃ n,ps.length=n:=⟨_,rfl⟩;obtain ⟨rn,hrn⟩:∃ n,rev.length=n:=⟨_,rfl⟩;obtain ⟨ln,hln⟩:∃ n,links.length=n:=⟨_,rfl⟩;obtain ⟨ql,hql⟩:∃ n,q.length=n:=⟨_,rfl⟩;rw [hpn] at h1 p3 hbad hgood hp63;rw [hrn] at p3 hbad hgood hr63;rw [hln] at p3 hbad hgood hl63;rw [hql] at hbad hgood
    have sz:(⟨q.toArray⟩:ByteArray).size=ql:=by simp [ByteArray.size,hql]
    have y0:wr.cell? ⟨b,off+j*18,none⟩=some (.int .i64 ver):=p3 0 _ (by decide) rfl;have y1:wr.cell? ⟨b,off+j*18+1,none⟩=some (.string ⟨q.toArray⟩):=p3 1 _ (by decide) rfl;have y2:wr.cell? ⟨b,off+j*18+2,none⟩=some (.slice pa pn pc):=p3 2 _ (by decide) rfl;have y3:wr.cell? ⟨b,off+j*18+3,none⟩=some (.int .i64 most):=p3 3 _ (by decide) rfl;have y4:wr.cell? ⟨b,off+j*18+4,none⟩=some (.slice ra rn rc):=p3 4 _ (by decide) rfl;have y5:wr.cell? ⟨b,off+j*18+5,none⟩=some (.int .i64 da):=p3 5 _ (by decide) rfl;have y6:wr.cell? ⟨b,off+j*18+6,none⟩=some (.int .i64 qu):=p3 6 _ (by decide) rfl;have y7:wr.cell? ⟨b,off+j*18+7,none⟩=some (.int .i64 ju):=p3 7 _ (by decide) rfl;have y10:wr.cell? ⟨b,off+j*18+10,none⟩=some (.slice la ln lc):=p3 10 _ (by decide) rfl;obtain ⟨wA,hwA⟩:∃ x,wr.alloc (.cells #[.int .i64 ver,.string ⟨q.toArray⟩,.slice pa pn pc,.int .i64 most,.slice ra rn rc,.int .i64 da,.int .i64 qu,.int .i64 ju] 50)=x:=⟨_,rfl⟩;have kA:Kept [] wr wA:=hwA▸(Kept.refl _ _).alloc _;have hBA:Blk wA wr.heap.size 50 #[.int .i64 ver,.string ⟨q.toArray⟩,.slice pa pn pc,.int .i64 most,.slice ra rn rc,.int .i64 da,.int .i64 qu,.int .i64 ju]:=hwA▸Blk.new _ _ _;have z1:wA.cell? ⟨wr.heap.size,1,none⟩=some (.string ⟨q.toArray⟩):=hBA.cell 1;have z2:wA.cell? ⟨wr.heap.size,2,none⟩=some (.slice pa pn pc):=hBA.cell 2;have z4:wA.cell? ⟨wr.heap.size,4,none⟩=some (.slice ra rn rc):=hBA.cell 4;have z10:wA.cell? ⟨b,off+j*18+10,none⟩=some (.slice la ln lc):=Kept.cellOf y10 _ kA;have H1:=Lib.hid (h1.kept (fun _ _ h=>PssR.kept h kA) kA)
    have HBA:=Lib.hid hBA;have HWA:=Lib.hid hwA;have HKA:=Lib.hid (HKR.out.trans kA);have HBAD:=Lib.hid hbad;have HGOOD:=Lib.hid hgood;have HPN:=Lib.hid hpn;clear hc hp hrw h1 h2 h3 p1 p3 hbad hgood hpn hrn hln hql hwA kA hBA y10
    by_cases n1:ql≤300
    ·by_cases n2:pn≤3
     ·by_cases n3:rn≤18
      ·by_cases n4:ln≤3
       ·have f1:¬ (300:Int) < (ql:Int):=by omega
        have f2:¬ (3:Int) < (pn:Int):=by omega
        have f3:¬ (18:Int) < (rn:Int):=by omega
        have f4:¬ (3:Int) < (ln:Int):=by omega
        go_upto_region 5 with (fail);have hwA':=HWA.out;rw [hwA'];clear hwA';go_wp2_with fail;clear z1 z2 z4 z10 y0 y1 y2 y3 y4 y5 y6 y7 f1 f2 f3 f4;obtain ⟨g,hg⟩:∃ g,wr.heap.size=g:=⟨_,rfl⟩;rw [hg] at HBA ⊢;clear hg HWA
        go_loopw [7] (fun v wi=>∃ k:Nat,k≤pn∧v=.int .i64 k∧Kept [] wA wi∧(ps.take k).all fewPassB=true) (fun v _=>pn - (intOf v).toNat)
        case atStart=>exact ⟨0,Nat.zero_le _,rfl,Kept.refl _ _,by simp⟩
        case round =>
         obtain ⟨k,hk,rfl,hki,hall⟩:=hrel;have HKI:=Lib.hid hki;have HALI:=Lib.hid hall;have hbi:=HBA.out.kept hki (by simp);have z2:wr.cell? ⟨g,2,none⟩=some (.slice pa pn pc):=hbi.cell 2;have hri:=H1.out.kept (fun _ _ h=>PssR.kept h hki) hki;clear hall hki hbi
         by_cases hlk:k < pn
         ·have hlk':(k:Int) < (pn:Int):=by omega
          obtain ⟨b,off,rfl,hc⟩:=hri.at_ (by have:=HPN.out;omega);obtain ⟨p,hp⟩:∃ a,ps[k]?=some a:=⟨_,List.getElem?_eq_getElem (by have:=HPN.out;omega)⟩;obtain ⟨cs,p1,p2,p3⟩:=hc k p hp;have HPK:=Lib.hid hp;have FP:=fewPass_any p2;obtain ⟨r,hr⟩:∃ r,fewPassB p=r:=⟨_,rfl⟩;rw [hr] at FP;have HRR:=Lib.hid hr;obtain ⟨va,vg,rfl,h1,_⟩:=p2;obtain ⟨qa,qc,rfl,_,_⟩:=h1.form;have y0:wr.cell? ⟨b,off+k*4,none⟩=some (.string ⟨p.name.toArray⟩):=p3 0 _ (by decide) rfl;have y1:wr.cell? ⟨b,off+k*4+1,none⟩=some (.int .i64 p.pub):=p3 1 _ (by decide) rfl;have y2:wr.cell? ⟨b,off+k*4+2,none⟩=some (.slice qa p.attrs.length qc):=p3 2 _ (by decide) rfl;have y3:wr.cell? ⟨b,off+k*4+3,none⟩=some vg:=p3 3 _ (by decide) rfl;have FP:=Lib.hid FP;clear hc hp hr hri h1 p1 p3
          cases r
          ·go_wp2_with (go_at_call 27;refine FP.out.mono ?_;rintro e w5 ⟨rfl,k5⟩);go_ret;refine ⟨?_,(HKA.out.trans HKI.out).trans k5⟩;rw [←HR.out,all_false HP.out (HBAD.out (Or.inr (Or.inr (Or.inr (Or.inr (all_false HPK.out HRR.out)))))),Bool.and_false]
           rfl
          ·go_wp2_with (go_at_call 27;refine FP.out.mono ?_;rintro e w5 ⟨rfl,k5⟩)
           go_roundw
           case rel=>exact ⟨k+1,by omega,by go_num,HKI.out.trans k5,all_take HPK.out HALI.out HRR.out⟩
           case measure=>simp [intOf];omega
         ·obtain rfl:k=pn:=by omega
          have hfin:=all_done (by have:=HPN.out;omega) HALI.out;have HFIN:=Lib.hid hfin;clear hri hfin;go_wp2_with fail
          go_roundw
          case rel=>exact ⟨j+1,by omega,by omega,by go_num,HKA.out.trans HKI.out,all_take HP.out HALL.out (HGOOD.out n1 n2 n3 n4 HFIN.out)⟩
          case measure=>simp [intOf];omega
       ·have f1:¬ (300:Int) < (ql:Int):=by omega
        have f2:¬ (3:Int) < (pn:Int):=by omega
        have f3:¬ (18:Int) < (rn:Int):=by omega
        have f4:(3:Int) < (ln:Int):=by omega
        go_upto_region 5 with (fail);have hwA':=HWA.out;rw [hwA'];clear hwA';go_wp2_with fail;go_ret;refine ⟨?_,HKA.out⟩;rw [←HR.out,all_false HP.out (HBAD.out (Or.inr (Or.inr (Or.inr (Or.inl n4))))),Bool.and_false]
        rfl
      ·have f1:¬ (300:Int) < (ql:Int):=by omega
       have f2:¬ (3:Int) < (pn:Int):=by omega
       have f3:(18:Int) < (rn:Int):=by omega
       go_upto_region 5 with (fail);have hwA':=HWA.out;rw [hwA'];clear hwA';go_wp2_with fail;go_ret;refine ⟨?_,HKA.out⟩;rw [←HR.out,all_false HP.out (HBAD.out (Or.inr (Or.inr (Or.inl n3)))),Bool.and_false]
       rfl
     ·have f1:¬ (300:Int) < (ql:Int):=by omega
      have f2:(3:Int) < (pn:Int):=by omega
      go_upto_region 5 with (fail);have hwA':=HWA.out;rw [hwA'];clear hwA';go_wp2_with fail;go_ret;refine ⟨?_,HKA.out⟩;rw [←HR.out,all_false HP.out (HBAD.out (Or.inr (Or.inl n2))),Bool.and_false]
      rfl
    ·have f1:(300:Int) < (ql:Int):=by omega
     go_upto_region 5 with (fail);have hwA':=HWA.out;rw [hwA'];clear hwA';go_wp2_with fail;go_ret;refine ⟨?_,HKA.out⟩;rw [←HR.out,all_false HP.out (HBAD.out (Or.inl n1)),Bool.and_false]
     rfl
   ·have h18':¬ (j:Int)≤(m:Int):=by omega
    have hn18:¬ (n:Int)≤(m:Int):=by omega
    clear hrw;go_wp2_with fail;go_ret;refine ⟨?_,HKR.out⟩;rw [←HR.out,decide_eq_false (show ¬ n≤m by omega),Bool.false_and]
    rfl
  ·obtain rfl:j=n:=by omega
   have hfin:=all_done (by have:=HN.out;omega) HALL.out;have HFIN:=Lib.hid hfin;clear hrw hfin
   by_cases h18:j≤m
   ·have h18':(j:Int)≤(m:Int):=by omega
    go_wp2_with fail;go_ret;refine ⟨?_,HKR.out⟩;rw [←HR.out,decide_eq_true h18,HFIN.out]
    rfl
   ·have h18':¬ (j:Int)≤(m:Int):=by omega
    go_wp2_with fail;go_ret;refine ⟨?_,HKR.out⟩;rw [←HR.out,decide_eq_false h18,Bool.false_and]
    rfl
end Go.Proofs.YtpcmamoomaddoaaGreatDoor
