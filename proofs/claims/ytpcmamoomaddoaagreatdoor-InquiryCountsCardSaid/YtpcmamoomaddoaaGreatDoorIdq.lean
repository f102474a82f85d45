/- The closures of question, keyIndex and ValidCrowd; slices.IndexFunc and ContainsFunc with them. -/
import Derived.Test.YtpcmamoomaddoaaGreatDoorSpr
namespace Go.Proofs.YtpcmamoomaddoaaGreatDoor
open Go.RowKit
def MbR (w:World) (c:List Value) (m:Mb):Prop:=∃ vb vt,c=[vb,vt,.int .i64 m.rev]∧RowOf BindR 2 w vb m.binds∧Row w 1 vt m.tickets.length (ints m.tickets)
theorem MbR.kept {w w':World} {c:List Value} {m:Mb} (h:MbR w c m) (k:Kept [] w w'):MbR w' c m:=by
 obtain ⟨vb,vt,h1,h2,h3⟩:=h;exact ⟨vb,vt,h1,RowOf.kept h2 (fun _ _ x=>x) k,h3.kept k⟩
def SnR (_:World) (c:List Value) (x:Sn):Prop:=c=[.int .i64 x.q,.int .i64 x.win,.int .i64 x.asof,.int .i64 x.hold]
set_option maxRecDepth 100000 in
set_option maxHeartbeats 2000000 in
theorem q1_any {w:World} {b:Nat} {ds cs:List Value} {p q:Pd} (hb:Blk w b 46 ds.toArray) (hp:PdR w ds p) (hq:PdR w cs q) :
  Calls Tryz.prog 140 #[.agg cs.toArray,.pointer (some ⟨b,0,none⟩)] w fun e w'=>e=.returned (.bool (sameB p q))∧Kept [] w w':=by
 have hsame:=fun (w':World) (k:Kept [] w w')=>samePred_any (sizeB p) p q ds cs w' (Nat.le_refl _) (PdR.kept k hp) (PdR.kept k hq);obtain ⟨r,hr⟩:∃ r,sameB p q=r:=⟨_,rfl⟩;rw [hr] at hsame ⊢;obtain ⟨pk,pl,pr,pc,pks⟩:=p;obtain ⟨pa,pcc,rfl,_⟩:=hp.rows;obtain ⟨qk,ql,qr,qc,qks⟩:=q;obtain ⟨qa,qcc,rfl,_⟩:=hq.rows;obtain ⟨pn,hpn⟩:∃ n,pks.length=n:=⟨_,rfl⟩;obtain ⟨qn,hqn⟩:∃ n,qks.length=n:=⟨_,rfl⟩;rw [hpn,hqn] at hsame;rw [hpn] at hb;rw [hqn];clear hp hq hpn hqn hr;obtain ⟨W,hW⟩:∃ W,w.alloc (.cells #[.int .i64 qk,.string ⟨ql.toArray⟩,.string ⟨qr.toArray⟩,.int .i64 qc,.slice qa qn qcc] 46)=W:=⟨_,rfl⟩;have kW:Kept [] w W:=hW▸(Kept.refl _ _).alloc _;have hBW:Blk W w.heap.size 46 #[.int .i64 qk,.string ⟨ql.toArray⟩,.string ⟨qr.toArray⟩,.int .i64 qc,.slice qa qn qcc]:=hW▸Blk.new _ _ _;have x0:W.cell? ⟨w.heap.size,0,none⟩=some (.int .i64 qk):=hBW.cell 0;have x1:W.cell? ⟨w.heap.size,1,none⟩=some (.string ⟨ql.toArray⟩):=hBW.cell 1;have x2:W.cell? ⟨w.heap.size,2,none⟩=some (.string ⟨qr.toArray⟩):=hBW.cell 2;have x3:W.cell? ⟨w.heap.size,3,none⟩=some (.int .i64 qc):=hBW.cell 3;have x4:W.cell? ⟨w.heap.size,4,none⟩=some (.slice qa qn qcc):=hBW.cell 4;have hbW:=hb.kept kW (by simp);have u0:W.cell? ⟨b,0,none⟩=some (.int .i64 pk):=hbW.cell 0;have u1:W.cell? ⟨b,1,none⟩=some (.string ⟨pl.toArray⟩):=hbW.cell 1;have u2:W.cell? ⟨b,2,none⟩=some (.string ⟨pr.toArray⟩):=hbW.cell 2;have u3:W.cell? ⟨b,3,none⟩=some (.int .i64 pc):=hbW.cell 3;have u4:W.cell? ⟨b,4,none⟩=some (.slice pa pn pcc):=hbW.cell 4;have HS:=Lib.hid (hsame W kW)
 have HW:=Lib.hid hW;have HK:=Lib.hid kW;clear hsame hW kW hBW hbW hb
 show Calls _ _ #[.agg #[.int .i64 qk,.string ⟨ql.toArray⟩,.string ⟨qr.toArray⟩,.int .i64 qc,.slice qa qn qcc],.pointer (some ⟨b,0,none⟩)] _ _
 go_enter Tryz.func140,Tryz.ntmps140
 go_upto_region 1 with (fail);have hW':=HW.out;rw [hW'];clear hW';go_wp2_with (go_at_call 141;refine HS.out.mono ?_;rintro e w5 ⟨rfl,k5⟩);go_ret;exact ⟨rfl,HK.out.trans k5⟩
set_option maxRecDepth 100000 in
set_option maxHeartbeats 2000000 in
theorem questK_ix {cb:Nat} {w:World} {v:Value} {l:List Pd} (q:Pd→Bool) (h:RowOf PdR 5 w v l)
  (hq:∀ a∈l,∀ cs w',Kept [] w w'→PdR w' cs a→Calls Tryz.prog 140 #[.agg cs.toArray,.pointer (some ⟨cb,0,none⟩)] w' fun e w2=>e=.returned (.bool (q a))∧Kept [] w' w2) :
  Calls Tryz.prog 95 #[v,.func (.func 140) #[] #[.pointer (some ⟨cb,0,none⟩)]] w fun e w'=>e=.returned (.int .i64 (idxV (l.findIdx? q)))∧Kept [] w w':=by
 obtain ⟨sa,sc,rfl,hln,_⟩:=h.form;have HQ:=Lib.hid hq;have HROW:=Lib.hid h;clear hq h
 go_enter Tryz.func95,Tryz.ntmps95
 go_wp2_with fail
 go_loopw [8] (fun v wr=>∃ j:Nat,j≤l.length∧v=.int .i64 j∧Kept [] w wr∧∀ a∈l.take j,q a=false) (fun v _=>l.length - (intOf v).toNat)
 case atStart=>exact ⟨0,Nat.zero_le _,rfl,Kept.refl _ _,by simp⟩
 case round =>
  obtain ⟨j,hj,rfl,hkr,hall⟩:=hrel;have HKR:=Lib.hid hkr;have HALL:=Lib.hid hall;clear hall
  by_cases hlt:j < l.length
  ·have hlt':(j:Int) < (l.length:Int):=by omega
   have hrw:=HROW.out.kept (fun c a hR=>PdR.kept hkr hR) hkr;obtain ⟨b,off,rfl,hc⟩:=hrw.at_ (by omega);obtain ⟨a,hae⟩:∃ a,l[j]?=some a:=⟨_,List.getElem?_eq_getElem hlt⟩;obtain ⟨cq,h1,h2,h3⟩:=hc j a hae;have hcl:=HQ.out a (List.mem_of_getElem? hae) cq wr hkr h2;obtain ⟨r,hr⟩:∃ r,q a=r:=⟨_,rfl⟩;rw [hr] at hcl;have HAE:=Lib.hid hae;have HRR:=Lib.hid hr;clear hc hrw hae hr hkr;obtain ⟨qk,ql,qr,qc,qks⟩:=a;obtain ⟨qa,qcc,rfl,_⟩:=h2.rows;have y0:wr.cell? ⟨b,off+j*5,none⟩=some (.int .i64 qk):=h3 0 _ (by decide) rfl;have y1:wr.cell? ⟨b,off+j*5+1,none⟩=some (.string ⟨ql.toArray⟩):=h3 1 _ (by decide) rfl;have y2:wr.cell? ⟨b,off+j*5+2,none⟩=some (.string ⟨qr.toArray⟩):=h3 2 _ (by decide) rfl;have y3:wr.cell? ⟨b,off+j*5+3,none⟩=some (.int .i64 qc):=h3 3 _ (by decide) rfl;have y4:wr.cell? ⟨b,off+j*5+4,none⟩=some (.slice qa qks.length qcc):=h3 4 _ (by decide) rfl;have HCL:=Lib.hid hcl;clear h1 h2 h3 hcl
   cases r
   ·go_wp2_with (go_at_call 140;refine HCL.out.mono ?_;rintro e w5 ⟨rfl,k5⟩)
    go_roundw
    case rel =>
     refine ⟨j+1,by omega,by go_num,HKR.out.trans k5,fun x hx=>?_⟩;rw [List.take_add_one,HAE.out] at hx
     rcases List.mem_append.1 hx with hx|hx
     ·exact HALL.out x hx
     ·simp at hx;rw [hx];exact HRR.out
    case measure=>simp [intOf];omega
   ·go_wp2_with (go_at_call 140;refine HCL.out.mono ?_;rintro e w5 ⟨rfl,k5⟩);go_ret;exact ⟨by rw [idx_some HALL.out HAE.out HRR.out];rfl,HKR.out.trans k5⟩
  ·obtain rfl:j=l.length:=by omega
   have hfin:=idx_none (q:=q) (l:=l) (by rw [←List.take_length (l:=l)];exact HALL.out);have HFIN:=Lib.hid hfin;clear hfin;go_wp2_with fail;go_ret;exact ⟨by rw [HFIN.out];rfl,HKR.out⟩
set_option maxRecDepth 100000 in
set_option maxHeartbeats 2000000 in
theorem k1_any {w:World} {b:Nat} {ds cs:List Value} {t p:Pss} (hb:Blk w b 36 ds.toArray) (ht:PssR w ds t) (hp:PssR w cs p) :
  Calls Tryz.prog 139 #[.agg cs.toArray,.pointer (some ⟨b,0,none⟩)] w fun e w'=>e=.returned (.bool (keyIs t p))∧Kept [] w w':=by
 obtain ⟨tv,tg,rfl,ht1,_⟩:=ht;obtain ⟨pv,pg,rfl,hp1,_⟩:=hp;have heq:=fun (w':World) (k:Kept [] w w')=>equal_strs (hp1.kept k) (ht1.kept k);obtain ⟨ta,tc,rfl,_,_⟩:=ht1.form;obtain ⟨pa,pc,rfl,_,_⟩:=hp1.form
 unfold keyIs
 obtain ⟨tm,tp,tat,_⟩:=t;obtain ⟨pm,pp,pat,_⟩:=p
 dsimp only at heq hb ⊢
 obtain ⟨pn,hpn⟩:∃ n,pat.length=n:=⟨_,rfl⟩;obtain ⟨tn,htn⟩:∃ n,tat.length=n:=⟨_,rfl⟩;rw [hpn,htn] at heq;rw [htn] at hb;rw [hpn];clear ht1 hp1 hpn htn;obtain ⟨W,hW⟩:∃ W,w.alloc (.cells #[.string ⟨pm.toArray⟩,.int .i64 pp,.slice pa pn pc,pg] 36)=W:=⟨_,rfl⟩;have kW:Kept [] w W:=hW▸(Kept.refl _ _).alloc _;have hBW:Blk W w.heap.size 36 #[.string ⟨pm.toArray⟩,.int .i64 pp,.slice pa pn pc,pg]:=hW▸Blk.new _ _ _;have x0:W.cell? ⟨w.heap.size,0,none⟩=some (.string ⟨pm.toArray⟩):=hBW.cell 0;have x1:W.cell? ⟨w.heap.size,1,none⟩=some (.int .i64 pp):=hBW.cell 1;have x2:W.cell? ⟨w.heap.size,2,none⟩=some (.slice pa pn pc):=hBW.cell 2;have x3:W.cell? ⟨w.heap.size,3,none⟩=some (pg):=hBW.cell 3;have hbW:=hb.kept kW (by simp);have u0:W.cell? ⟨b,0,none⟩=some (.string ⟨tm.toArray⟩):=hbW.cell 0;have u1:W.cell? ⟨b,1,none⟩=some (.int .i64 tp):=hbW.cell 1;have u2:W.cell? ⟨b,2,none⟩=some (.slice ta tn tc):=hbW.cell 2;have u3:W.cell? ⟨b,3,none⟩=some (tg):=hbW.cell 3;have HS:=heq W kW;obtain ⟨r,hr⟩:∃ r,decide (pat=tat)=r:=⟨_,rfl⟩;rw [hr] at HS ⊢;have HS:=Lib.hid HS;have HW:=Lib.hid hW;have HK:=Lib.hid kW;clear heq hW kW hBW hbW hb hr
 by_cases n1:pm=tm
 ·subst n1
  by_cases n2:pp=tp
  ·subst n2
   go_enter Tryz.func139,Tryz.ntmps139
   go_upto_region 1 with (fail);have hW':=HW.out;rw [hW'];clear hW';go_wp2_with (go_at_call 83;refine HS.out.mono ?_;rintro e w5 ⟨rfl,k5⟩);go_ret;exact ⟨by simp,HK.out.trans k5⟩
  ·go_enter Tryz.func139,Tryz.ntmps139
   go_upto_region 1 with (fail);have hW':=HW.out;rw [hW'];clear hW';go_wp2_with fail;go_ret;exact ⟨by simp,HK.out⟩
 ·go_enter Tryz.func139,Tryz.ntmps139
  go_upto_region 1 with (fail);have hW':=HW.out;rw [hW'];clear hW';go_wp2_with fail;go_ret;exact ⟨by simp,HK.out⟩
set_option maxRecDepth 100000 in
set_option maxHeartbeats 2000000 in
theorem keyK_ix {cb:Nat} {w:World} {v:Value} {l:List Pss} (q:Pss→Bool) (h:RowOf PssR 4 w v l)
  (hq:∀ a∈l,∀ cs w',Kept [] w w'→PssR w' cs a→Calls Tryz.prog 139 #[.agg cs.toArray,.pointer (some ⟨cb,0,none⟩)] w' fun e w2=>e=.returned (.bool (q a))∧Kept [] w' w2) :
  Calls Tryz.prog 138 #[v,.func (.func 139) #[] #[.pointer (some ⟨cb,0,none⟩)]] w fun e w'=>e=.returned (.int .i64 (idxV (l.findIdx? q)))∧Kept [] w w':=by
 obtain ⟨sa,sc,rfl,hln,_⟩:=h.form;have HQ:=Lib.hid hq;have HROW:=Lib.hid h;clear hq h
 go_enter Tryz.func138,Tryz.ntmps138
 go_wp2_with fail
 go_loopw [8] (fun v wr=>∃ j:Nat,j≤l.length∧v=.int .i64 j∧Kept [] w wr∧∀ a∈l.take j,q a=false) (fun v _=>l.length - (intOf v).toNat)
 case atStart=>exact ⟨0,Nat.zero_le _,rfl,Kept.refl _ _,by simp⟩
 case round =>
  obtain ⟨j,hj,rfl,hkr,hall⟩:=hrel;have HKR:=Lib.hid hkr;have HALL:=Lib.hid hall;clear hall
  by_cases hlt:j < l.length
  ·have hlt':(j:Int) < (l.length:Int):=by omega
   have hrw:=HROW.out.kept (fun c a hR=>PssR.kept hR hkr) hkr;obtain ⟨b,off,rfl,hc⟩:=hrw.at_ (by omega);obtain ⟨a,hae⟩:∃ a,l[j]?=some a:=⟨_,List.getElem?_eq_getElem hlt⟩;obtain ⟨cq,h1,h2,h3⟩:=hc j a hae;have hcl:=HQ.out a (List.mem_of_getElem? hae) cq wr hkr h2;obtain ⟨r,hr⟩:∃ r,q a=r:=⟨_,rfl⟩;rw [hr] at hcl;have HAE:=Lib.hid hae;have HRR:=Lib.hid hr;clear hc hrw hae hr hkr;have h2':=h2;obtain ⟨tv,tg,rfl,ht1,_⟩:=h2';obtain ⟨ta,tc,rfl,_,_⟩:=ht1.form;have y0:wr.cell? ⟨b,off+j*4,none⟩=some (.string ⟨a.name.toArray⟩):=h3 0 _ (by decide) rfl;have y1:wr.cell? ⟨b,off+j*4+1,none⟩=some (.int .i64 a.pub):=h3 1 _ (by decide) rfl;have y2:wr.cell? ⟨b,off+j*4+2,none⟩=some (.slice ta a.attrs.length tc):=h3 2 _ (by decide) rfl;have y3:wr.cell? ⟨b,off+j*4+3,none⟩=some (tg):=h3 3 _ (by decide) rfl;have HCL:=Lib.hid hcl;clear h1 h2 h3 hcl
   cases r
   ·go_wp2_with (go_at_call 139;refine HCL.out.mono ?_;rintro e w5 ⟨rfl,k5⟩)
    go_roundw
    case rel =>
     refine ⟨j+1,by omega,by go_num,HKR.out.trans k5,fun x hx=>?_⟩;rw [List.take_add_one,HAE.out] at hx
     rcases List.mem_append.1 hx with hx|hx
     ·exact HALL.out x hx
     ·simp at hx;rw [hx];exact HRR.out
    case measure=>simp [intOf];omega
   ·go_wp2_with (go_at_call 139;refine HCL.out.mono ?_;rintro e w5 ⟨rfl,k5⟩);go_ret;exact ⟨by rw [idx_some HALL.out HAE.out HRR.out];rfl,HKR.out.trans k5⟩
  ·obtain rfl:j=l.length:=by omega
   have hfin:=idx_none (q:=q) (l:=l) (by rw [←List.take_length (l:=l)];exact HALL.out);have HFIN:=Lib.hid hfin;clear hfin;go_wp2_with fail;go_ret;exact ⟨by rw [HFIN.out];rfl,HKR.out⟩
set_option maxRecDepth 100000 in
set_option maxHeartbeats 2000000 in
theorem v1_any {B:Nat} {w:World} {cs:List Value} {p:Pd} (hp:PdR w cs p) (hsh:shortB p=true) (hE:EnvB B w) :
  Calls Tryz.prog 53 #[.agg cs.toArray] w fun e w'=>e=.returned (.bool (!validB p))∧Kept [] w w':=by
 have hv:=fun (w':World) (k:Kept [] w w')=>validPred_any (PdR.kept k hp) hsh (hE.kept0 k);obtain ⟨r,hr⟩:∃ r,validB p=r:=⟨_,rfl⟩;rw [hr] at hv ⊢;obtain ⟨qk,ql,qr,qc,qks⟩:=p;obtain ⟨qa,qcc,rfl,_⟩:=hp.rows;obtain ⟨qn,hqn⟩:∃ n,qks.length=n:=⟨_,rfl⟩;rw [hqn] at hv ⊢;clear hp hqn hr hsh hE;obtain ⟨W,hW⟩:∃ W,w.alloc (.cells #[.int .i64 qk,.string ⟨ql.toArray⟩,.string ⟨qr.toArray⟩,.int .i64 qc,.slice qa qn qcc] 46)=W:=⟨_,rfl⟩;have kW:Kept [] w W:=hW▸(Kept.refl _ _).alloc _;have hBW:Blk W w.heap.size 46 #[.int .i64 qk,.string ⟨ql.toArray⟩,.string ⟨qr.toArray⟩,.int .i64 qc,.slice qa qn qcc]:=hW▸Blk.new _ _ _;have x0:W.cell? ⟨w.heap.size,0,none⟩=some (.int .i64 qk):=hBW.cell 0;have x1:W.cell? ⟨w.heap.size,1,none⟩=some (.string ⟨ql.toArray⟩):=hBW.cell 1;have x2:W.cell? ⟨w.heap.size,2,none⟩=some (.string ⟨qr.toArray⟩):=hBW.cell 2;have x3:W.cell? ⟨w.heap.size,3,none⟩=some (.int .i64 qc):=hBW.cell 3;have x4:W.cell? ⟨w.heap.size,4,none⟩=some (.slice qa qn qcc):=hBW.cell 4;have HS:=Lib.hid (hv W kW);have HW:=Lib.hid hW;have HK:=Lib.hid kW;clear hv hW kW hBW
 show Calls _ _ #[.agg #[.int .i64 qk,.string ⟨ql.toArray⟩,.string ⟨qr.toArray⟩,.int .i64 qc,.slice qa qn qcc]] _ _
 go_enter Tryz.func53,Tryz.ntmps53
 go_upto_region 1 with (fail);have hW':=HW.out;rw [hW'];clear hW';go_wp2_with (go_at_call 33;refine HS.out.mono ?_;rintro e w5 ⟨rfl,k5⟩);go_ret;exact ⟨rfl,HK.out.trans k5⟩
set_option maxRecDepth 100000 in
set_option maxHeartbeats 2000000 in
theorem vqK_ix {w:World} {v:Value} {l:List Pd} (q:Pd→Bool) (h:RowOf PdR 5 w v l)
  (hq:∀ a∈l,∀ cs w',Kept [] w w'→PdR w' cs a→Calls Tryz.prog 53 #[.agg cs.toArray] w' fun e w2=>e=.returned (.bool (q a))∧Kept [] w' w2) :
  Calls Tryz.prog 95 #[v,.func (.func 53) #[] #[]] w fun e w'=>e=.returned (.int .i64 (idxV (l.findIdx? q)))∧Kept [] w w':=by
 obtain ⟨sa,sc,rfl,hln,_⟩:=h.form;have HQ:=Lib.hid hq;have HROW:=Lib.hid h;clear hq h
 go_enter Tryz.func95,Tryz.ntmps95
 go_wp2_with fail
 go_loopw [8] (fun v wr=>∃ j:Nat,j≤l.length∧v=.int .i64 j∧Kept [] w wr∧∀ a∈l.take j,q a=false) (fun v _=>l.length - (intOf v).toNat)
 case atStart=>exact ⟨0,Nat.zero_le _,rfl,Kept.refl _ _,by simp⟩
 case round =>
  obtain ⟨j,hj,rfl,hkr,hall⟩:=hrel;have HKR:=Lib.hid hkr;have HALL:=Lib.hid hall;clear hall
  by_cases hlt:j < l.length
  ·have hlt':(j:Int) < (l.length:Int):=by omega
   have hrw:=HROW.out.kept (fun c a hR=>PdR.kept hkr hR) hkr;obtain ⟨b,off,rfl,hc⟩:=hrw.at_ (by omega);obtain ⟨a,hae⟩:∃ a,l[j]?=some a:=⟨_,List.getElem?_eq_getElem hlt⟩;obtain ⟨cq,h1,h2,h3⟩:=hc j a hae;have hcl:=HQ.out a (List.mem_of_getElem? hae) cq wr hkr h2;obtain ⟨r,hr⟩:∃ r,q a=r:=⟨_,rfl⟩;rw [hr] at hcl;have HAE:=Lib.hid hae;have HRR:=Lib.hid hr;clear hc hrw hae hr hkr;obtain ⟨qk,ql,qr,qc,qks⟩:=a;obtain ⟨qa,qcc,rfl,_⟩:=h2.rows;have y0:wr.cell? ⟨b,off+j*5,none⟩=some (.int .i64 qk):=h3 0 _ (by decide) rfl;have y1:wr.cell? ⟨b,off+j*5+1,none⟩=some (.string ⟨ql.toArray⟩):=h3 1 _ (by decide) rfl;have y2:wr.cell? ⟨b,off+j*5+2,none⟩=some (.string ⟨qr.toArray⟩):=h3 2 _ (by decide) rfl;have y3:wr.cell? ⟨b,off+j*5+3,none⟩=some (.int .i64 qc):=h3 3 _ (by decide) rfl;have y4:wr.cell? ⟨b,off+j*5+4,none⟩=some (.slice qa qks.length qcc):=h3 4 _ (by decide) rfl;have HCL:=Lib.hid hcl;clear h1 h2 h3 hcl
   cases r
   ·go_wp2_with (go_at_call 53;refine HCL.out.mono ?_;rintro e w5 ⟨rfl,k5⟩)
    go_roundw
    case rel =>
     refine ⟨j+1,by omega,by go_num,HKR.out.trans k5,fun x hx=>?_⟩;rw [List.take_add_one,HAE.out] at hx
     rcases List.mem_append.1 hx with hx|hx
     ·exact HALL.out x hx
     ·simp at hx;rw [hx];exact HRR.out
    case measure=>simp [intOf];omega
   ·go_wp2_with (go_at_call 53;refine HCL.out.mono ?_;rintro e w5 ⟨rfl,k5⟩);go_ret;exact ⟨by rw [idx_some HALL.out HAE.out HRR.out];rfl,HKR.out.trans k5⟩
  ·obtain rfl:j=l.length:=by omega
   have hfin:=idx_none (q:=q) (l:=l) (by rw [←List.take_length (l:=l)];exact HALL.out);have HFIN:=Lib.hid hfin;clear hfin;go_wp2_with fail;go_ret;exact ⟨by rw [HFIN.out];rfl,HKR.out⟩
set_option maxRecDepth 100000 in
set_option maxHeartbeats 1000000 in
theorem vqK_any {w:World} {v:Value} {l:List Pd} (q:Pd→Bool) (h:RowOf PdR 5 w v l)
  (hq:∀ a∈l,∀ cs w',Kept [] w w'→PdR w' cs a→Calls Tryz.prog 53 #[.agg cs.toArray] w' fun e w2=>e=.returned (.bool (q a))∧Kept [] w' w2) :
  Calls Tryz.prog 52 #[v,.func (.func 53) #[] #[]] w fun e w'=>e=.returned (.bool (l.any q))∧Kept [] w w':=by
 have HI:=Lib.hid (vqK_ix q h hq);rw [idx_any];obtain ⟨sa,sc,rfl,hln,_⟩:=h.form;clear h hq
 cases ho:l.findIdx? q with
 | none =>
  rw [ho] at HI;have HI2:Hid (Calls Tryz.prog 95 #[.slice sa l.length sc,.func (.func 53) #[] #[]] w fun e w'=>e=.returned (.int .i64 (-1))∧Kept [] w w'):=HI;clear HI ho
  go_enter Tryz.func52,Tryz.ntmps52
  go_wp2_with (go_at_call 95;refine HI2.out.mono ?_;rintro e w5 ⟨rfl,k5⟩);go_ret;exact ⟨rfl,k5⟩
 | some i =>
  rw [ho] at HI;have HI2:Hid (Calls Tryz.prog 95 #[.slice sa l.length sc,.func (.func 53) #[] #[]] w fun e w'=>e=.returned (.int .i64 (i:Int))∧Kept [] w w'):=HI
  have hge:(0:Int)≤(i:Int):=by omega
  clear HI ho
  go_enter Tryz.func52,Tryz.ntmps52
  go_wp2_with (go_at_call 95;refine HI2.out.mono ?_;rintro e w5 ⟨rfl,k5⟩);go_ret;exact ⟨rfl,k5⟩
set_option maxRecDepth 100000 in
set_option maxHeartbeats 2000000 in
theorem v2_any {B:Nat} {w:World} {cs:List Value} {m:Mb} (hm:MbR w cs m) (hs:∀ b∈m.binds,b.1.length≤10000000) (hl:m.binds.length≤100000) (hE:EnvB B w) :
  Calls Tryz.prog 55 #[.agg cs.toArray] w fun e w'=>e=.returned (.bool (!memB m))∧Kept [] w w':=by
 obtain ⟨vb,vt,rfl,hb,ht⟩:=hm;have hv:=fun (w':World) (k:Kept [] w w')=>validMember_any (m:=m) (RowOf.kept (w':=w') hb (fun _ _ x=>x) k) (ht.kept k) hs hl (hE.kept0 k);obtain ⟨r,hr⟩:∃ r,memB m=r:=⟨_,rfl⟩;rw [hr] at hv ⊢;obtain ⟨ba,bc,rfl,_,_⟩:=RowOf.form hb;obtain ⟨ta,tc,rfl,_,_⟩:=ht.form;obtain ⟨bs,ts,rv⟩:=m
 dsimp only at hv ⊢
 obtain ⟨bn,hbn⟩:∃ n,bs.length=n:=⟨_,rfl⟩;obtain ⟨tn,htn⟩:∃ n,ts.length=n:=⟨_,rfl⟩;rw [hbn,htn] at hv ⊢;clear hb ht hbn htn hr hs hl hE;obtain ⟨W,hW⟩:∃ W,w.alloc (.cells #[.slice ba bn bc,.slice ta tn tc,.int .i64 rv] 74)=W:=⟨_,rfl⟩;have kW:Kept [] w W:=hW▸(Kept.refl _ _).alloc _;have hBW:Blk W w.heap.size 74 #[.slice ba bn bc,.slice ta tn tc,.int .i64 rv]:=hW▸Blk.new _ _ _;have x0:W.cell? ⟨w.heap.size,0,none⟩=some (.slice ba bn bc):=hBW.cell 0;have x1:W.cell? ⟨w.heap.size,1,none⟩=some (.slice ta tn tc):=hBW.cell 1;have x2:W.cell? ⟨w.heap.size,2,none⟩=some (.int .i64 rv):=hBW.cell 2;have HS:=Lib.hid (hv W kW);have HW:=Lib.hid hW;have HK:=Lib.hid kW;clear hv hW kW hBW
 show Calls _ _ #[.agg #[.slice ba bn bc,.slice ta tn tc,.int .i64 rv]] _ _
 go_enter Tryz.func55,Tryz.ntmps55
 go_upto_region 1 with (fail);have hW':=HW.out;rw [hW'];clear hW';go_wp2_with (go_at_call 56;refine HS.out.mono ?_;rintro e w5 ⟨rfl,k5⟩);go_ret;exact ⟨rfl,HK.out.trans k5⟩
set_option maxRecDepth 100000 in
set_option maxHeartbeats 2000000 in
theorem vmK_ix {w:World} {v:Value} {l:List Mb} (q:Mb→Bool) (h:RowOf MbR 3 w v l)
  (hq:∀ a∈l,∀ cs w',Kept [] w w'→MbR w' cs a→Calls Tryz.prog 55 #[.agg cs.toArray] w' fun e w2=>e=.returned (.bool (q a))∧Kept [] w' w2) :
  Calls Tryz.prog 96 #[v,.func (.func 55) #[] #[]] w fun e w'=>e=.returned (.int .i64 (idxV (l.findIdx? q)))∧Kept [] w w':=by
 obtain ⟨sa,sc,rfl,hln,_⟩:=h.form;have HQ:=Lib.hid hq;have HROW:=Lib.hid h;clear hq h
 go_enter Tryz.func96,Tryz.ntmps96
 go_wp2_with fail
 go_loopw [8] (fun v wr=>∃ j:Nat,j≤l.length∧v=.int .i64 j∧Kept [] w wr∧∀ a∈l.take j,q a=false) (fun v _=>l.length - (intOf v).toNat)
 case atStart=>exact ⟨0,Nat.zero_le _,rfl,Kept.refl _ _,by simp⟩
 case round =>
  obtain ⟨j,hj,rfl,hkr,hall⟩:=hrel;have HKR:=Lib.hid hkr;have HALL:=Lib.hid hall;clear hall
  by_cases hlt:j < l.length
  ·have hlt':(j:Int) < (l.length:Int):=by omega
   have hrw:=HROW.out.kept (fun c a hR=>MbR.kept hR hkr) hkr;obtain ⟨b,off,rfl,hc⟩:=hrw.at_ (by omega);obtain ⟨a,hae⟩:∃ a,l[j]?=some a:=⟨_,List.getElem?_eq_getElem hlt⟩;obtain ⟨cq,h1,h2,h3⟩:=hc j a hae;have hcl:=HQ.out a (List.mem_of_getElem? hae) cq wr hkr h2;obtain ⟨r,hr⟩:∃ r,q a=r:=⟨_,rfl⟩;rw [hr] at hcl;have HAE:=Lib.hid hae;have HRR:=Lib.hid hr;clear hc hrw hae hr hkr;have h2':=h2;obtain ⟨vb,vt,rfl,hb1,ht1⟩:=h2';obtain ⟨ba,bc,rfl,_,_⟩:=RowOf.form hb1;obtain ⟨ta,tc,rfl,_,_⟩:=ht1.form;have y0:wr.cell? ⟨b,off+j*3,none⟩=some (.slice ba a.binds.length bc):=h3 0 _ (by decide) rfl;have y1:wr.cell? ⟨b,off+j*3+1,none⟩=some (.slice ta a.tickets.length tc):=h3 1 _ (by decide) rfl;have y2:wr.cell? ⟨b,off+j*3+2,none⟩=some (.int .i64 a.rev):=h3 2 _ (by decide) rfl;have HCL:=Lib.hid hcl;clear h1 h2 h3 hcl
   cases r
   ·go_wp2_with (go_at_call 55;refine HCL.out.mono ?_;rintro e w5 ⟨rfl,k5⟩)
    go_roundw
    case rel =>
     refine ⟨j+1,by omega,by go_num,HKR.out.trans k5,fun x hx=>?_⟩;rw [List.take_add_one,HAE.out] at hx
     rcases List.mem_append.1 hx with hx|hx
     ·exact HALL.out x hx
     ·simp at hx;rw [hx];exact HRR.out
    case measure=>simp [intOf];omega
   ·go_wp2_with (go_at_call 55;refine HCL.out.mono ?_;rintro e w5 ⟨rfl,k5⟩);go_ret;exact ⟨by rw [idx_some HALL.out HAE.out HRR.out];rfl,HKR.out.trans k5⟩
  ·obtain rfl:j=l.length:=by omega
   have hfin:=idx_none (q:=q) (l:=l) (by rw [←List.take_length (l:=l)];exact HALL.out);have HFIN:=Lib.hid hfin;clear hfin;go_wp2_with fail;go_ret;exact ⟨by rw [HFIN.out];rfl,HKR.out⟩
set_option maxRecDepth 100000 in
set_option maxHeartbeats 1000000 in
theorem vmK_any {w:World} {v:Value} {l:List Mb} (q:Mb→Bool) (h:RowOf MbR 3 w v l)
  (hq:∀ a∈l,∀ cs w',Kept [] w w'→MbR w' cs a→Calls Tryz.prog 55 #[.agg cs.toArray] w' fun e w2=>e=.returned (.bool (q a))∧Kept [] w' w2) :
  Calls Tryz.prog 54 #[v,.func (.func 55) #[] #[]] w fun e w'=>e=.returned (.bool (l.any q))∧Kept [] w w':=by
 have HI:=Lib.hid (vmK_ix q h hq);rw [idx_any];obtain ⟨sa,sc,rfl,hln,_⟩:=h.form;clear h hq
 cases ho:l.findIdx? q with
 | none =>
  rw [ho] at HI;have HI2:Hid (Calls Tryz.prog 96 #[.slice sa l.length sc,.func (.func 55) #[] #[]] w fun e w'=>e=.returned (.int .i64 (-1))∧Kept [] w w'):=HI;clear HI ho
  go_enter Tryz.func54,Tryz.ntmps54
  go_wp2_with (go_at_call 96;refine HI2.out.mono ?_;rintro e w5 ⟨rfl,k5⟩);go_ret;exact ⟨rfl,k5⟩
 | some i =>
  rw [ho] at HI;have HI2:Hid (Calls Tryz.prog 96 #[.slice sa l.length sc,.func (.func 55) #[] #[]] w fun e w'=>e=.returned (.int .i64 (i:Int))∧Kept [] w w'):=HI
  have hge:(0:Int)≤(i:Int):=by omega
  clear HI ho
  go_enter Tryz.func54,Tryz.ntmps54
  go_wp2_with (go_at_call 96;refine HI2.out.mono ?_;rintro e w5 ⟨rfl,k5⟩);go_ret;exact ⟨rfl,k5⟩
set_option maxRecDepth 100000 in
set_option maxHeartbeats 2000000 in
theorem v3_any {w:World} {b:Nat} {nq nm nu qc mc uc:Nat} {qa ma ua:Option Addr} {cs:List Value} {x:Sn} (hb:Blk w b 67 #[.slice qa nq qc,.slice ma nm mc,.slice ua nu uc]) (hx:SnR w cs x) (hq:nq≤1000000) (hm:nm≤1000000) :
  Calls Tryz.prog 58 #[.agg cs.toArray,.pointer (some ⟨b,0,none⟩)] w fun e w'=>e=.returned (.bool (!useB nq nm x))∧Kept [] w w':=by
 unfold SnR at hx
 subst hx;have hv:=fun (w':World)=>validUse_any nq nm nu qc mc uc qa ma ua x w' hq hm;obtain ⟨r,hr⟩:∃ r,useB nq nm x=r:=⟨_,rfl⟩;rw [hr] at hv ⊢;obtain ⟨s0,s1,s2,s3⟩:=x
 dsimp only at hv ⊢
 clear hq hm hr;obtain ⟨W,hW⟩:∃ W,w.alloc (.cells #[.int .i64 s0,.int .i64 s1,.int .i64 s2,.int .i64 s3] 84)=W:=⟨_,rfl⟩;have kW:Kept [] w W:=hW▸(Kept.refl _ _).alloc _;have hBW:Blk W w.heap.size 84 #[.int .i64 s0,.int .i64 s1,.int .i64 s2,.int .i64 s3]:=hW▸Blk.new _ _ _;have x0:W.cell? ⟨w.heap.size,0,none⟩=some (.int .i64 s0):=hBW.cell 0;have x1:W.cell? ⟨w.heap.size,1,none⟩=some (.int .i64 s1):=hBW.cell 1;have x2:W.cell? ⟨w.heap.size,2,none⟩=some (.int .i64 s2):=hBW.cell 2;have x3:W.cell? ⟨w.heap.size,3,none⟩=some (.int .i64 s3):=hBW.cell 3;have hbW:=hb.kept kW (by simp);have u0:W.cell? ⟨b,0,none⟩=some (.slice qa nq qc):=hbW.cell 0;have u1:W.cell? ⟨b,1,none⟩=some (.slice ma nm mc):=hbW.cell 1;have u2:W.cell? ⟨b,2,none⟩=some (.slice ua nu uc):=hbW.cell 2;have HS:=Lib.hid (hv W);have HW:=Lib.hid hW;have HK:=Lib.hid kW;clear hv hW kW hBW hbW hb
 show Calls _ _ #[.agg #[.int .i64 s0,.int .i64 s1,.int .i64 s2,.int .i64 s3],.pointer (some ⟨b,0,none⟩)] _ _
 go_enter Tryz.func58,Tryz.ntmps58
 go_upto_region 1 with (fail);have hW':=HW.out;rw [hW'];clear hW';go_wp2_with (go_at_call 59;refine HS.out.mono ?_;rintro e w5 ⟨rfl,k5⟩);go_ret;exact ⟨rfl,HK.out.trans k5⟩
set_option maxRecDepth 100000 in
set_option maxHeartbeats 2000000 in
theorem vuK_ix {cb:Nat} {w:World} {v:Value} {l:List Sn} (q:Sn→Bool) (h:RowOf SnR 4 w v l)
  (hq:∀ a∈l,∀ cs w',Kept [] w w'→SnR w' cs a→Calls Tryz.prog 58 #[.agg cs.toArray,.pointer (some ⟨cb,0,none⟩)] w' fun e w2=>e=.returned (.bool (q a))∧Kept [] w' w2) :
  Calls Tryz.prog 101 #[v,.func (.func 58) #[] #[.pointer (some ⟨cb,0,none⟩)]] w fun e w'=>e=.returned (.int .i64 (idxV (l.findIdx? q)))∧Kept [] w w':=by
 obtain ⟨sa,sc,rfl,hln,_⟩:=h.form;have HQ:=Lib.hid hq;have HROW:=Lib.hid h;clear hq h
 go_enter Tryz.func101,Tryz.ntmps101
 go_wp2_with fail
 go_loopw [8] (fun v wr=>∃ j:Nat,j≤l.length∧v=.int .i64 j∧Kept [] w wr∧∀ a∈l.take j,q a=false) (fun v _=>l.length - (intOf v).toNat)
 case atStart=>exact ⟨0,Nat.zero_le _,rfl,Kept.refl _ _,by simp⟩
 case round =>
  obtain ⟨j,hj,rfl,hkr,hall⟩:=hrel;have HKR:=Lib.hid hkr;have HALL:=Lib.hid hall;clear hall
  by_cases hlt:j < l.length
  ·have hlt':(j:Int) < (l.length:Int):=by omega
   have hrw:=HROW.out.kept (fun c a hR=>(show SnR wr c a from hR)) hkr;obtain ⟨b,off,rfl,hc⟩:=hrw.at_ (by omega);obtain ⟨a,hae⟩:∃ a,l[j]?=some a:=⟨_,List.getElem?_eq_getElem hlt⟩;obtain ⟨cq,h1,h2,h3⟩:=hc j a hae;have hcl:=HQ.out a (List.mem_of_getElem? hae) cq wr hkr h2;obtain ⟨r,hr⟩:∃ r,q a=r:=⟨_,rfl⟩;rw [hr] at hcl;have HAE:=Lib.hid hae;have HRR:=Lib.hid hr;clear hc hrw hae hr hkr;have h2':=h2
   unfold SnR at h2'
   subst h2';have y0:wr.cell? ⟨b,off+j*4,none⟩=some (.int .i64 a.q):=h3 0 _ (by decide) rfl;have y1:wr.cell? ⟨b,off+j*4+1,none⟩=some (.int .i64 a.win):=h3 1 _ (by decide) rfl;have y2:wr.cell? ⟨b,off+j*4+2,none⟩=some (.int .i64 a.asof):=h3 2 _ (by decide) rfl;have y3:wr.cell? ⟨b,off+j*4+3,none⟩=some (.int .i64 a.hold):=h3 3 _ (by decide) rfl;have HCL:=Lib.hid hcl;clear h1 h2 h3 hcl
   cases r
   ·go_wp2_with (go_at_call 58;refine HCL.out.mono ?_;rintro e w5 ⟨rfl,k5⟩)
    go_roundw
    case rel =>
     refine ⟨j+1,by omega,by go_num,HKR.out.trans k5,fun x hx=>?_⟩;rw [List.take_add_one,HAE.out] at hx
     rcases List.mem_append.1 hx with hx|hx
     ·exact HALL.out x hx
     ·simp at hx;rw [hx];exact HRR.out
    case measure=>simp [intOf];omega
   ·go_wp2_with (go_at_call 58;refine HCL.out.mono ?_;rintro e w5 ⟨rfl,k5⟩);go_ret;exact ⟨by rw [idx_some HALL.out HAE.out HRR.out];rfl,HKR.out.trans k5⟩
  ·obtain rfl:j=l.length:=by omega
   have hfin:=idx_none (q:=q) (l:=l) (by rw [←List.take_length (l:=l)];exact HALL.out);have HFIN:=Lib.hid hfin;clear hfin;go_wp2_with fail;go_ret;exact ⟨by rw [HFIN.out];rfl,HKR.out⟩
set_option maxRecDepth 100000 in
set_option maxHeartbeats 1000000 in
theorem vuK_any {cb:Nat} {w:World} {v:Value} {l:List Sn} (q:Sn→Bool) (h:RowOf SnR 4 w v l)
  (hq:∀ a∈l,∀ cs w',Kept [] w w'→SnR w' cs a→Calls Tryz.prog 58 #[.agg cs.toArray,.pointer (some ⟨cb,0,none⟩)] w' fun e w2=>e=.returned (.bool (q a))∧Kept [] w' w2) :
  Calls Tryz.prog 57 #[v,.func (.func 58) #[] #[.pointer (some ⟨cb,0,none⟩)]] w fun e w'=>e=.returned (.bool (l.any q))∧Kept [] w w':=by
 have HI:=Lib.hid (vuK_ix q h hq);rw [idx_any];obtain ⟨sa,sc,rfl,hln,_⟩:=h.form;clear h hq
 cases ho:l.findIdx? q with
 | none =>
  rw [ho] at HI;have HI2:Hid (Calls Tryz.prog 101 #[.slice sa l.length sc,.func (.func 58) #[] #[.pointer (some ⟨cb,0,none⟩)]] w fun e w'=>e=.returned (.int .i64 (-1))∧Kept [] w w'):=HI;clear HI ho
  go_enter Tryz.func57,Tryz.ntmps57
  go_wp2_with (go_at_call 101;refine HI2.out.mono ?_;rintro e w5 ⟨rfl,k5⟩);go_ret;exact ⟨rfl,k5⟩
 | some i =>
  rw [ho] at HI;have HI2:Hid (Calls Tryz.prog 101 #[.slice sa l.length sc,.func (.func 58) #[] #[.pointer (some ⟨cb,0,none⟩)]] w fun e w'=>e=.returned (.int .i64 (i:Int))∧Kept [] w w'):=HI
  have hge:(0:Int)≤(i:Int):=by omega
  clear HI ho
  go_enter Tryz.func57,Tryz.ntmps57
  go_wp2_with (go_at_call 101;refine HI2.out.mono ?_;rintro e w5 ⟨rfl,k5⟩);go_ret;exact ⟨rfl,k5⟩
end Go.Proofs.YtpcmamoomaddoaaGreatDoor
