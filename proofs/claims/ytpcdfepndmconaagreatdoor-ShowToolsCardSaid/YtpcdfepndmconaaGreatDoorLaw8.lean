/- The law on the tools of showings: ShowTools. -/
import Derived.Test.YtpcdfepndmconaaGreatDoorOpr
import Derived.Test.YtpcdfepndmconaaGreatDoorDlr
import Derived.Test.YtpcdfepndmconaaGreatDoorDlp
import Derived.Test.YtpcdfepndmconaaGreatDoorIvu
import Derived.Test.YtpcdfepndmconaaGreatDoorWtn
import Derived.Test.YtpcdfepndmconaaGreatDoorEncQ
import Derived.Test.YtpcdfepndmconaaGreatDoorDec
import Derived.Test.YtpcdfepndmconaaGreatDoorDecQ
import Derived.Test.YtpcdfepndmconaaGreatDoorSameT
import Derived.Test.YtpcdfepndmconaaGreatDoorPts
import Derived.Test.YtpcdfepndmconaaGreatDoorLsx
import Derived.Test.YtpcdfepndmconaaGreatDoorBnd
namespace Go.Proofs.YtpcdfepndmconaaGreatDoor
open Go.RowKit Tape
set_option maxHeartbeats 400000 in
theorem rfewSetup_any (v:Value) (s:Stp) (w:World) (h:StpV w v s):Calls Tryz.prog 27 #[v] w fun e w'=>e=.returned (.bool (decide (s.bases.length≤9)))∧Kept [] w w':=by
 obtain ⟨⟨ad,sc,rfl,hsr⟩,_,_,_,_,_⟩:=h;obtain ⟨_,hl,_,_,_,_,_⟩:=hsr;obtain ⟨n,hn⟩:∃ n,s.bases.length=n:=⟨_,rfl⟩;have HN:=Lib.hid hn
 unfold stpA
 rw [hn] at hl ⊢;clear hn
 by_cases h9:n≤9
 ·have hd:decide (n≤9)=true:=by simp [h9]
  rw [hd]
  go_enter Tryz.func27,Tryz.ntmps27
  go_wp2;go_ret;exact ⟨by simp;omega,(Kept.refl _ _).alloc _⟩
 ·have hd:decide (n≤9)=false:=by simp [h9]
  rw [hd]
  go_enter Tryz.func27,Tryz.ntmps27
  go_wp2;go_ret;exact ⟨by simp;omega,(Kept.refl _ _).alloc _⟩
/-- Deal's answer, spelled -/
def DealS (E P:List Int) (n:Nat) (ok:Bool) (w:World) (e:Ending) (w':World):Prop :=
 ∃ ae ce ap cp,e=.returned (.tuple #[.slice ae E.length ce,.slice ap n cp,.bool ok])∧Row w' 1 (.slice ae E.length ce) E.length (ints E)∧Row w' 3 (.slice ap n cp) n (ints P)∧Kept [] w w'
theorem row_none (m:Nat) (w:World):Row w m (.slice none 0 0) 0 (ints []):=⟨by simp [ints],by omega,none,0,rfl,by simp,fun h=>absurd h (by simp)⟩
theorem deal_form (s:Stp) (number blind:Int) (shares masks:List Int) (jurors:Int):∃ E P n ok,∀ (f:FuncId) (args:Array Value) (w:World),Calls Tryz.prog f args w (DealQ s number blind shares masks jurors w)→Calls Tryz.prog f args w (DealS E P n ok w):=by
 cases hB:dealB s number blind shares masks jurors
 ·refine ⟨[],[],0,false,fun f args w hc=>hc.mono fun e w' hq=>?_⟩;obtain ⟨k,⟨_,rfl⟩|⟨h,_⟩⟩:=hq
  ·exact ⟨none,0,none,0,rfl,row_none 1 w',row_none 3 w',k⟩
  ·rw [hB] at h;cases h
 ·refine ⟨escZ s s.Q.toNat shares masks,ptsZ s.Q.toNat (number::shares) (blind::masks) jurors.toNat,jurors.toNat,true,fun f args w hc=>hc.mono fun e w' hq=>?_⟩;obtain ⟨k,⟨h,_⟩|⟨_,ve,vp,rfl,h1,h2⟩⟩:=hq
  ·rw [hB] at h;cases h
  ·have hl:(escZ s s.Q.toNat shares masks).length=shares.length:=by have:=h1.1;simpa [ints] using this
   rw [←hl] at h1;obtain ⟨ae,ce,rfl,_,_⟩:=h1.form;obtain ⟨ap,cp,rfl,_,_⟩:=h2.form;exact ⟨ae,ce,ap,cp,rfl,h1,h2,k⟩
/-- Open's answer, spelled -/
def OpenS (s:Stp) (commit:Int) (esc:List Int) (pts:List Pnt3) (w:World) (e:Ending) (w':World):Prop:=∃ a b c,OpenR s commit esc pts (a,b,c)∧e=.returned (.tuple #[.int .i64 a,.int .i64 b,.int .i64 c])∧Kept [] w w'
theorem open_form {f:FuncId} {args:Array Value} {s:Stp} {commit:Int} {esc:List Int} {pts:List Pnt3} {w:World} (hc:Calls Tryz.prog f args w (OpenQ s commit esc pts w)):Calls Tryz.prog f args w (OpenS s commit esc pts w) :=
 hc.mono fun _ _ ⟨⟨⟨a,b,c⟩,h1,h2⟩,k⟩=>⟨a,b,c,h1,h2,k⟩
/-- Encode's answer, spelled -/
theorem encRes_form (r:Rec):∃ (e:List UInt8) (b:Bool),encRes r=.tuple #[.string ⟨e.toArray⟩,.bool b]:=by
 unfold encRes
 split
 ·exact ⟨_,_,rfl⟩
 ·exact ⟨[],false,rfl⟩
/-- Decode's answer, spelled -/
def DecS (c:Rec) (ok:Bool) (w:World) (e:Ending) (w':World):Prop :=
 ∃ u0 uc0 u1 uc1 u2 uc2 u3 uc3 u4 uc4 u5 uc5 u6 uc6 u7 uc7 u8 uc8,e=.returned (.tuple #[.agg #[.slice u0 c.tickets.length uc0,.slice u1 c.spends.length uc1,.slice u2 c.links.length uc2,.slice u3 c.commits.length uc3,.slice u4 c.chain.length uc4,.slice u5 c.bits.length uc5,.slice u6 c.escrow.length uc6,.slice u7 c.proof.dares.length uc7,.slice u8 c.proof.answers.length uc8],.bool ok])∧RecV w' (.agg #[.slice u0 c.tickets.length uc0,.slice u1 c.spends.length uc1,.slice u2 c.links.length uc2,.slice u3 c.commits.length uc3,.slice u4 c.chain.length uc4,.slice u5 c.bits.length uc5,.slice u6 c.escrow.length uc6,.slice u7 c.proof.dares.length uc7,.slice u8 c.proof.answers.length uc8]) c∧Kept [] w w'
theorem dec_form {f:FuncId} {args:Array Value} {c:Rec} {ok:Bool} {w:World} (hc:Calls Tryz.prog f args w (DecRet (c,ok) w)):Calls Tryz.prog f args w (DecS c ok w) :=
 hc.mono fun _ _ ⟨v,he,⟨tk,sp,lk,cm,ch,bt,es,da,an,hv,hr⟩,k⟩=>by
  subst hv;have hr':=hr;obtain ⟨htk,hsp,hlk,hcm,hch,hbt,hes,hda,han⟩:=hr;obtain ⟨u0,uc0,rfl,_,_⟩:=htk.form;obtain ⟨u1,uc1,rfl,_,_⟩:=hsp.form;obtain ⟨u2,uc2,rfl,_,_⟩:=hlk.form;obtain ⟨u3,uc3,rfl,_,_⟩:=hcm.form;obtain ⟨u4,uc4,rfl,_,_⟩:=hch.form;obtain ⟨u5,uc5,rfl,_,_⟩:=hbt.form;obtain ⟨u6,uc6,rfl,_,_⟩:=hes.form;obtain ⟨u7,uc7,rfl,_,_⟩:=hda.form;obtain ⟨u8,uc8,rfl,_,_⟩:=han.form;exact ⟨u0,uc0,u1,uc1,u2,uc2,u3,uc3,u4,uc4,u5,uc5,u6,uc6,u7,uc7,u8,uc8,he,⟨_,_,_,_,_,_,_,_,_,rfl,hr'⟩,k⟩
set_option maxRecDepth 100000 in
set_option maxHeartbeats 16000000 in
theorem law8_any (vs va vb vp tk sp lk cm ch bt es da an:Value) (s:Stp) (a b:List Int) (pts:List Pnt3) (r:Rec) (tx:List UInt8) (x y z:Int) (w:World)
  (hs:StpV w vs s) (ha:Row w 1 va a.length (ints a)) (hb:Row w 1 vb b.length (ints b)) (hp:Row w 3 vp pts.length (ints (flatP pts))) (hr:RecS w tk sp lk cm ch bt es da an r)
  (hri:RecI r) (ia:AllI a) (ib:AllI b) (ip:∀ p∈pts,Wire.I64 p.1∧Wire.I64 p.2.1∧Wire.I64 p.2.2) (ix:Wire.I64 x) (iy:Wire.I64 y) (iz:Wire.I64 z) (hE:Env2 w)
  (hrl:∀ l∈r.links,∀ x∈l,x.2.length≤9223372036854775807) (htl:tx.length≤9223372036854775807) :
  Calls Tryz.prog 4 #[vs,.int .i64 x,.int .i64 y,.int .i64 z,va,vb,vp,.agg #[tk,sp,lk,cm,ch,bt,es,da,an],.string ⟨tx.toArray⟩] w fun e w'=>e=.returned (.bool true)∧Kept [] w w':=by
 have hs':=hs;obtain ⟨⟨ad,sc,rfl,hsr⟩,_,_,_,_,_⟩:=hs';obtain ⟨aa,ca,rfl,hal,_⟩:=ha.form;obtain ⟨ab,cb,rfl,hbl,_⟩:=hb.form;obtain ⟨ap,cp,rfl,hpl,_⟩:=hp.form;have hr':=hr;obtain ⟨htk,hsp,hlk,hcm,hch,hbt,hes,hda,han⟩:=hr';obtain ⟨s0,d0,rfl,_,_⟩:=htk.form;obtain ⟨s1,d1,rfl,_,_⟩:=hsp.form;obtain ⟨s2,d2,rfl,_,_⟩:=hlk.form;obtain ⟨s3,d3,rfl,_,_⟩:=hcm.form;obtain ⟨s4,d4,rfl,_,_⟩:=hch.form;obtain ⟨s5,d5,rfl,_,_⟩:=hbt.form;obtain ⟨s6,d6,rfl,_,_⟩:=hes.form;obtain ⟨s7,d7,rfl,_,_⟩:=hda.form;obtain ⟨s8,d8,rfl,_,_⟩:=han.form;clear htk hsp hlk hcm hch hbt hes hda han hsr;obtain ⟨bS,hbS⟩:∃ q,w.heap.size=q:=⟨_,rfl⟩;obtain ⟨W1,hW1⟩:∃ W,w.alloc (.cells #[.int .i64 s.P,.int .i64 s.Q,.int .i64 s.G,.slice ad s.bases.length sc,.int .i64 s.blind] 26)=W:=⟨_,rfl⟩
 have hB1:Blk W1 bS 26 #[.int .i64 s.P,.int .i64 s.Q,.int .i64 s.G,.slice ad s.bases.length sc,.int .i64 s.blind]:=by rw [←hbS,←hW1];exact Blk.new _ _ _
 have hk1:Kept [] w W1:=hW1▸(Kept.refl _ _).alloc _;obtain ⟨bR,hbR⟩:∃ q,W1.heap.size=q:=⟨_,rfl⟩;obtain ⟨W,hW⟩:∃ W,W1.alloc (.cells #[.slice s0 r.tickets.length d0,.slice s1 r.spends.length d1,.slice s2 r.links.length d2,.slice s3 r.commits.length d3,.slice s4 r.chain.length d4,.slice s5 r.bits.length d5,.slice s6 r.escrow.length d6,.slice s7 r.proof.dares.length d7,.slice s8 r.proof.answers.length d8] 67)=W:=⟨_,rfl⟩
 have hB2:Blk W bR 67 #[.slice s0 r.tickets.length d0,.slice s1 r.spends.length d1,.slice s2 r.links.length d2,.slice s3 r.commits.length d3,.slice s4 r.chain.length d4,.slice s5 r.bits.length d5,.slice s6 r.escrow.length d6,.slice s7 r.proof.dares.length d7,.slice s8 r.proof.answers.length d8]:=by rw [←hbR,←hW];exact Blk.new _ _ _
 have hkW:Kept [] W1 W:=hW▸(Kept.refl _ _).alloc _;have hkk:Kept [] w W:=hk1.trans hkW;have HBS:=Lib.hid (hB1.kept hkW (by simp));have HBR:=Lib.hid hB2;have HS:Hid (∀ u,Kept [] W u→StpV u (.agg (stpA s (.slice ad s.bases.length sc))) s):=fun u k=>hs.kept (hkk.trans k);have HA:Hid (∀ u,Kept [] W u→Row u 1 (.slice aa a.length ca) a.length (ints a)):=fun u k=>ha.kept (hkk.trans k);have HB:Hid (∀ u,Kept [] W u→Row u 1 (.slice ab b.length cb) b.length (ints b)):=fun u k=>hb.kept (hkk.trans k);have HP:Hid (∀ u,Kept [] W u→Row u 3 (.slice ap pts.length cp) pts.length (ints (flatP pts))):=fun u k=>hp.kept (hkk.trans k);have HR:Hid (∀ u,Kept [] W u→RecS u (.slice s0 r.tickets.length d0) (.slice s1 r.spends.length d1) (.slice s2 r.links.length d2) (.slice s3 r.commits.length d3) (.slice s4 r.chain.length d4) (.slice s5 r.bits.length d5) (.slice s6 r.escrow.length d6) (.slice s7 r.proof.dares.length d7) (.slice s8 r.proof.answers.length d8) r):=fun u k=>hr.kept (hkk.trans k);have HE:Hid (∀ u,Kept [] W u→Env2 u):=fun u k=>hE.kept0 (hkk.trans k);have HRI:=Lib.hid hri;have HIA:=Lib.hid ia;have HIB:=Lib.hid ib;have HIP:=Lib.hid ip;have HRL:=Lib.hid hrl;have HKK:=Lib.hid hkk;have HW1:=Lib.hid hW1;have HW:=Lib.hid hW;have HbS:=Lib.hid hbS
 have HbR:Hid (bS+1=bR):=by show _=_;rw [←hbR,←hW1,←hbS];simp
 clear hs ha hb hp hr hri ia ib ip hrl hkk hW1 hW hbS hbR hB1 hB2 hk1 hkW hE
 go_enter Tryz.func4,Tryz.ntmps4
 go_upto_region 1 with (fail);rw [show w.alloc (.cells #[.int .i64 s.P,.int .i64 s.Q,.int .i64 s.G,.slice ad s.bases.length sc,.int .i64 s.blind] 26)=W1 from HW1.out,show W1.alloc (.cells #[.slice s0 r.tickets.length d0,.slice s1 r.spends.length d1,.slice s2 r.links.length d2,.slice s3 r.commits.length d3,.slice s4 r.chain.length d4,.slice s5 r.bits.length d5,.slice s6 r.escrow.length d6,.slice s7 r.proof.dares.length d7,.slice s8 r.proof.answers.length d8] 67)=W from HW.out,HbS.out,show bS+1=bR from HbR.out];have HL:=Lib.hid (lessx_any W (HE.out W (Kept.refl _ _)));go_upto_region 2 with (go_at_call 26;refine HL.out.mono ?_;rintro e w1 ⟨rfl,k1⟩);have hbs:=HBS.out.kept k1 (by simp);have q0:w1.cell? ⟨bS,0,none⟩=some (.int .i64 s.P):=hbs.cell 0;have q1:w1.cell? ⟨bS,1,none⟩=some (.int .i64 s.Q):=hbs.cell 1;have q2:w1.cell? ⟨bS,2,none⟩=some (.int .i64 s.G):=hbs.cell 2;have q3:w1.cell? ⟨bS,3,none⟩=some (.slice ad s.bases.length sc):=hbs.cell 3;have q4:w1.cell? ⟨bS,4,none⟩=some (.int .i64 s.blind):=hbs.cell 4;clear hbs;have HFS:=Lib.hid (rfewSetup_any _ s w1 (HS.out w1 k1));obtain ⟨bn,hbn⟩:∃ n,s.bases.length=n:=⟨_,rfl⟩
 by_cases c1:s.bases.length≤9
 rotate_left
 ·rw [decide_eq_false c1] at HFS;clear c1 hbn;go_wp2_with (go_at_call 27;refine HFS.out.mono ?_;rintro e w2 ⟨rfl,k2⟩);go_ret;exact ⟨rfl,HKK.out.trans (k1.trans k2)⟩
 rw [decide_eq_true c1] at HFS;clear hbn
 by_cases c2:a.length≤20
 rotate_left
 ·skip
  go_wp2_with (go_at_call 27;refine HFS.out.mono ?_;rintro e w2 ⟨rfl,k2⟩);go_ret;exact ⟨rfl,HKK.out.trans (k1.trans k2)⟩
 by_cases c3:b.length≤20
 rotate_left
 ·skip
  go_wp2_with (go_at_call 27;refine HFS.out.mono ?_;rintro e w2 ⟨rfl,k2⟩);go_ret;exact ⟨rfl,HKK.out.trans (k1.trans k2)⟩
 by_cases c4:pts.length≤15
 rotate_left
 ·skip
  go_wp2_with (go_at_call 27;refine HFS.out.mono ?_;rintro e w2 ⟨rfl,k2⟩);go_ret;exact ⟨rfl,HKK.out.trans (k1.trans k2)⟩
 go_wp2_with (go_at_call 27;refine HFS.out.mono ?_;rintro e w2 ⟨rfl,k2⟩;have k12:=k1.trans k2;have hbr:=HBR.out.kept k12 (by simp);have p0:w2.cell? ⟨bR,0,none⟩=some (.slice s0 r.tickets.length d0):=hbr.cell 0;have p1:w2.cell? ⟨bR,1,none⟩=some (.slice s1 r.spends.length d1):=hbr.cell 1;have p2:w2.cell? ⟨bR,2,none⟩=some (.slice s2 r.links.length d2):=hbr.cell 2;have p3:w2.cell? ⟨bR,3,none⟩=some (.slice s3 r.commits.length d3):=hbr.cell 3;have p4:w2.cell? ⟨bR,4,none⟩=some (.slice s4 r.chain.length d4):=hbr.cell 4;have p5:w2.cell? ⟨bR,5,none⟩=some (.slice s5 r.bits.length d5):=hbr.cell 5;have p6:w2.cell? ⟨bR,6,none⟩=some (.slice s6 r.escrow.length d6):=hbr.cell 6;have p7:w2.cell? ⟨bR,7,none⟩=some (.slice s7 r.proof.dares.length d7):=hbr.cell 7;have p8:w2.cell? ⟨bR,8,none⟩=some (.slice s8 r.proof.answers.length d8):=hbr.cell 8;clear hbr);clear q0 q1 q2 q3 q4 HFS k2;have HFR:=Lib.hid (fewRecord_any _ r w2 ⟨_,_,_,_,_,_,_,_,_,rfl,HR.out w2 k12⟩ HRL.out);go_wp2_with (go_at_call 28;refine HFR.out.mono ?_);rintro e w3 ⟨fb,rfl,hfb,k3⟩;have k13:=k12.trans k3;have HFB:=Lib.hid hfb;clear p0 p1 p2 p3 p4 p5 p6 p7 p8 HFR k3 hfb
 cases fb
 ·clear HFB;go_wp2_with fail;go_ret;exact ⟨rfl,HKK.out.trans k13⟩
 have HFW:=Lib.hid (HFB.out rfl)
 by_cases c6:tx.length≤600
 rotate_left
 ·go_wp2_with fail;go_ret;exact ⟨rfl,HKK.out.trans k13⟩
 have HEB:=Lib.hid (encB_of HRI.out HFW.out);clear HFB HFW;go_upto_region 4 with (fail);obtain ⟨wd,hwd⟩:∃ v,widthZ x=v:=⟨_,rfl⟩;have HD1:Hid (∀ w,Calls Tryz.prog 29 #[.int .i64 x] w fun e w'=>e=.returned (.int .i64 wd)∧w=w'):=fun w=>hwd▸width_show x w;have HD2:Hid (∀ w,Calls Tryz.prog 30 #[.int .i64 x] w fun e w'=>e=.returned (.int .i64 wd)∧w=w'):=fun w=>hwd▸width_ref x w;obtain ⟨wt,hwt⟩:∃ v,witZ x y a=v:=⟨_,rfl⟩;have HD3:Hid (∀ u,Kept [] W u→Calls Tryz.prog 31 #[.int .i64 x,.int .i64 y,.slice aa a.length ca] u fun e w'=>e=.returned (.int .i64 wt)∧Kept [] u w'):=fun u k=>hwt▸witness_show x y _ a u (HA.out u k) HIA.out iy;have HD4:Hid (∀ u,Kept [] W u→Calls Tryz.prog 32 #[.int .i64 x,.int .i64 y,.slice aa a.length ca] u fun e w'=>e=.returned (.int .i64 wt)∧Kept [] u w'):=fun u k=>hwt▸witness_ref x y _ a u (HA.out u k) HIA.out iy;obtain ⟨ud,hud⟩:∃ v,updZ x z y a=v:=⟨_,rfl⟩;have HD5:Hid (∀ u,Kept [] W u→Calls Tryz.prog 33 #[.int .i64 x,.int .i64 z,.int .i64 y,.slice aa a.length ca] u fun e w'=>e=.returned (.int .i64 ud)∧Kept [] u w'):=fun u k=>hud▸update_show x z y _ a u (HA.out u k) HIA.out iy iz;have HD6:Hid (∀ u,Kept [] W u→Calls Tryz.prog 34 #[.int .i64 x,.int .i64 z,.int .i64 y,.slice aa a.length ca] u fun e w'=>e=.returned (.int .i64 ud)∧Kept [] u w'):=fun u k=>hud▸update_ref x z y _ a u (HA.out u k) HIA.out iy iz;clear hwd hwt hud
 have e1:(wd != wd)=false:=by simp
 have e2:(wt != wt)=false:=by simp
 have e3:(ud != ud)=false:=by simp
 go_wp2_with (go_at_call 29;refine (HD1.out _).mono ?_;rintro e v1 ⟨rfl,rfl⟩)
 go_wp2_with (first
  | (go_at_call 30;refine (HD2.out _).mono ?_;rintro e v2 ⟨rfl,rfl⟩)
  | (go_at_call 31;refine (HD3.out _ k13).mono ?_))
 rintro e w4 ⟨rfl,k4⟩;have k14:=k13.trans k4;go_wp2_with (go_at_call 32;refine (HD4.out _ k14).mono ?_);rintro e w5 ⟨rfl,k5⟩;have k15:=k14.trans k5;go_wp2_with (go_at_call 33;refine (HD5.out _ k15).mono ?_);rintro e w6 ⟨rfl,k6⟩;have k16:=k15.trans k6;go_wp2_with (go_at_call 34;refine (HD6.out _ k16).mono ?_);rintro e w7 ⟨rfl,k7⟩;have k17:=k16.trans k7;clear HD1 HD2 HD3 HD4 HD5 HD6 k4 k5 k6 k7 k12 k13 k14 k15 k16 k1;obtain ⟨E,P,dn,dk,hdeal⟩:=deal_form s x y a b z;have HDL:=Lib.hid hdeal;clear hdeal;have hbs:=HBS.out.kept k17 (by simp);have q0:w7.cell? ⟨bS,0,none⟩=some (.int .i64 s.P):=hbs.cell 0;have q1:w7.cell? ⟨bS,1,none⟩=some (.int .i64 s.Q):=hbs.cell 1;have q2:w7.cell? ⟨bS,2,none⟩=some (.int .i64 s.G):=hbs.cell 2;have q3:w7.cell? ⟨bS,3,none⟩=some (.slice ad s.bases.length sc):=hbs.cell 3;have q4:w7.cell? ⟨bS,4,none⟩=some (.int .i64 s.blind):=hbs.cell 4;clear hbs;have HDP:=Lib.hid (HDL.out _ _ _ (deal_any s _ _ _ x y a b z w7 (HS.out w7 k17) (HA.out w7 k17) (HB.out w7 k17) (by omega) HIA.out HIB.out ix iy iz (HE.out w7 k17)));go_wp2_with (go_at_call 35;refine HDP.out.mono ?_);rintro e w8 ⟨ae,ce,ap1,cp1,rfl,re1,rp1,k8⟩;have k18:=k17.trans k8;have RE1:=Lib.hid re1;have RP1:=Lib.hid rp1;clear q0 q1 q2 q3 q4 HDP re1 rp1 k8;go_upto_region 7 with (fail);have hbs:=HBS.out.kept k18 (by simp);have q0:w8.cell? ⟨bS,0,none⟩=some (.int .i64 s.P):=hbs.cell 0;have q1:w8.cell? ⟨bS,1,none⟩=some (.int .i64 s.Q):=hbs.cell 1;have q2:w8.cell? ⟨bS,2,none⟩=some (.int .i64 s.G):=hbs.cell 2;have q3:w8.cell? ⟨bS,3,none⟩=some (.slice ad s.bases.length sc):=hbs.cell 3
 have q4:w8.cell? ⟨bS,4,none⟩=some (.int .i64 s.blind):=hbs.cell 4;clear hbs;have HDR:=Lib.hid (HDL.out _ _ _ (rdeal_any s _ _ _ x y a b z w8 (HS.out w8 k18) (HA.out w8 k18) (HB.out w8 k18) (by omega) HIA.out HIB.out ix iy iz));go_wp2_with (go_at_call 36;refine HDR.out.mono ?_);rintro e w9 ⟨af,cf,ap2,cp2,rfl,re2,rp2,k9⟩;have k19:=k18.trans k9
 have HSI:Hid (Calls Tryz.prog 37 #[.slice ae E.length ce,.slice af E.length cf] w9 fun e w'=>e=.returned (.bool true)∧Kept [] w9 w'):=by
  have:=sameInts_any _ _ E E w9 (RE1.out.kept k9) re2;rw [decide_eq_true (rfl:E=E)] at this;exact this
 have HSP:Hid (∀ u,Kept [] w9 u→Calls Tryz.prog 38 #[.slice ap1 dn cp1,.slice ap2 dn cp2] u fun e w'=>e=.returned (.bool true)∧Kept [] u w'):=fun u k=>by
  have:=samePoints_any _ _ dn dn P P u (RP1.out.kept (k9.trans k)) (rp2.kept k);rw [decide_eq_true (rfl:P=P)] at this;exact this
 clear q0 q1 q2 q3 q4 HDR HDL re2 rp2 RE1 RP1 k9;go_upto_region 8 with (fail)
 have e4:(dk != dk)=false:=by simp
 go_wp2_with (go_at_call 37;refine HSI.out.mono ?_);rintro e w10 ⟨rfl,k10⟩;go_wp2_with (go_at_call 38;refine (HSP.out _ k10).mono ?_);rintro e w11 ⟨rfl,k11⟩;have k111:=k19.trans (k10.trans k11);clear HSI HSP k10 k11 k17 k18 k19 e4;go_wp2_with fail
 go_loopw [26] (fun vi wr=>∃ k:Nat,k≤pts.length∧vi=.int .i64 k∧Kept [] W wr) (fun vi _=>pts.length - (intOf vi).toNat)
 case atStart=>exact ⟨0,Nat.zero_le _,rfl,k111⟩
 case round =>
  obtain ⟨k,hk,rfl,kr⟩:=hrel
  by_cases hlt:k < pts.length
  ·obtain ⟨pb,po,hpa,hcell⟩:=(HP.out wr kr).at_ (by omega);obtain ⟨f1,f2,f3⟩:=flatP_get pts k hlt;have hpk:=HIP.out pts[k] (List.getElem_mem hlt);obtain ⟨pk,hpk'⟩:∃ p,pts[k]=p:=⟨_,rfl⟩;rw [hpk'] at f1 f2 f3 hpk;obtain ⟨pj,psh,pm⟩:=pk;have g1:wr.cell? ⟨pb,po+k*3,none⟩=some (.int .i64 pj):=hcell _ _ (by simp [ints,f1])
   have g2:wr.cell? ⟨pb,po+k*3+1,none⟩=some (.int .i64 psh):=by have:=hcell (k*3+1) (.int .i64 psh) (by simp [ints,f2]);rwa [←Nat.add_assoc] at this
   have g3:wr.cell? ⟨pb,po+k*3+2,none⟩=some (.int .i64 pm):=by have:=hcell (k*3+2) (.int .i64 pm) (by simp [ints,f3]);rwa [←Nat.add_assoc] at this
   subst hpa;obtain ⟨ck,hck⟩:∃ v,chkZ s x a pj psh pm=v:=⟨_,rfl⟩
   have HK1:Hid (∀ u,Kept [] wr u→Calls Tryz.prog 39 #[.agg (stpA s (.slice ad s.bases.length sc)),.int .i64 x,.slice aa a.length ca,.agg #[.int .i64 pj,.int .i64 psh,.int .i64 pm]] u fun e w'=>e=.returned (.bool ck)∧Kept [] u w'):=fun u ku =>
    hck▸check_any s _ _ x a pj psh pm u (HS.out u (kr.trans ku)) (HA.out u (kr.trans ku)) HIA.out ix hpk.1 hpk.2.1 hpk.2.2 (HE.out u (kr.trans ku))
   have HK2:Hid (∀ u,Kept [] wr u→Calls Tryz.prog 40 #[.agg (stpA s (.slice ad s.bases.length sc)),.int .i64 x,.slice aa a.length ca,.agg #[.int .i64 pj,.int .i64 psh,.int .i64 pm]] u fun e w'=>e=.returned (.bool ck)∧Kept [] u w'):=fun u ku =>
    hck▸rcheck_any s _ _ x a pj psh pm u (HS.out u (kr.trans ku)) (HA.out u (kr.trans ku)) HIA.out ix hpk.1 hpk.2.1 hpk.2.2
   have hbw:Blk wr bS 26 #[.int .i64 s.P,.int .i64 s.Q,.int .i64 s.G,.slice ad s.bases.length sc,.int .i64 s.blind]:=HBS.out.kept kr (by simp);have q0:∀ u,Kept [] wr u→u.cell? ⟨bS,0,none⟩=some (.int .i64 s.P):=Kept.cellOf (hbw.cell 0);have q1:∀ u,Kept [] wr u→u.cell? ⟨bS,1,none⟩=some (.int .i64 s.Q):=Kept.cellOf (hbw.cell 1);have q2:∀ u,Kept [] wr u→u.cell? ⟨bS,2,none⟩=some (.int .i64 s.G):=Kept.cellOf (hbw.cell 2);have q3:∀ u,Kept [] wr u→u.cell? ⟨bS,3,none⟩=some (.slice ad s.bases.length sc):=Kept.cellOf (hbw.cell 3);have q4:∀ u,Kept [] wr u→u.cell? ⟨bS,4,none⟩=some (.int .i64 s.blind):=Kept.cellOf (hbw.cell 4);have h1:∀ u,Kept [] wr u→u.cell? ⟨pb,po+k*3,none⟩=some (.int .i64 pj):=Kept.cellOf g1;have h2:∀ u,Kept [] wr u→u.cell? ⟨pb,po+k*3+1,none⟩=some (.int .i64 psh):=Kept.cellOf g2;have h3:∀ u,Kept [] wr u→u.cell? ⟨pb,po+k*3+2,none⟩=some (.int .i64 pm):=Kept.cellOf g3
   have e5:(ck != ck)=false:=by simp
   clear hpk' hpk f1 f2 f3 g1 g2 g3 hcell hck hbw;go_upto_region 13 with (fail)
   go_region_held3 (fun u=>Kept [] wr u) (repeat (first|(with_reducible assumption)|(with_reducible exact Kept.refl _ _)|(with_reducible refine Kept.drew ?_)))
    (first
     | (go_at_call 39;refine (HK1.out _ (by (repeat (first|(with_reducible assumption)|(with_reducible exact Kept.refl _ _)|(with_reducible refine Kept.drew ?_))))).mono ?_;rintro e uA ⟨rfl,kA⟩;have kA':Kept [] wr uA:=Kept.trans (by (repeat (first|(with_reducible assumption)|(with_reducible exact Kept.refl _ _)|(with_reducible refine Kept.drew ?_)))) kA)
     | (go_at_call 40;refine (HK2.out _ (by (repeat (first|(with_reducible assumption)|(with_reducible exact Kept.refl _ _)|(with_reducible refine Kept.drew ?_))))).mono ?_;rintro e uB ⟨rfl,kB⟩;have kB':Kept [] wr uB:=Kept.trans (by (repeat (first|(with_reducible assumption)|(with_reducible exact Kept.refl _ _)|(with_reducible refine Kept.drew ?_)))) kB)
     | fail)
   all_goals (rename_i hHeld;clear q0 q1 q2 q3 q4 h1 h2 h3 HK1 HK2;(try clear hHeld))
   all_goals (go_wp2_with fail)
   all_goals go_roundw
   all_goals first
    | exact ⟨k+1,by omega,by go_num,kr.trans (by assumption)⟩
    | (simp [intOf];omega)
  ·obtain rfl:k=pts.length:=by omega
   clear k111;go_upto_region 15 with (fail);have hbs:=HBS.out.kept kr (by simp);have q0:wr.cell? ⟨bS,0,none⟩=some (.int .i64 s.P):=hbs.cell 0;have q1:wr.cell? ⟨bS,1,none⟩=some (.int .i64 s.Q):=hbs.cell 1;have q2:wr.cell? ⟨bS,2,none⟩=some (.int .i64 s.G):=hbs.cell 2;have q3:wr.cell? ⟨bS,3,none⟩=some (.slice ad s.bases.length sc):=hbs.cell 3;have q4:wr.cell? ⟨bS,4,none⟩=some (.int .i64 s.blind):=hbs.cell 4;clear hbs;have HO1:=Lib.hid (open_form (open_any s _ _ _ x a pts wr (HS.out wr kr) (HA.out wr kr) (HP.out wr kr) (by omega) HIA.out ix HIP.out (by omega) (HE.out wr kr)));go_wp2_with (go_at_call 41;refine HO1.out.mono ?_);rintro e x1 ⟨oa,ob,oc,ho1,rfl,m1⟩;have n1:=kr.trans m1;clear q0 q1 q2 q3 q4 HO1 m1;go_upto_region 16 with (fail);have hbs:=HBS.out.kept n1 (by simp);have q0:x1.cell? ⟨bS,0,none⟩=some (.int .i64 s.P):=hbs.cell 0;have q1:x1.cell? ⟨bS,1,none⟩=some (.int .i64 s.Q):=hbs.cell 1;have q2:x1.cell? ⟨bS,2,none⟩=some (.int .i64 s.G):=hbs.cell 2;have q3:x1.cell? ⟨bS,3,none⟩=some (.slice ad s.bases.length sc):=hbs.cell 3;have q4:x1.cell? ⟨bS,4,none⟩=some (.int .i64 s.blind):=hbs.cell 4;clear hbs;have HO2:=Lib.hid (open_form (ropen_any s _ _ _ x a pts x1 (HS.out x1 n1) (HA.out x1 n1) (HP.out x1 n1) (by omega) HIA.out ix HIP.out (by omega)));go_wp2_with (go_at_call 42;refine HO2.out.mono ?_);rintro e x2 ⟨oa2,ob2,oc2,ho2,rfl,m2⟩;have n2:=n1.trans m2;have heq:=openR_one ho1 ho2;simp only [Prod.mk.injEq] at heq;obtain ⟨rfl,rfl,rfl⟩:=heq
   have e6:(oa != oa)=false:=by simp
   have e7:(ob != ob)=false:=by simp
   have e8:(oc != oc)=false:=by simp
   clear q0 q1 q2 q3 q4 HO2 m2 ho1 ho2;go_upto_region 19 with (fail);have hbr:=HBR.out.kept n2 (by simp);have p0:x2.cell? ⟨bR,0,none⟩=some (.slice s0 r.tickets.length d0):=hbr.cell 0;have p1:x2.cell? ⟨bR,1,none⟩=some (.slice s1 r.spends.length d1):=hbr.cell 1;have p2:x2.cell? ⟨bR,2,none⟩=some (.slice s2 r.links.length d2):=hbr.cell 2;have p3:x2.cell? ⟨bR,3,none⟩=some (.slice s3 r.commits.length d3):=hbr.cell 3;have p4:x2.cell? ⟨bR,4,none⟩=some (.slice s4 r.chain.length d4):=hbr.cell 4;have p5:x2.cell? ⟨bR,5,none⟩=some (.slice s5 r.bits.length d5):=hbr.cell 5;have p6:x2.cell? ⟨bR,6,none⟩=some (.slice s6 r.escrow.length d6):=hbr.cell 6;have p7:x2.cell? ⟨bR,7,none⟩=some (.slice s7 r.proof.dares.length d7):=hbr.cell 7;have p8:x2.cell? ⟨bR,8,none⟩=some (.slice s8 r.proof.answers.length d8):=hbr.cell 8;clear hbr;obtain ⟨es,eb,hes⟩:=encRes_form r;have HEN:Hid (Calls Tryz.prog 43 #[.agg #[.slice s0 r.tickets.length d0,.slice s1 r.spends.length d1,.slice s2 r.links.length d2,.slice s3 r.commits.length d3,.slice s4 r.chain.length d4,.slice s5 r.bits.length d5,.slice s6 r.escrow.length d6,.slice s7 r.proof.dares.length d7,.slice s8 r.proof.answers.length d8]] x2 (Ret (.tuple #[.string ⟨es.toArray⟩,.bool eb]) x2)):=hes▸encR_any _ _ _ _ _ _ _ _ _ r x2 (HR.out x2 n2) (HE.out x2 n2).toEnv HEB.out;go_wp2_with (go_at_call 43;refine HEN.out.mono ?_);rintro e x3 ⟨rfl,m3⟩;have n3:=n2.trans m3;clear p0 p1 p2 p3 p4 p5 p6 p7 p8 HEN m3;go_upto_region 20 with (fail);have hbr:=HBR.out.kept n3 (by simp);have p0:x3.cell? ⟨bR,0,none⟩=some (.slice s0 r.tickets.length d0):=hbr.cell 0
   have p1:x3.cell? ⟨bR,1,none⟩=some (.slice s1 r.spends.length d1):=hbr.cell 1;have p2:x3.cell? ⟨bR,2,none⟩=some (.slice s2 r.links.length d2):=hbr.cell 2;have p3:x3.cell? ⟨bR,3,none⟩=some (.slice s3 r.commits.length d3):=hbr.cell 3;have p4:x3.cell? ⟨bR,4,none⟩=some (.slice s4 r.chain.length d4):=hbr.cell 4;have p5:x3.cell? ⟨bR,5,none⟩=some (.slice s5 r.bits.length d5):=hbr.cell 5;have p6:x3.cell? ⟨bR,6,none⟩=some (.slice s6 r.escrow.length d6):=hbr.cell 6;have p7:x3.cell? ⟨bR,7,none⟩=some (.slice s7 r.proof.dares.length d7):=hbr.cell 7;have p8:x3.cell? ⟨bR,8,none⟩=some (.slice s8 r.proof.answers.length d8):=hbr.cell 8;clear hbr;have HEN:Hid (Calls Tryz.prog 44 #[.agg #[.slice s0 r.tickets.length d0,.slice s1 r.spends.length d1,.slice s2 r.links.length d2,.slice s3 r.commits.length d3,.slice s4 r.chain.length d4,.slice s5 r.bits.length d5,.slice s6 r.escrow.length d6,.slice s7 r.proof.dares.length d7,.slice s8 r.proof.answers.length d8]] x3 (Ret (.tuple #[.string ⟨es.toArray⟩,.bool eb]) x3)):=hes▸rencR_any _ _ _ _ _ _ _ _ _ r x3 (HR.out x3 n3) HEB.out;clear hes;go_wp2_with (go_at_call 44;refine HEN.out.mono ?_);rintro e x4 ⟨rfl,m4⟩;have n4:=n3.trans m4;clear p0 p1 p2 p3 p4 p5 p6 p7 p8 HEN m4;obtain ⟨c,ok,hrd⟩:∃ c ok,readR tx=(c,ok):=⟨_,_,rfl⟩;have HEC:=Lib.hid (encB_read hrd c6);have HDC:Hid (Calls Tryz.prog 45 #[.string ⟨tx.toArray⟩] x4 (DecS c ok x4)):=dec_form (hrd▸dec_any tx x4 (HE.out x4 n4).toEnv (by omega));go_upto_region 21 with (fail);go_wp2_with (go_at_call 45;refine HDC.out.mono ?_)
   rintro e x5 ⟨u0,uc0,u1,uc1,u2,uc2,u3,uc3,u4,uc4,u5,uc5,u6,uc6,u7,uc7,u8,uc8,rfl,hu,m5⟩;have n5:=n4.trans m5;have HUU:=Lib.hid hu;clear HDC m5 hu;go_upto_region 22 with (fail);obtain ⟨bU,hbU⟩:∃ q,x5.heap.size=q:=⟨_,rfl⟩;obtain ⟨x6,hx6⟩:∃ q,x5.alloc (.cells #[.slice u0 c.tickets.length uc0,.slice u1 c.spends.length uc1,.slice u2 c.links.length uc2,.slice u3 c.commits.length uc3,.slice u4 c.chain.length uc4,.slice u5 c.bits.length uc5,.slice u6 c.escrow.length uc6,.slice u7 c.proof.dares.length uc7,.slice u8 c.proof.answers.length uc8] 67)=q:=⟨_,rfl⟩
   have hB6:Blk x6 bU 67 #[.slice u0 c.tickets.length uc0,.slice u1 c.spends.length uc1,.slice u2 c.links.length uc2,.slice u3 c.commits.length uc3,.slice u4 c.chain.length uc4,.slice u5 c.bits.length uc5,.slice u6 c.escrow.length uc6,.slice u7 c.proof.dares.length uc7,.slice u8 c.proof.answers.length uc8]:=by rw [←hbU,←hx6];exact Blk.new _ _ _
   have m6:Kept [] x5 x6:=hx6▸(Kept.refl _ _).alloc _;have n6:=n5.trans m6;have HB6:=Lib.hid hB6;have HU6:=Lib.hid (HUU.out.kept m6);rw [hbU,hx6];clear hbU hx6 hB6 m6 HUU;have HDC:Hid (Calls Tryz.prog 46 #[.string ⟨tx.toArray⟩] x6 (DecS c ok x6)):=dec_form (hrd▸rdec_any tx x6 (HE.out x6 n6).toEnv (by omega));go_wp2_with (go_at_call 46;refine HDC.out.mono ?_);rintro e x7 ⟨v0,vc0,v1,vc1,v2,vc2,v3,vc3,v4,vc4,v5,vc5,v6,vc6,v7,vc7,v8,vc8,rfl,hv,m7⟩;have n7:=n6.trans m7;have HVV:=Lib.hid hv;have HB7:=Lib.hid (HB6.out.kept m7 (by simp));have HU7:=Lib.hid (HU6.out.kept m7);clear HDC m7 hv HB6 HU6 hrd;go_upto_region 23 with (fail);obtain ⟨bV,hbV⟩:∃ q,x7.heap.size=q:=⟨_,rfl⟩;obtain ⟨x8,hx8⟩:∃ q,x7.alloc (.cells #[.slice v0 c.tickets.length vc0,.slice v1 c.spends.length vc1,.slice v2 c.links.length vc2,.slice v3 c.commits.length vc3,.slice v4 c.chain.length vc4,.slice v5 c.bits.length vc5,.slice v6 c.escrow.length vc6,.slice v7 c.proof.dares.length vc7,.slice v8 c.proof.answers.length vc8] 67)=q:=⟨_,rfl⟩
   have hB8:Blk x8 bV 67 #[.slice v0 c.tickets.length vc0,.slice v1 c.spends.length vc1,.slice v2 c.links.length vc2,.slice v3 c.commits.length vc3,.slice v4 c.chain.length vc4,.slice v5 c.bits.length vc5,.slice v6 c.escrow.length vc6,.slice v7 c.proof.dares.length vc7,.slice v8 c.proof.answers.length vc8]:=by rw [←hbV,←hx8];exact Blk.new _ _ _
   have m8:Kept [] x7 x8:=hx8▸(Kept.refl _ _).alloc _;have n8:=n7.trans m8;have hB9:=HB7.out.kept m8 (by simp);have HSR:=Lib.hid (sameRecord_eq _ _ c x8 (HU7.out.kept m8) (HVV.out.kept m8) HEC.out);rw [hbV,hx8];clear hbV hx8 m8;have p0:x8.cell? ⟨bU,0,none⟩=some (.slice u0 c.tickets.length uc0):=hB9.cell 0;have q0:x8.cell? ⟨bV,0,none⟩=some (.slice v0 c.tickets.length vc0):=hB8.cell 0;have p1:x8.cell? ⟨bU,1,none⟩=some (.slice u1 c.spends.length uc1):=hB9.cell 1;have q1:x8.cell? ⟨bV,1,none⟩=some (.slice v1 c.spends.length vc1):=hB8.cell 1;have p2:x8.cell? ⟨bU,2,none⟩=some (.slice u2 c.links.length uc2):=hB9.cell 2;have q2:x8.cell? ⟨bV,2,none⟩=some (.slice v2 c.links.length vc2):=hB8.cell 2;have p3:x8.cell? ⟨bU,3,none⟩=some (.slice u3 c.commits.length uc3):=hB9.cell 3;have q3:x8.cell? ⟨bV,3,none⟩=some (.slice v3 c.commits.length vc3):=hB8.cell 3;have p4:x8.cell? ⟨bU,4,none⟩=some (.slice u4 c.chain.length uc4):=hB9.cell 4;have q4:x8.cell? ⟨bV,4,none⟩=some (.slice v4 c.chain.length vc4):=hB8.cell 4;have p5:x8.cell? ⟨bU,5,none⟩=some (.slice u5 c.bits.length uc5):=hB9.cell 5;have q5:x8.cell? ⟨bV,5,none⟩=some (.slice v5 c.bits.length vc5):=hB8.cell 5;have p6:x8.cell? ⟨bU,6,none⟩=some (.slice u6 c.escrow.length uc6):=hB9.cell 6;have q6:x8.cell? ⟨bV,6,none⟩=some (.slice v6 c.escrow.length vc6):=hB8.cell 6;have p7:x8.cell? ⟨bU,7,none⟩=some (.slice u7 c.proof.dares.length uc7):=hB9.cell 7;have q7:x8.cell? ⟨bV,7,none⟩=some (.slice v7 c.proof.dares.length vc7):=hB8.cell 7;have p8:x8.cell? ⟨bU,8,none⟩=some (.slice u8 c.proof.answers.length uc8):=hB9.cell 8
   have q8:x8.cell? ⟨bV,8,none⟩=some (.slice v8 c.proof.answers.length vc8):=hB8.cell 8
   have e10:(eb==eb)=true:=by simp
   have e11:(ok==ok)=true:=by simp
   clear hB8 hB9;go_wp2_with (go_at_call 47;refine HSR.out.mono ?_);rintro e x9 ⟨rfl,m9⟩;go_wp2_with fail;go_ret;exact ⟨rfl,HKK.out.trans (n8.trans m9)⟩
end Go.Proofs.YtpcdfepndmconaaGreatDoor
