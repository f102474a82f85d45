/- The parser's member. -/
import Derived.Test.YtpcmamoomaddoaaGreatDoorLea
import Derived.Deep.DeepCutAuto
namespace Go.Proofs.YtpcmamoomaddoaaGreatDoor
open Go.RowKit
theorem member_end {w2:World} {tmps:Array Value} {v0 v1 v2 v3 v4 X:Value} {b:Nat} {R:Ending→World→Prop} (hb:Blk w2 b 46 #[v0,v1,v2,v3,v4]) (h2:tmps[6]?.getD undef=.pointer (some ⟨b,0,none⟩))
  (hX:.agg #[v0,v1,v2,v3,v4]=X) (hR:R (.returned X) w2) :
  bodyPost Tryz.prog Tryz.f198 R Exit.ret { tmps:=tmps,defers:=[] } w2:=by
 subst hX;have c0:w2.cell? ⟨b,0,none⟩=some v0:=hb.cell 0;have c1:w2.cell? ⟨b,1,none⟩=some v1:=hb.cell 1;have c2:w2.cell? ⟨b,2,none⟩=some v2:=hb.cell 2;have c3:w2.cell? ⟨b,3,none⟩=some v3:=hb.cell 3;have c4:w2.cell? ⟨b,4,none⟩=some v4:=hb.cell 4;refine bodyPost_ret (v:=.agg #[v0,v1,v2,v3,v4]) ?_ rfl hR;simp only [results,Tryz.results198]
 simp [go_sem,h2,c0,c1,c2,c3,c4]
set_option maxRecDepth 100000 in
set_option maxHeartbeats 8000000 in
theorem member_any {B:Nat} {W0:World} {rb:Nat} {ts:List Tok} {a:Option Addr} {c:Nat} {z:Int} {w:World} {n0:Nat} (sm:Sm) (hsm:SmI sm) (pos:Nat) (hpos:pos≤ts.length) (h:Ps B W0 rb ts a c z w n0) :
  Calls Tryz.prog 198 #[.pointer (some ⟨rb,0,none⟩),.agg #[.string ⟨sm.name.toArray⟩,.int .i64 sm.off],.int .i64 (pos:Int)] w (PdE B W0 rb ts a c z w (memberP ts sm n0)):=by
 obtain ⟨W,hW⟩:∃ W,((w.alloc (.cells #[.string ⟨sm.name.toArray⟩,.int .i64 sm.off] 252)).alloc (.cells #[.int .i64 0,.string ⟨#[]⟩,.string ⟨#[]⟩,.int .i64 0,.slice none 0 0] 46)).alloc (.cells #[.int .i64 2,.string ⟨#[]⟩,.string ⟨#[]⟩,.int .i64 0,.slice none 0 0] 46)=W:=⟨_,rfl⟩;have hkW:Kept [] w W:=hW▸(((Kept.refl _ _).alloc _).alloc _).alloc _;have hBS:Blk W w.heap.size 252 #[.string ⟨sm.name.toArray⟩,.int .i64 sm.off]:=hW▸((Blk.new _ _ _).alloc _).alloc _;have hBA:Blk W (w.heap.size+1) 46 #[.int .i64 0,.string ⟨#[]⟩,.string ⟨#[]⟩,.int .i64 0,.slice none 0 0]:=hW▸(Blk.new1 _ _ _ _).alloc _;have hBG:Blk W (w.heap.size+1+1) 46 #[.int .i64 2,.string ⟨#[]⟩,.string ⟨#[]⟩,.int .i64 0,.slice none 0 0]:=hW▸Blk.new2 _ _ _ _ _;have hw:=h.step hkW;have hrb:rb < w.heap.size:=h.blk.lt;have hsml:=h.small;obtain ⟨R,hR⟩:∃ R,memberP ts sm n0=R:=⟨_,rfl⟩;rw [hR]
 unfold memberP at hR
 have H1:=Lib.hid (take_any hw [123]);have HBS:=Lib.hid hBS;have HBA:=Lib.hid hBA;have HBG:=Lib.hid hBG;have HK:Hid (Kept [rb] w W):=Lib.hid (hkW.mono (by simp));have HW:=Lib.hid hW;have HR:=Lib.hid hR;clear hW hkW hBS hBA hBG h hw hR
 go_enter Tryz.func198,Tryz.ntmps198
 go_upto_region 2 with (fail);have hW':=HW.out;rw [hW'];clear hW'
 cases e1:takeP ts [123] n0 with
 | error k =>
  have hR:=HR.out;rw [e1] at H1 hR;simp only [bnd] at hR;subst hR;go_wp2_with (go_at_call 69;refine H1.out.mono ?_;unfold TakeE;rintro e w1 ⟨⟨p,rfl⟩,k1⟩);exact ⟨rfl,⟨p,rfl⟩,HK.out.trans k1⟩
 | ok y1 =>
 obtain ⟨u1,j4⟩:=y1;have hR:=HR.out;rw [e1] at H1 hR;simp only [bnd] at hR;obtain ⟨R1,hR1⟩:∃ R1,sepP (skipP ts [44]) (rangeP ts sm) (ts.length+1) j4 []=R1:=⟨_,rfl⟩;rw [hR1] at hR;have HR5:=Lib.hid hR;have HR4:=Lib.hid hR1;clear hR hR1 e1;obtain ⟨f0,hf0⟩:∃ f0,ts.length+1=f0:=⟨_,rfl⟩;rw [hf0] at HR4;obtain ⟨i0,hi,hz0,hz1,hz2⟩:=info_parts infoPred;obtain ⟨G,hG⟩:∃ G,w.heap.size+1+1=G:=⟨_,rfl⟩;rw [hG] at HBG;rw [hG];go_upto_region 3 with (go_at_call 69;refine H1.out.mono ?_;unfold TakeE;rintro e w4 ⟨rfl,k4,h4⟩);have HK4:=Lib.hid (HK.out.trans k4);have BG:=Lib.hid (HBG.out.kept k4 (by simp;omega));have BA:=Lib.hid (HBA.out.kept k4 (by simp;omega));have BS:=Lib.hid (HBS.out.kept k4 (by simp;omega));have P4:=Lib.hid h4;clear k4 h4 H1 HK HBG HBA HBS HW HR;go_wp2_with fail
 go_loopw [8] (fun v wr=>∃ (b:Bool) (i f:Nat) (l:List Pd) (kv:Value),v=.bool b∧j4≤i∧Ps B W0 rb ts a c z wr i∧Kept [rb] w wr∧Blk wr G 46 #[.int .i64 2,.string ⟨#[]⟩,.string ⟨#[]⟩,.int .i64 0,kv] ∧
  Blk wr (w.heap.size+1) 46 #[.int .i64 0,.string ⟨#[]⟩,.string ⟨#[]⟩,.int .i64 0,.slice none 0 0]∧Blk wr w.heap.size 252 #[.string ⟨sm.name.toArray⟩,.int .i64 sm.off] ∧
  Grow PdR 5 46 (G+1) (List.range (G+1)++obl kv) wr kv l∧l.length+f≤f0∧G+1≤wr.heap.size∧(if b then ts.length < i+f∧sepP (skipP ts [44]) (rangeP ts sm) f i l=R1 else R1=.ok (l,i)))
  (fun v wr=>if stopped v then 0 else f0+1 - cellLen (wr.cell? ⟨G,4,none⟩))
 case atStart=>exact ⟨true,j4,f0,[],_,rfl,Nat.le_refl _,P4.out,HK4.out,BG.out,BA.out,BS.out,Grow.nil_ _ _ _ _ _ _,by simp,by have:=BG.out.lt;omega,by simp only [if_true];exact ⟨by omega,HR4.out⟩⟩
 case round =>
  obtain ⟨b,i,f,l,kv,rfl,hni,hps,hk,hb2,hb1,hbs,hg,hlf,hsz,hcase⟩:=hrel;obtain ⟨ka,kc,rfl⟩:=hg.form (by decide)
  cases b
  ·simp only [Bool.false_eq_true,if_false] at hcase;subst hcase;have hrr:=HR5.out
   simp only at hrr
   have HRR:=Lib.hid hrr;have hge:=hg.ge;have HKVE:=Lib.hid hge
   have hl9:l.length≤9223372036854775807:=by omega
   have hst:=hg.done (X':=List.range (G+1)) (fun z hz=>Or.inl (List.mem_append_left _ hz)) (fun z hz hm=>by have:=(hge z hz).1;have:=List.mem_range.1 hm;omega) hl9;have H5:=Lib.hid (take_any hps [125]);have HKK:=Lib.hid hk;have HB2:=Lib.hid hb2;have HB1:=Lib.hid hb1;have HST:=Lib.hid hst;have HGG:=Lib.hid hg;clear hps hk hg hb1 hb2 hbs hge hrr hst P4 HK4 BG BA BS HR4 HR5
   cases e5:takeP ts [125] i with
   | error k =>
    have hR:=HRR.out;rw [e5] at H5 hR
    simp only at hR
    subst hR;go_wp2_with (go_at_call 69;refine H5.out.mono ?_;unfold TakeE;rintro e w1 ⟨⟨p,rfl⟩,k1⟩);exact ⟨rfl,⟨p,rfl⟩,HKK.out.trans k1⟩
   | ok y5 =>
   obtain ⟨u5,j5⟩:=y5;have hR:=HRR.out;rw [e5] at H5 hR
   simp only at hR
   have HR6:=Lib.hid hR;clear hR;go_upto_region 15 with (go_at_call 69;refine H5.out.mono ?_;unfold TakeE;rintro e w5 ⟨rfl,k5,h5⟩);have HST5:=Lib.hid (HST.out.step (X':=List.range (G+1)) k5 (fun y hy _=>by rw [List.mem_singleton] at hy;exact List.mem_range.2 (by omega)) (fun y hy=>Or.inl hy));have HK5:=Lib.hid (HKK.out.trans k5);have HP5:=Lib.hid h5;have K5:=Lib.hid k5;have HB5:=Lib.hid (HB2.out.kept k5 (by simp;omega));have HA5:=Lib.hid (HB1.out.kept k5 (by simp;omega));have q0:w5.cell? ⟨G,0,none⟩=some (.int .i64 2):=HB5.out.cell 0;have q1:w5.cell? ⟨G,1,none⟩=some (.string ⟨#[]⟩):=HB5.out.cell 1;have q2:w5.cell? ⟨G,2,none⟩=some (.string ⟨#[]⟩):=HB5.out.cell 2;have q3:w5.cell? ⟨G,3,none⟩=some (.int .i64 0):=HB5.out.cell 3;have q4:w5.cell? ⟨G,4,none⟩=some (.slice ka l.length kc):=HB5.out.cell 4;clear k5 h5 HST HKK HB1 HB2 H5 HRR
   by_cases h1:l.length=1
   ·obtain ⟨q,rfl⟩:∃ q,l=[q]:=by
     match l,h1 with
     | [q],_=>exact ⟨q,rfl⟩
    obtain ⟨vs,hown,hel⟩:=HGG.out
    obtain ⟨c1,rfl⟩:∃ c1,vs=[c1]:=by
     have:=hel.get.1
     match vs,this with
     | [c1],_=>exact ⟨c1,rfl⟩
    have hst0:Stable (List.range (G+1)) (fun w=>PdR w c1 q) wr:=(hel.less (fun z hz=>Or.inl (List.mem_append_left _ hz))).imp fun w' h=>by
     obtain ⟨cc,hc,hr⟩:=h.2.2 0 q rfl;simp at hc;exact hc▸hr
    have hst:=hst0.step (X':=List.range (G+1)) K5.out (fun y hy _=>by rw [List.mem_singleton] at hy;exact List.mem_range.2 (by omega)) (fun y hy=>Or.inl hy);have hcq:=hst.get;have hrow:=Row.of_own (own_keepS hown K5.out (fun z hz hm=>by rw [List.mem_singleton] at hm;have:=HKVE.out z hz;omega)) hl9;obtain ⟨b,off,rfl,hcell⟩:=hrow.at_ (by simp);obtain ⟨qk,ql,qr,qc,qks⟩:=q;obtain ⟨qa,qcc,rfl,_⟩:=hcq.rows;have u0:w5.cell? ⟨b,off,none⟩=some (.int .i64 qk):=hcell 0 _ rfl;have u1:w5.cell? ⟨b,off+1,none⟩=some (.string ⟨ql.toArray⟩):=hcell 1 _ rfl;have u2:w5.cell? ⟨b,off+2,none⟩=some (.string ⟨qr.toArray⟩):=hcell 2 _ rfl;have u3:w5.cell? ⟨b,off+3,none⟩=some (.int .i64 qc):=hcell 3 _ rfl;have u4:w5.cell? ⟨b,off+4,none⟩=some (.slice qa qks.length qcc):=hcell 4 _ rfl;have g0:=HB5.out.frozen 0;have g1:=HB5.out.frozen 1;have g2:=HB5.out.frozen 2;have g3:=HB5.out.frozen 3;have g4:=HB5.out.frozen 4;have HSTQ:=Lib.hid hst;clear hst0 hst hcq hrow hcell hown hel h1 HGG K5;go_upto_region 17 with (fail);obtain ⟨wB,hwB⟩:∃ x,((((w5.setCell ⟨G,0,none⟩ (.int .i64 qk)).setCell ⟨G,1,none⟩ (.string ⟨ql.toArray⟩)).setCell ⟨G,2,none⟩ (.string ⟨qr.toArray⟩)).setCell ⟨G,3,none⟩ (.int .i64 qc)).setCell ⟨G,4,none⟩ (.slice qa qks.length qcc)=x:=⟨_,rfl⟩;rw [hwB];have kB:Kept [G] w5 wB:=hwB▸(((((Kept.refl [G] w5).setCell (p:=⟨G,0,none⟩) (Or.inl (by simp)) (.int .i64 qk)).setCell (p:=⟨G,1,none⟩) (Or.inl (by simp)) (.string ⟨ql.toArray⟩)).setCell (p:=⟨G,2,none⟩) (Or.inl (by simp)) (.string ⟨qr.toArray⟩)).setCell (p:=⟨G,3,none⟩) (Or.inl (by simp)) (.int .i64 qc)).setCell (p:=⟨G,4,none⟩) (Or.inl (by simp)) (.slice qa qks.length qcc)
    have bB:Blk wB G 46 #[.int .i64 qk,.string ⟨ql.toArray⟩,.string ⟨qr.toArray⟩,.int .i64 qc,.slice qa qks.length qcc]:=hwB▸((((HB5.out.set_ 0 _).set_ 1 _).set_ 2 _).set_ 3 _).set_ 4 _;have q0:wB.cell? ⟨G,0,none⟩=some (.int .i64 qk):=bB.cell 0;have q1:wB.cell? ⟨G,1,none⟩=some (.string ⟨ql.toArray⟩):=bB.cell 1;have q2:wB.cell? ⟨G,2,none⟩=some (.string ⟨qr.toArray⟩):=bB.cell 2;have q3:wB.cell? ⟨G,3,none⟩=some (.int .i64 qc):=bB.cell 3;have q4:wB.cell? ⟨G,4,none⟩=some (.slice qa qks.length qcc):=bB.cell 4;have HAB:=Lib.hid (HA5.out.kept kB (by simp;omega));have HPB:=Lib.hid (HP5.out.far kB (fun y hy=>by rw [List.mem_singleton] at hy;omega));have HKB:=Lib.hid (HK5.out.fresh kB (fun y hy=>by rw [List.mem_singleton] at hy;omega));have HSTB:=Lib.hid (HSTQ.out.step (X':=List.range (G+1)) kB (fun y hy _=>by rw [List.mem_singleton] at hy;exact List.mem_range.2 (by omega)) (fun y hy=>Or.inl hy));have HRG:=Lib.hid (ranged_any pos hpos _ _ _ wB (Nat.le_refl _) HPB.out HSTB.out.get);have hR:=HR6.out;have hone:one 2 [Pd.node qk ql qr qc qks]=.node qk ql qr qc qks:=rfl;rw [hone] at hR
    unfold chk at hR
    clear hwB kB bB u0 u1 u2 u3 u4 g0 g1 g2 g3 g4
    cases hrg:rangedB (.node qk ql qr qc qks)
    ·rw [hrg] at hR HRG;simp only [Bool.false_eq_true,if_false] at hR;subst hR;go_wp2_with (go_at_call 235;refine HRG.out.mono ?_;unfold RngE;rintro e w6 ⟨⟨p,rfl⟩,k6⟩);exact ⟨rfl,⟨p,rfl⟩,HKB.out.trans (k6.mono (by simp))⟩
    ·rw [hrg] at hR HRG;simp only [if_true] at hR;subst hR;go_wp2_with (go_at_call 235;refine HRG.out.mono ?_;unfold RngE;rintro e w6 ⟨rfl,k6⟩;have hb6:=HAB.out.kept k6 (by simp);have c0:w6.cell? ⟨w.heap.size+1,0,none⟩=some (.int .i64 0):=hb6.cell 0;have c1:w6.cell? ⟨w.heap.size+1,1,none⟩=some (.string ⟨#[]⟩):=hb6.cell 1;have c2:w6.cell? ⟨w.heap.size+1,2,none⟩=some (.string ⟨#[]⟩):=hb6.cell 2;have c3:w6.cell? ⟨w.heap.size+1,3,none⟩=some (.int .i64 0):=hb6.cell 3;have c4:w6.cell? ⟨w.heap.size+1,4,none⟩=some (.slice none 0 0):=hb6.cell 4;have f0:=hb6.frozen 0;have f1:=hb6.frozen 1;have f2:=hb6.frozen 2;have f3:=hb6.frozen 3;have f4:=hb6.frozen 4;have HB6:=Lib.hid hb6;have K6:=Lib.hid k6;clear hb6 k6);refine member_end (((((HB6.out.set_ 0 _).set_ 1 _).set_ 2 _).set_ 3 _).set_ 4 _) rfl rfl ?_;have kF:=(((((Kept.refl [w.heap.size+1] w6).setCell (p:=⟨w.heap.size+1,0,none⟩) (Or.inl (by simp)) (.int .i64 qk)).setCell (p:=⟨w.heap.size+1,1,none⟩) (Or.inl (by simp)) (.string ⟨ql.toArray⟩)).setCell (p:=⟨w.heap.size+1,2,none⟩) (Or.inl (by simp)) (.string ⟨qr.toArray⟩)).setCell (p:=⟨w.heap.size+1,3,none⟩) (Or.inl (by simp)) (.int .i64 qc)).setCell (p:=⟨w.heap.size+1,4,none⟩) (Or.inl (by simp)) (.slice qa qks.length qcc);refine ⟨_,rfl,(HKB.out.trans (K6.out.mono (by simp))).fresh kF (fun y hy=>by rw [List.mem_singleton] at hy;omega),(HPB.out.step K6.out).far kF (fun y hy=>by rw [List.mem_singleton] at hy;omega),?_⟩;exact ⟨[.int .i64 qk,.string ⟨ql.toArray⟩,.string ⟨qr.toArray⟩,.int .i64 qc,.slice qa qks.length qcc],rfl,(HSTB.out.step (X':=List.range (G+1)) K6.out (fun y hy _=>by simp at hy) (fun y hy=>Or.inl hy)).step kF (fun y hy _=>by rw [List.mem_singleton] at hy;exact List.mem_range.2 (by omega)) (fun y hy=>Or.inl (List.mem_range.2 (by have:=List.mem_range.1 hy;omega)))⟩
   ·have hb:((l.length:Int)==1)=false:=by simp;omega
    have hone:one 2 l=.node 2 [] [] 0 l:=by
     match l,h1 with
     | [],_=>rfl
     | [_],h=>exact absurd rfl h
     | _::_::_,_=>rfl
    have hpd:PdR w5 [.int .i64 2,.string ⟨#[]⟩,.string ⟨#[]⟩,.int .i64 0,.slice ka l.length kc] (.node 2 [] [] 0 l):=PdR.of_rows (l:=[]) (r:=[]) HST5.out.get;have HRG:=Lib.hid (ranged_any pos hpos _ _ _ w5 (Nat.le_refl _) HP5.out hpd);have hR:=HR6.out;rw [hone] at hR
    unfold chk at hR
    cases hrg:rangedB (.node 2 [] [] 0 l)
    ·rw [hrg] at hR HRG;simp only [Bool.false_eq_true,if_false] at hR;subst hR;go_wp2_with (go_at_call 235;refine HRG.out.mono ?_;unfold RngE;rintro e w6 ⟨⟨p,rfl⟩,k6⟩);exact ⟨rfl,⟨p,rfl⟩,HK5.out.trans (k6.mono (by simp))⟩
    ·rw [hrg] at hR HRG;simp only [if_true] at hR;subst hR;go_wp2_with (go_at_call 235;refine HRG.out.mono ?_;unfold RngE;rintro e w6 ⟨rfl,k6⟩;have hb6:=HA5.out.kept k6 (by simp);have c0:w6.cell? ⟨w.heap.size+1,0,none⟩=some (.int .i64 0):=hb6.cell 0;have c1:w6.cell? ⟨w.heap.size+1,1,none⟩=some (.string ⟨#[]⟩):=hb6.cell 1;have c2:w6.cell? ⟨w.heap.size+1,2,none⟩=some (.string ⟨#[]⟩):=hb6.cell 2;have c3:w6.cell? ⟨w.heap.size+1,3,none⟩=some (.int .i64 0):=hb6.cell 3;have c4:w6.cell? ⟨w.heap.size+1,4,none⟩=some (.slice none 0 0):=hb6.cell 4;have f0:=hb6.frozen 0;have f1:=hb6.frozen 1;have f2:=hb6.frozen 2;have f3:=hb6.frozen 3;have f4:=hb6.frozen 4;have HB6:=Lib.hid hb6;have K6:=Lib.hid k6;clear hb6 k6);refine member_end (((((HB6.out.set_ 0 _).set_ 1 _).set_ 2 _).set_ 3 _).set_ 4 _) rfl rfl ?_;have kF:=(((((Kept.refl [w.heap.size+1] w6).setCell (p:=⟨w.heap.size+1,0,none⟩) (Or.inl (by simp)) (.int .i64 2)).setCell (p:=⟨w.heap.size+1,1,none⟩) (Or.inl (by simp)) (.string ⟨#[]⟩)).setCell (p:=⟨w.heap.size+1,2,none⟩) (Or.inl (by simp)) (.string ⟨#[]⟩)).setCell (p:=⟨w.heap.size+1,3,none⟩) (Or.inl (by simp)) (.int .i64 0)).setCell (p:=⟨w.heap.size+1,4,none⟩) (Or.inl (by simp)) (.slice ka l.length kc);refine ⟨_,rfl,(HK5.out.trans (K6.out.mono (by simp))).fresh kF (fun y hy=>by rw [List.mem_singleton] at hy;omega),(HP5.out.step K6.out).far kF (fun y hy=>by rw [List.mem_singleton] at hy;omega),?_⟩;exact ⟨[.int .i64 2,.string ⟨#[]⟩,.string ⟨#[]⟩,.int .i64 0,.slice ka l.length kc],rfl,((HST5.out.step (X':=List.range (G+1)) K6.out (fun y hy _=>by simp at hy) (fun y hy=>Or.inl hy)).imp fun w' hr=>PdR.of_rows (l:=[]) (r:=[]) hr).step kF (fun y hy _=>by rw [List.mem_singleton] at hy;exact List.mem_range.2 (by omega)) (fun y hy=>Or.inl (List.mem_range.2 (by have:=List.mem_range.1 hy;omega)))⟩
  ·simp only [if_true] at hcase;obtain ⟨hfi,hsep⟩:=hcase;obtain ⟨f,rfl⟩:∃ g,f=g+1:=⟨f - 1,by have:=hps.le;omega⟩;rw [sepP] at hsep
   unfold rangeP at hsep
   have hil:=hps.le;have y1:wr.cell? ⟨rb,1,none⟩=some (.int .i64 i):=hps.blk.cell 1;have HSEP:=Lib.hid hsep;have HPS:=Lib.hid hps;have HK2:=Lib.hid hk;have HBB:=Lib.hid hb2;have HBA:=Lib.hid hb1;have HBS:=Lib.hid hbs;have HG:=Lib.hid hg;have H2:=Lib.hid (pnum_any (hps.step (Kept.refl _ _)));clear hsep hps hk hb2 hb1 hbs hg HK4 BG BA BS P4;have hkv:∀ y∈obl (.slice ka l.length kc),G+1≤y∧y < wr.heap.size:=HG.out.ge;have HKV:=Lib.hid hkv;clear hkv;go_upto_region 7 with (fail)
   cases e2:numberP ts i with
   | error k =>
    have hR2:=HSEP.out;rw [e2] at H2 hR2;simp only [bnd] at hR2;subst hR2;have hrr:=HR5.out
    simp only at hrr
    subst hrr;go_wp2_with (go_at_call 233;refine H2.out.mono ?_;unfold NumE;rintro e w5 ⟨⟨p,rfl⟩,k5⟩);exact ⟨rfl,⟨p,rfl⟩,HK2.out.trans k5⟩
   | ok y2 =>
   obtain ⟨m,j⟩:=y2;have hij:=numberP_mono e2;have hR2:=HSEP.out;rw [e2] at H2 hR2;simp only [bnd] at hR2;have HR7:=Lib.hid hR2;have hm:=numberP_le HPS.out.ok e2;clear hR2;go_upto_region 9 with (go_at_call 233;refine H2.out.mono ?_;unfold NumE;rintro e w5 ⟨rfl,k5,h5⟩);have HK5:=Lib.hid (HK2.out.trans k5);have HP5:=Lib.hid h5;have HQ5:=Lib.hid k5;have H6:=Lib.hid (skip_any h5 [46,46]);obtain ⟨sb,hsb⟩:∃ sb,skipP ts [46,46] j=sb:=⟨_,rfl⟩;rw [hsb] at H6;have HSB:=Lib.hid hsb;clear hsb k5 h5
   go_cut [25,26] (fun _ v wx=>v=.bool sb∧Kept [rb] w5 wx∧Ps B W0 rb ts a c z wx (if sb then j+1 else j))
   case first =>
    go_wp2_with (go_at_call 115;refine H6.out.mono ?_;unfold PsB;rintro e w6 ⟨rfl,k6,h6⟩)
    go_meet
    exact ⟨rfl,k6,h6⟩
   case rest =>
   obtain ⟨rfl,k6,h6⟩:=hcut;have HK6:=Lib.hid (HK5.out.trans k6);have HQ6:=Lib.hid (HQ5.out.trans k6);have H7:=Lib.hid (pnum_any h6);have HP6:=Lib.hid h6;clear k6 h6
   apply_assumption
   go_cut [11,27,28] (fun vn _ _ wx=>∃ (n:Int) (j2:Nat),vn=.int .i64 n∧Kept [rb] wc wx∧Ps B W0 rb ts a c z wx j2∧i≤j2∧0≤n∧n≤1099511627776∧(if sb then numberP ts (j+1) else .ok (m,j))=.ok (n,j2))
   case first =>
    cases sb
    ·go_wp2_with fail
     go_meet
     case rel=>exact ⟨m,j,rfl,Kept.refl _ _,HP6.out,hij,hm.1,hm.2,by simp⟩
    ·cases e7:numberP ts (j+1) with
     | error k =>
      simp only [if_true] at H7;have hR2:=HR7.out;rw [HSB.out,if_pos rfl,e7] at hR2;rw [e7] at H7
      simp only at hR2
      subst hR2;have hrr:=HR5.out
      simp only at hrr
      subst hrr;go_wp2_with (go_at_call 233;refine H7.out.mono ?_;unfold NumE;rintro e w7 ⟨⟨p,rfl⟩,k7⟩);exact ⟨rfl,⟨p,rfl⟩,HK6.out.trans k7⟩
     | ok y =>
      obtain ⟨n,j2⟩:=y;simp only [if_true] at H7;rw [e7] at H7;have hn:=numberP_le HPS.out.ok e7;have hj:=numberP_mono e7;go_wp2_with (go_at_call 233;refine H7.out.mono ?_;unfold NumE;rintro e w7 ⟨rfl,k7,h7⟩)
      go_meet
      case rel=>exact ⟨n,j2,rfl,k7,h7,by omega,hn.1,hn.2,by rw [if_pos True.intro];exact e7⟩
   case rest =>
   obtain ⟨n,j2,rfl,k7,h7,hij2,hn0,hn9,hval⟩:=hcut;have hR2:=HR7.out;rw [HSB.out,hval] at hR2
   simp only at hR2
   have HF:=Lib.hid (fail_any h7 3 i hil (i:Int) rfl);have HK7:=Lib.hid (HK6.out.trans k7);have HQ7:=Lib.hid (HQ6.out.trans k7);have HP7:=Lib.hid h7;clear k7 h7 hval
   by_cases hlt:n < m
   ·rw [if_pos hlt] at hR2
    simp only at hR2
    subst hR2;have hrr:=HR5.out
    simp only at hrr
    subst hrr;go_wp2_with (go_at_call 72;refine HF.out.mono ?_;rintro e w8 ⟨⟨p,rfl⟩,k8⟩);exact ⟨rfl,⟨p,rfl⟩,HK7.out.trans (k8.mono (by simp))⟩
   ·rw [if_neg hlt] at hR2;have HR8:=Lib.hid hR2;clear hR2;obtain ⟨w13,hw13⟩:∃ x,wc=x:=⟨_,rfl⟩;rw [hw13] at HQ7 HK7 HP7 HF ⊢;have hgt:=HKV.out;have hwr:=HQ7.out.size;have HBW:=Lib.hid HBB.out;have HB7:=Lib.hid (HBB.out.kept HQ7.out (by simp;omega));have HA7:=Lib.hid (HBA.out.kept HQ7.out (by simp;omega));have HS7:=Lib.hid (HBS.out.kept HQ7.out (by simp;omega));have HG7:=Lib.hid (HG.out.step (X':=List.range (G+1)++obl (.slice ka l.length kc)) HQ7.out (fun z hz hm=>by rw [List.mem_singleton] at hm;have:=(hgt z hz).1;omega) (fun z hz _=>by rw [List.mem_singleton] at hz;exact List.mem_append_left _ (List.mem_range.2 (by omega))) (fun z hz=>Or.inl hz))
    have nb:∀ y,y≤G→y∉obl (.slice ka l.length kc):=fun y hy hm=>by have:=(hgt y hm).1;omega
    have s0:∀ w',Kept (obl (.slice ka l.length kc)) w13 w'→w'.cell? ⟨G,4,none⟩=some (.slice ka l.length kc):=fun w' k=>(HB7.out.kept k (nb _ (Nat.le_refl _))).cell 4;have s1:∀ w',Kept (obl (.slice ka l.length kc)) w13 w'→w'.cell? ⟨w.heap.size,0,none⟩=some (.string ⟨sm.name.toArray⟩):=fun w' k=>(HS7.out.kept k (nb _ (by omega))).cell 0;have s2:∀ w',Kept (obl (.slice ka l.length kc)) w13 w'→w'.cell? ⟨w.heap.size,1,none⟩=some (.int .i64 sm.off):=fun w' k=>(HS7.out.kept k (nb _ (by omega))).cell 1;have hmI:SmI ⟨[],m⟩:=⟨by show (-1099511627776:Int)≤m;omega,hm.2⟩;have hnI:SmI ⟨[],n⟩:=⟨by show (-1099511627776:Int)≤n;omega,hn9⟩
    have HM1:Hid (∀ w',Calls Tryz.prog 234 #[.agg #[.string ⟨#[]⟩,.int .i64 m],.agg #[.string ⟨sm.name.toArray⟩,.int .i64 sm.off],.int .i64 0] w' fun e w2=>e=.returned (.agg #[.int .i64 0,.string ⟨#[]⟩,.string ⟨sm.name.toArray⟩,.int .i64 (sm.off - m),.slice none 0 0])∧Kept [] w' w2):=Lib.hid fun w'=>by
     have:=most_any ⟨[],m⟩ sm 0 w' hmI hsm ⟨by decide,by decide⟩
     simpa using this
    have HM2:Hid (∀ w',Calls Tryz.prog 234 #[.agg #[.string ⟨sm.name.toArray⟩,.int .i64 sm.off],.agg #[.string ⟨#[]⟩,.int .i64 n],.int .i64 0] w' fun e w2=>e=.returned (.agg #[.int .i64 0,.string ⟨sm.name.toArray⟩,.string ⟨#[]⟩,.int .i64 (n - sm.off),.slice none 0 0])∧Kept [] w' w2):=Lib.hid fun w'=>by
     have:=most_any sm ⟨[],n⟩ 0 w' hsm hnI ⟨by decide,by decide⟩
     simpa using this
    have hip:inPd sm m n=.node 1 [] [] 0 [.node 0 [] sm.name (sm.off - m) [],.node 0 sm.name [] (n - sm.off) []]:=by simp [inPd,mostB]
    have hR2:=HR8.out;rw [hip] at hR2;have HR9:=Lib.hid hR2;have HIL:Hid (l.length+1≤4001):=Lib.hid (by have:=HPS.out.small;omega);clear hR2 hip hmI hnI HR8 HF HQ7 HK6 HQ6 HK5 HQ5 HP5 HP6 H6 H7 HR7 HSB HBB HBA HBS HG HK2;go_upto_region 13 with (fail);refine wp_region_T [15] (fun w'=>Kept (obl (.slice ka l.length kc)) w13 w') (by kernel_rfl) (Kept.refl _ _).drew (fun hH=>?_);refine takeT [1,13,14,15] (i:=0) (v:=?tv0) rfl (by kernel_rfl) (by kernel_rfl) (by kernel_rfl) (by kernel_rfl) (fun _ _ _ h=>h) (Or.inl ⟨by rfl,?ty0⟩) hH ?tr0
    case ty0=>intro w' hSw;(try dsimp only at hSw);go_simp;first|done|with_reducible rfl
    simp only [Act.put,List.setIfInBounds_toArray,List.set_cons_zero,List.set_cons_succ];refine takeT [13,14,15] (i:=1) (v:=?tv1) rfl (by kernel_rfl) (by kernel_rfl) (by kernel_rfl) (by kernel_rfl) (fun _ _ _ h=>h) (Or.inl ⟨by rfl,?ty1⟩) hH ?tr1
    case ty1=>intro w' hSw;(try dsimp only at hSw);go_simp;first|done|with_reducible rfl
    simp only [Act.put,List.setIfInBounds_toArray,List.set_cons_zero,List.set_cons_succ];refine takeT [3,5,9,10,11,12,13,14,15] (i:=2) (v:=?tv2) rfl (by kernel_rfl) (by kernel_rfl) (by kernel_rfl) (by kernel_rfl) (fun _ _ _ h=>h) (Or.inl ⟨by rfl,?ty2⟩) hH ?tr2
    case ty2=>intro w' hSw;(try dsimp only at hSw);go_simp;first|done|with_reducible rfl
    simp only [Act.put,List.setIfInBounds_toArray,List.set_cons_zero,List.set_cons_succ];refine takeT [5,9,10,11,12,13,14,15] (i:=3) (v:=?tv3) rfl (by kernel_rfl) (by kernel_rfl) (by kernel_rfl) (by kernel_rfl) (fun _ _ _ h=>h) (Or.inl ⟨by rfl,?ty3⟩) hH ?tr3
    case ty3=>intro w' hSw;(try dsimp only at hSw);go_simp;first|done|with_reducible rfl
    simp only [Act.put,List.setIfInBounds_toArray,List.set_cons_zero,List.set_cons_succ];refine takeT [5,9,10,11,12,13,14,15] (i:=4) (v:=?tv4) rfl (by kernel_rfl) (by kernel_rfl) (by kernel_rfl) (by kernel_rfl) (fun _ _ _ h=>h) (Or.inl ⟨by rfl,?ty4⟩) hH ?tr4
    case ty4=>intro w' hSw;(try dsimp only at hSw);go_simp;first|done|with_reducible rfl
    simp only [Act.put,List.setIfInBounds_toArray,List.set_cons_zero,List.set_cons_succ];refine takeT [9,10,11,12,13,14,15] (i:=6) (v:=?tv6) rfl (by kernel_rfl) (by kernel_rfl) (by kernel_rfl) (by kernel_rfl) (fun _ _ _ h=>h) (Or.inl ⟨by rfl,?ty6⟩) hH ?tr6
    case ty6=>intro w' hSw;(try dsimp only at hSw);go_simp;first|done|with_reducible rfl
    simp only [Act.put,List.setIfInBounds_toArray,List.set_cons_zero,List.set_cons_succ];refine takeT [8,9,10,11,12,13,14,15] (i:=7) (v:=?tv7) rfl (by kernel_rfl) (by kernel_rfl) (by kernel_rfl) (by kernel_rfl) (fun _ _ _ h=>h) (Or.inl ⟨by rfl,?ty7⟩) hH ?tr7
    case ty7=>intro w' hSw;(try dsimp only at hSw);go_simp;first|done|with_reducible rfl
    simp only [Act.put,List.setIfInBounds_toArray,List.set_cons_zero,List.set_cons_succ];refine takeT [9,10,11,12,13,14,15] (i:=8) (v:=?tv8) rfl (by kernel_rfl) (by kernel_rfl) (by kernel_rfl) (by kernel_rfl) (fun _ _ _ h=>h) (Or.inl ⟨by rfl,?ty8⟩) hH ?tr8
    case ty8=>intro w' hSw;(try dsimp only at hSw);go_simp;first|done|with_reducible rfl
    simp only [Act.put,List.setIfInBounds_toArray,List.set_cons_zero,List.set_cons_succ];refine wpAnyT_ready (rs:=[5]) (by kernel_rfl) (by simp) ?_;refine AllReadyT.cons rfl (fun K hK=>?_) AllReadyT.nil;go_simp;refine (HM1.out _).mono ?_;rintro e w6 ⟨rfl,k6⟩;have K6:Kept [] w13 w6:=(Kept.refl _ _).drew.trans k6;refine hK.out _ _ (K6.mono (by simp)) (fun hH=>?_);clear hK K k6
    (try simp only [Act.put,List.setIfInBounds_toArray,List.set_cons_zero,List.set_cons_succ])
    refine wpAnyT_ready (rs:=[9]) (by kernel_rfl) (by simp) ?_;refine AllReadyT.cons rfl (fun K hK=>?_) AllReadyT.nil;go_simp;refine (HM2.out _).mono ?_;rintro e w7 ⟨rfl,k7⟩;have K7:Kept [] w13 w7:=K6.trans k7;refine hK.out _ _ (K7.mono (by simp)) (fun hH=>?_);clear hK K k7 K6
    (try simp only [Act.put,List.setIfInBounds_toArray,List.set_cons_zero,List.set_cons_succ])
    refine wpAnyT_ready (rs:=[10]) (by kernel_rfl) (by simp) ?_;refine AllReadyT.cons rfl (fun K hK=>?_) AllReadyT.nil;go_simp;refine hK.out _ _ (hH.alloc _) (fun hH=>?_);clear hK K
    (try simp only [Act.put,List.setIfInBounds_toArray,List.set_cons_zero,List.set_cons_succ])
    obtain ⟨g7,hg7⟩:∃ g,w7.heap.size=g:=⟨_,rfl⟩;obtain ⟨wk,hwk⟩:∃ x,w7.alloc (.cells #[.int .i64 0,.string ⟨#[]⟩,.string ⟨sm.name.toArray⟩,.int .i64 (sm.off - m),.slice none 0 0,.int .i64 0,.string ⟨sm.name.toArray⟩,.string ⟨#[]⟩,.int .i64 (n - sm.off),.slice none 0 0] 46)=x:=⟨_,rfl⟩;rw [hwk] at hH ⊢;rw [hg7];have Kk:Kept [] w13 wk:=hwk▸K7.alloc _;have bk:Blk wk g7 46 #[.int .i64 0,.string ⟨#[]⟩,.string ⟨sm.name.toArray⟩,.int .i64 (sm.off - m),.slice none 0 0,.int .i64 0,.string ⟨sm.name.toArray⟩,.string ⟨#[]⟩,.int .i64 (n - sm.off),.slice none 0 0]:=hg7▸hwk▸Blk.new _ _ _;have hgw:w13.heap.size≤g7:=hg7▸K7.size;clear hwk K7;refine takeT [12,13,14,15] (i:=11) (v:=?tv11) rfl (by kernel_rfl) (by kernel_rfl) (by kernel_rfl) (by kernel_rfl) (fun _ _ _ h=>h) (Or.inl ⟨by rfl,?ty11⟩) hH ?tr11
    case ty11=>intro w' hSw;(try dsimp only at hSw);go_simp;first|done|with_reducible rfl
    (try simp only [Act.put,List.setIfInBounds_toArray,List.set_cons_zero,List.set_cons_succ])
    refine wpAnyT_ready (rs:=[12]) (by kernel_rfl) (by simp) ?_;refine AllReadyT.cons rfl (fun K hK=>?_) AllReadyT.nil;go_simp;refine hK.out _ _ (hH.alloc _) (fun hH=>?_);clear hK K
    (try simp only [Act.put,List.setIfInBounds_toArray,List.set_cons_zero,List.set_cons_succ])
    refine wpAnyT_ready (rs:=[13]) (by kernel_rfl) (by simp) ?_;refine AllReadyT.cons rfl (fun K hK=>?_) AllReadyT.nil;have k7:Kept [] w13 (wk.alloc (.cells #[.int .i64 1,.string ⟨#[]⟩,.string ⟨#[]⟩,.int .i64 0,.slice (some ⟨g7,0,none⟩) 2 2] 46)):=Kk.alloc _
    have hg8:Grow PdR 5 46 (G+1) (List.range (G+1)++obl (.slice ka l.length kc)) (wk.alloc (.cells #[.int .i64 1,.string ⟨#[]⟩,.string ⟨#[]⟩,.int .i64 0,.slice (some ⟨g7,0,none⟩) 2 2] 46)) (.slice ka l.length kc) l :=
     HG7.out.step k7 (fun z hz hm=>by simp at hm) (fun z hz _=>by simp at hz) (fun z hz=>Or.inl hz)
    have hst7:Stable (List.range (G+1)++obl (.slice ka l.length kc)) (fun w=>PdR w [.int .i64 1,.string ⟨#[]⟩,.string ⟨#[]⟩,.int .i64 0,.slice (some ⟨g7,0,none⟩) 2 2] (.node 1 [] [] 0 [.node 0 [] sm.name (sm.off - m) [],.node 0 sm.name [] (n - sm.off) []])) (wk.alloc (.cells #[.int .i64 1,.string ⟨#[]⟩,.string ⟨#[]⟩,.int .i64 0,.slice (some ⟨g7,0,none⟩) 2 2] 46)):=by
     obtain ⟨cs,hcs,hst⟩:=PdN.pair (B:=w13.heap.size) (c1:=[.int .i64 0,.string ⟨#[]⟩,.string ⟨sm.name.toArray⟩,.int .i64 (sm.off - m),.slice none 0 0]) (c2:=[.int .i64 0,.string ⟨sm.name.toArray⟩,.string ⟨#[]⟩,.int .i64 (n - sm.off),.slice none 0 0]) bk hgw (atom_stable _ _ [] _ _) (atom_stable _ _ _ [] _) 1 0 [] []
     have e:cs=[.int .i64 1,.string ⟨#[]⟩,.string ⟨#[]⟩,.int .i64 0,.slice (some ⟨g7,0,none⟩) 2 2]:=by
      injection hcs with hcs;have:=congrArg Array.toList hcs
      simpa using this.symm
     rw [←e]
     exact (hst.step ((Kept.refl [] wk).alloc _) (by simp) (fun z hz=>Or.inl hz)).less (fun z hz=>by
      rcases List.mem_append.1 hz with h|h
      ·exact Or.inl (List.mem_range.2 (by have:=List.mem_range.1 h;omega))
      ·exact Or.inl (List.mem_range.2 (by have:=(hgt z h).2;omega)))
    refine step_append_grow rfl _ _ 44 rfl i0 _ 72 Tryz.underlying44 hi hz0 hz1 hz2 rfl (by decide) (by decide) rfl hg8 _ [.int .i64 1,.string ⟨#[]⟩,.string ⟨#[]⟩,.int .i64 0,.slice (some ⟨g7,0,none⟩) 2 2] (.node 1 [] [] 0 [.node 0 [] sm.name (sm.off - m) [],.node 0 sm.name [] (n - sm.off) []]) rfl (row_of_blk (cs:=[.int .i64 1,.string ⟨#[]⟩,.string ⟨#[]⟩,.int .i64 0,.slice (some ⟨g7,0,none⟩) 2 2]) (Blk.new _ _ _) rfl (by decide)) hst7 (by simp [Value.oneCell']) (by have:=HIL.out;omega) (by simp only [World.size_alloc];have:=Kk.size;omega) (fun z hz=>List.mem_append_right _ hz) ?_;intro a' c' w8 hg9 k8 ho8;have hS8:Kept (obl (.slice ka l.length kc)) w13 w8:=(k7.mono (by simp)).trans k8;refine hK.out _ _ hS8 (fun hH=>?_);clear hK K
    (try simp only [Act.put,List.setIfInBounds_toArray])
    refine takeT [15] (i:=14) (v:=?tv14) rfl (by kernel_rfl) (by kernel_rfl) (by kernel_rfl) (by kernel_rfl) (fun _ _ _ h=>h) (Or.inl ⟨by rfl,?ty14⟩) hH ?tr14
    case ty14=>intro w' hSw;(try dsimp only at hSw);go_simp;first|done|with_reducible rfl
    simp only [Act.put];have hb8:=HB7.out.kept hS8 (nb _ (Nat.le_refl _));have ha8:=HA7.out.kept hS8 (nb _ (by omega));have hs8:=HS7.out.kept hS8 (nb _ (by omega));have x4:w8.cell? ⟨G,4,none⟩=some (.slice ka l.length kc):=hb8.cell 4;have x5:=hb8.frozen 4;have HB8:=Lib.hid hb8;have HA8:=Lib.hid ha8;have HSM8:=Lib.hid hs8;have HG8:=Lib.hid hg9;have K8:=Lib.hid hS8;have HO8:=Lib.hid ho8;have HSZ:=Lib.hid (World.size_alloc wk (.cells #[.int .i64 1,.string ⟨#[]⟩,.string ⟨#[]⟩,.int .i64 0,.slice (some ⟨g7,0,none⟩) 2 2] 46));have HKS:=Lib.hid Kk.size;clear hb8 ha8 hs8 hg9 hS8 ho8 k8 hg8 hst7 k7 Kk bk s0 s1 s2 nb;refine wpAnyT_ready (rs:=[15]) (by kernel_rfl) (by simp) ?_;refine AllReadyT.last rfl (by kernel_rfl) (fun K hK=>?_);go_simp;refine hK.out _ _ ?_;clear hK K
    (try simp only [Act.put,List.setIfInBounds_toArray,List.set_cons_zero,List.set_cons_succ])
    refine wpAnyT_done (by kernel_rfl) ?_ _;obtain ⟨w9,hw9⟩:∃ x,w8.setCell ⟨G,4,none⟩ (.slice a' (l.length+1) c')=x:=⟨_,rfl⟩;rw [hw9];have k89:Kept [G] w8 w9:=hw9▸(Kept.refl _ _).setCell (Or.inl (by simp)) _;have hb9:Blk w9 G 46 #[.int .i64 2,.string ⟨#[]⟩,.string ⟨#[]⟩,.int .i64 0,.slice a' (l.length+1) c']:=hw9▸HB8.out.set_ 4 _;have ha9:=HA8.out.kept k89 (by simp;omega);have hs9:=HSM8.out.kept k89 (by simp;omega);have h9:Ps B W0 rb ts a c z w9 j2:=(HP7.out.far K8.out (fun y hy=>by have:=(hgt y hy).1;omega)).far k89 (fun y hy=>by rw [List.mem_singleton] at hy;omega)
    have hgn:∀ y∈obl (.slice a' (l.length+1) c'),G+1≤y:=fun y hy=>by
     rcases HO8.out y hy with h|h
     ·exact (hgt y h).1
     ·have:=HSZ.out;have:=HKS.out;omega
    have hg9:=HG8.out.step (X':=List.range (G+1)++obl (.slice a' (l.length+1) c')) k89 (fun y hy hm=>by rw [List.mem_singleton] at hm;have:=hgn y hy;omega) (fun y hy _=>by rw [List.mem_singleton] at hy;exact List.mem_append_left _ (List.mem_append_left _ (List.mem_range.2 (by omega)))) (fun y hy=>by
     rcases List.mem_append.1 hy with h|h
     ·exact Or.inl (List.mem_append_left _ (List.mem_append_left _ h))
     ·exact Or.inl (List.mem_append_right _ h))
    have hk9:Kept [rb] w w9:=(HK7.out.then_ K8.out (fun y hy hm=>by have:=(hgt y hm).1;omega)).fresh k89 (fun y hy=>by rw [List.mem_singleton] at hy;omega)
    have hsz9:G+1≤w9.heap.size:=by have:=K8.out.size;have:=k89.size;omega
    have hsk:=Lib.hid (skip_any h9 [44]);have HB9:=Lib.hid hb9;have HA9:=Lib.hid ha9;have HS9:=Lib.hid hs9;have HG9:=Lib.hid hg9;have HK9:=Lib.hid hk9;have HGN:=Lib.hid hgn;have HL9:=Lib.hid h9.le;have HWG:=Lib.hid (show wr.cell? ⟨G,4,none⟩=some (.slice ka l.length kc) from HBW.out.cell 4);clear hw9 k89 hb9 ha9 hs9 h9 hgn hg9 hk9 hgt HB8 HA8 HSM8 HG8 K8 HO8 HP7 HB7 HA7 HS7 HG7 x4 x5 hH HK7
    cases hsw:skipP ts [44] j2
    ·rw [hsw] at hsk;have hfin:=HR9.out
     simp only at hfin
     rw [hsw,if_neg (by simp)] at hfin;have HFIN:=Lib.hid hfin;clear hfin;go_wp2_with (go_at_call 115;refine hsk.out.mono ?_;rintro e w10 ⟨rfl,k10,h10⟩)
     go_roundw
     case rel =>
      refine ⟨false,j2,f,l++[(.node 1 [] [] 0 [.node 0 [] sm.name (sm.off - m) [],.node 0 sm.name [] (n - sm.off) []])],.slice a' (l.length+1) c',rfl,by omega,h10,HK9.out.trans k10,HB9.out.kept k10 (by simp;omega),HA9.out.kept k10 (by simp;omega),HS9.out.kept k10 (by simp;omega),?_,?_,by have:=k10.size;omega,?_⟩
      ·exact HG9.out.step k10 (fun y hy hm=>by rw [List.mem_singleton] at hm;have:=HGN.out y hy;omega) (fun y hy _=>by rw [List.mem_singleton] at hy;exact List.mem_append_left _ (List.mem_range.2 (by omega))) (fun y hy=>Or.inl hy)
      ·rw [List.length_append];simp;omega
      ·simp only [Bool.false_eq_true,if_false];exact HFIN.out.symm
     case measure =>
      rw [HWG.out];simp only [stopped,cellLen,if_true,Bool.false_eq_true,if_false];omega
    ·rw [hsw] at hsk;have hfin:=HR9.out
     simp only at hfin
     rw [hsw,if_pos rfl] at hfin;have HFIN:=Lib.hid hfin;clear hfin;go_wp2_with (go_at_call 115;refine hsk.out.mono ?_;rintro e w10 ⟨rfl,k10,h10⟩)
     go_roundw
     case rel =>
      refine ⟨true,j2+1,f,l++[(.node 1 [] [] 0 [.node 0 [] sm.name (sm.off - m) [],.node 0 sm.name [] (n - sm.off) []])],.slice a' (l.length+1) c',rfl,by omega,h10,HK9.out.trans k10,HB9.out.kept k10 (by simp;omega),HA9.out.kept k10 (by simp;omega),HS9.out.kept k10 (by simp;omega),?_,?_,by have:=k10.size;omega,?_⟩
      ·exact HG9.out.step k10 (fun y hy hm=>by rw [List.mem_singleton] at hm;have:=HGN.out y hy;omega) (fun y hy _=>by rw [List.mem_singleton] at hy;exact List.mem_append_left _ (List.mem_range.2 (by omega))) (fun y hy=>Or.inl hy)
      ·rw [List.length_append];simp;omega
      ·simp only [if_true];exact ⟨by omega,HFIN.out⟩
     case measure =>
      rw [HWG.out,show w10.cell? ⟨G,4,none⟩=some (.slice a' (l.length+1) c') from (HB9.out.kept k10 (by simp;omega)).cell 4];simp only [stopped,cellLen,Bool.false_eq_true,if_false];omega
end Go.Proofs.YtpcmamoomaddoaaGreatDoor
