/- The parser's least . -/
import Derived.Test.YtpcmamoomaddoaaGreatDoorLst
/- JOINED: All Lea -/
/- The parser's all and some. -/
namespace Go.Proofs.YtpcmamoomaddoaaGreatDoor
open Go.RowKit
theorem sepP_mono {α:Type} {skip:Nat→Bool} {e:Nat→Res α} (he:∀ i x j,e i=.ok (x,j)→i≤j):∀ (f i:Nat) (acc l:List α) (j:Nat),sepP skip e f i acc=.ok (l,j)→i≤j
 | 0,_,_,_,_,h=>by simp [sepP] at h
 | f+1,i,acc,l,j,h=>by
  rw [sepP] at h;obtain ⟨x,j1,hx,h⟩:=bnd_ok h;have h1:=he _ _ _ hx
  split at h
  ·have:=sepP_mono he _ _ _ _ _ h;omega
  ·injection h with h;injection h with _ h;omega
theorem allP_mono {ts:List Tok} {u:Nat→Res Pd} (hu:∀ i p j,u i=.ok (p,j)→i≤j) {i j:Nat} {p:Pd} (h:allP ts u i=.ok (p,j)):i≤j:=by
 unfold allP at h
 obtain ⟨l,j1,hl,h⟩:=bnd_ok h;injection h with h;injection h with _ h;have:=sepP_mono hu _ _ _ _ _ hl;omega
theorem all_end {w2:World} {tmps:Array Value} {v0 v1 v2 v3 v4 X:Value} {b:Nat} {R:Ending→World→Prop} (hb:Blk w2 b 46 #[v0,v1,v2,v3,v4]) (h2:tmps[2]?.getD undef=.pointer (some ⟨b,0,none⟩))
  (hX:.agg #[v0,v1,v2,v3,v4]=X) (hR:R (.returned X) w2) :
  bodyPost Tryz.prog Tryz.f118 R Exit.ret { tmps:=tmps,defers:=[] } w2:=by
 subst hX;have c0:w2.cell? ⟨b,0,none⟩=some v0:=hb.cell 0;have c1:w2.cell? ⟨b,1,none⟩=some v1:=hb.cell 1;have c2:w2.cell? ⟨b,2,none⟩=some v2:=hb.cell 2;have c3:w2.cell? ⟨b,3,none⟩=some v3:=hb.cell 3;have c4:w2.cell? ⟨b,4,none⟩=some v4:=hb.cell 4;refine bodyPost_ret (v:=.agg #[v0,v1,v2,v3,v4]) ?_ rfl hR;simp only [results,Tryz.results118]
 simp [go_sem,h2,c0,c1,c2,c3,c4]
set_option maxRecDepth 100000 in
set_option maxHeartbeats 4000000 in
theorem all_any {B:Nat} {W0:World} {rb:Nat} {ts:List Tok} {a:Option Addr} {c:Nat} {z:Int} {w:World} {n0:Nat} (u:Nat→Res Pd) (h:Ps B W0 rb ts a c z w n0)
  (hu:∀ w i,n0≤i→Ps B W0 rb ts a c z w i→Calls Tryz.prog 153 #[.pointer (some ⟨rb,0,none⟩)] w (PdE B W0 rb ts a c z w (u i))) (hmono:∀ i p j,u i=.ok (p,j)→i≤j) :
  Calls Tryz.prog 118 #[.pointer (some ⟨rb,0,none⟩)] w (PdE B W0 rb ts a c z w (allP ts u n0)):=by
 have hmf:∀ (fn:Fn) (first cap:Array Value) (w:World),(Instr.makeFunc fn first cap).run Tryz.prog w=.ok (.func fn first cap) w:=fun _ _ _ _=>rfl;obtain ⟨W,hW⟩:∃ W,w.alloc (.cells #[.int .i64 0,.string ⟨#[]⟩,.string ⟨#[]⟩,.int .i64 0,.slice none 0 0] 46)=W:=⟨_,rfl⟩;have hkW:Kept [] w W:=hW▸(Kept.refl _ _).alloc _;have hB:Blk W w.heap.size 46 #[.int .i64 0,.string ⟨#[]⟩,.string ⟨#[]⟩,.int .i64 0,.slice none 0 0]:=hW▸Blk.new _ _ _;have hw:=h.step hkW;have hrb:rb < w.heap.size:=h.blk.lt;have hsm:=h.small;have hL:=listU_any (w:=W) (n0:=n0) u 1 wAnd hw hu hmono (ts.length+1) (by omega) (by omega);obtain ⟨R,hR⟩:∃ R,allP ts u n0=R:=⟨_,rfl⟩;have hR2:=hR
 unfold allP at hR2
 rw [hR2] at hL;rw [hR];have HL:=Lib.hid hL;have HB:=Lib.hid hB;have HK:Hid (Kept [rb] w W):=Lib.hid (hkW.mono (by simp));have HW:=Lib.hid hW;have HSZ:Hid (w.heap.size < W.heap.size):=Lib.hid hB.lt;clear hW hkW hB h hw hL hR hR2 hu hmono
 go_enter Tryz.func118,Tryz.ntmps118
 go_upto_region 1 with (fail);have hW':=HW.out;rw [hW'];clear hW'
 cases hr:R with
 | error k =>
  rw [hr] at HL;subst hr;go_wp2_with (go_at_call 117;refine HL.out.mono ?_;unfold PdE;rintro e w6 ⟨⟨p,rfl⟩,k6⟩);exact ⟨rfl,⟨p,rfl⟩,HK.out.trans k6⟩
 | ok y =>
  obtain ⟨p,j⟩:=y;rw [hr] at HL;subst hr;obtain ⟨qk,ql,qr,qc,qks⟩:=p;go_wp2_with (go_at_call 117;refine HL.out.mono ?_;unfold PdE;rintro e w6 ⟨v,rfl,k6,h6,cs,rfl,hst⟩;obtain ⟨qa,qcc,rfl,_⟩:=hst.get.rows;have hb6:=HB.out.kept k6 (by simp;omega);have c0:w6.cell? ⟨w.heap.size,0,none⟩=some (.int .i64 0):=hb6.cell 0;have c1:w6.cell? ⟨w.heap.size,1,none⟩=some (.string ⟨#[]⟩):=hb6.cell 1;have c2:w6.cell? ⟨w.heap.size,2,none⟩=some (.string ⟨#[]⟩):=hb6.cell 2;have c3:w6.cell? ⟨w.heap.size,3,none⟩=some (.int .i64 0):=hb6.cell 3;have c4:w6.cell? ⟨w.heap.size,4,none⟩=some (.slice none 0 0):=hb6.cell 4;have f0:=hb6.frozen 0;have f1:=hb6.frozen 1;have f2:=hb6.frozen 2;have f3:=hb6.frozen 3;have f4:=hb6.frozen 4;have HB6:=Lib.hid hb6;have HK6:=Lib.hid (HK.out.trans k6);have HP6:=Lib.hid h6;have HST:=Lib.hid hst;clear hb6 k6 h6 hst);refine all_end (((((HB6.out.set_ 0 _).set_ 1 _).set_ 2 _).set_ 3 _).set_ 4 _) rfl rfl ?_;have kF:=(((((Kept.refl [w.heap.size] w6).setCell (p:=⟨w.heap.size,0,none⟩) (Or.inl (by simp)) (.int .i64 qk)).setCell (p:=⟨w.heap.size,1,none⟩) (Or.inl (by simp)) (.string ⟨ql.toArray⟩)).setCell (p:=⟨w.heap.size,2,none⟩) (Or.inl (by simp)) (.string ⟨qr.toArray⟩)).setCell (p:=⟨w.heap.size,3,none⟩) (Or.inl (by simp)) (.int .i64 qc)).setCell (p:=⟨w.heap.size,4,none⟩) (Or.inl (by simp)) (.slice qa qks.length qcc);refine ⟨_,rfl,HK6.out.fresh kF (fun y hy=>by rw [List.mem_singleton] at hy;omega),HP6.out.far kF (fun y hy=>by rw [List.mem_singleton] at hy;omega),?_⟩;exact ⟨[.int .i64 qk,.string ⟨ql.toArray⟩,.string ⟨qr.toArray⟩,.int .i64 qc,.slice qa qks.length qcc],rfl,HST.out.step kF (fun y hy _=>by rw [List.mem_singleton] at hy;exact List.mem_range.2 (by have:=HSZ.out;omega)) (fun y hy=>Or.inl (List.mem_range.2 (by have:=HSZ.out;have:=List.mem_range.1 hy;omega)))⟩
theorem some_end {w2:World} {tmps:Array Value} {v0 v1 v2 v3 v4 X:Value} {b:Nat} {R:Ending→World→Prop} (hb:Blk w2 b 46 #[v0,v1,v2,v3,v4]) (h2:tmps[2]?.getD undef=.pointer (some ⟨b,0,none⟩))
  (hX:.agg #[v0,v1,v2,v3,v4]=X) (hR:R (.returned X) w2) :
  bodyPost Tryz.prog Tryz.f71 R Exit.ret { tmps:=tmps,defers:=[] } w2:=by
 subst hX;have c0:w2.cell? ⟨b,0,none⟩=some v0:=hb.cell 0;have c1:w2.cell? ⟨b,1,none⟩=some v1:=hb.cell 1;have c2:w2.cell? ⟨b,2,none⟩=some v2:=hb.cell 2;have c3:w2.cell? ⟨b,3,none⟩=some v3:=hb.cell 3;have c4:w2.cell? ⟨b,4,none⟩=some v4:=hb.cell 4;refine bodyPost_ret (v:=.agg #[v0,v1,v2,v3,v4]) ?_ rfl hR;simp only [results,Tryz.results71]
 simp [go_sem,h2,c0,c1,c2,c3,c4]
set_option maxRecDepth 100000 in
set_option maxHeartbeats 4000000 in
theorem some_any {B:Nat} {W0:World} {rb:Nat} {ts:List Tok} {a:Option Addr} {c:Nat} {z:Int} {w:World} {n0:Nat} (u:Nat→Res Pd) (h:Ps B W0 rb ts a c z w n0)
  (hu:∀ w i,n0≤i→Ps B W0 rb ts a c z w i→Calls Tryz.prog 153 #[.pointer (some ⟨rb,0,none⟩)] w (PdE B W0 rb ts a c z w (u i))) (hmono:∀ i p j,u i=.ok (p,j)→i≤j) :
  Calls Tryz.prog 71 #[.pointer (some ⟨rb,0,none⟩)] w (PdE B W0 rb ts a c z w (someP ts u n0)):=by
 have hmf:∀ (fn:Fn) (first cap:Array Value) (w:World),(Instr.makeFunc fn first cap).run Tryz.prog w=.ok (.func fn first cap) w:=fun _ _ _ _=>rfl;obtain ⟨W,hW⟩:∃ W,w.alloc (.cells #[.int .i64 0,.string ⟨#[]⟩,.string ⟨#[]⟩,.int .i64 0,.slice none 0 0] 46)=W:=⟨_,rfl⟩;have hkW:Kept [] w W:=hW▸(Kept.refl _ _).alloc _;have hB:Blk W w.heap.size 46 #[.int .i64 0,.string ⟨#[]⟩,.string ⟨#[]⟩,.int .i64 0,.slice none 0 0]:=hW▸Blk.new _ _ _;have hw:=h.step hkW;have hrb:rb < w.heap.size:=h.blk.lt;have hsm:=h.small;have hL:=listA_any (w:=W) (n0:=n0) (allP ts u) 2 wOr hw (fun w i hi hp=>all_any u hp (fun w j hj hq=>hu w j (by omega) hq) hmono) (fun i p j=>allP_mono hmono) (ts.length+1) (by omega) (by omega);obtain ⟨R,hR⟩:∃ R,someP ts u n0=R:=⟨_,rfl⟩;have hR2:=hR
 unfold someP at hR2
 rw [hR2] at hL;rw [hR];have HL:=Lib.hid hL;have HB:=Lib.hid hB;have HK:Hid (Kept [rb] w W):=Lib.hid (hkW.mono (by simp));have HW:=Lib.hid hW;have HSZ:Hid (w.heap.size < W.heap.size):=Lib.hid hB.lt;clear hW hkW hB h hw hL hR hR2 hu hmono
 go_enter Tryz.func71,Tryz.ntmps71
 go_upto_region 1 with (fail);have hW':=HW.out;rw [hW'];clear hW'
 cases hr:R with
 | error k =>
  rw [hr] at HL;subst hr;go_wp2_with (go_at_call 117;refine HL.out.mono ?_;unfold PdE;rintro e w6 ⟨⟨p,rfl⟩,k6⟩);exact ⟨rfl,⟨p,rfl⟩,HK.out.trans k6⟩
 | ok y =>
  obtain ⟨p,j⟩:=y;rw [hr] at HL;subst hr;obtain ⟨qk,ql,qr,qc,qks⟩:=p;go_wp2_with (go_at_call 117;refine HL.out.mono ?_;unfold PdE;rintro e w6 ⟨v,rfl,k6,h6,cs,rfl,hst⟩;obtain ⟨qa,qcc,rfl,_⟩:=hst.get.rows;have hb6:=HB.out.kept k6 (by simp;omega);have c0:w6.cell? ⟨w.heap.size,0,none⟩=some (.int .i64 0):=hb6.cell 0;have c1:w6.cell? ⟨w.heap.size,1,none⟩=some (.string ⟨#[]⟩):=hb6.cell 1;have c2:w6.cell? ⟨w.heap.size,2,none⟩=some (.string ⟨#[]⟩):=hb6.cell 2;have c3:w6.cell? ⟨w.heap.size,3,none⟩=some (.int .i64 0):=hb6.cell 3;have c4:w6.cell? ⟨w.heap.size,4,none⟩=some (.slice none 0 0):=hb6.cell 4;have f0:=hb6.frozen 0;have f1:=hb6.frozen 1;have f2:=hb6.frozen 2;have f3:=hb6.frozen 3;have f4:=hb6.frozen 4;have HB6:=Lib.hid hb6;have HK6:=Lib.hid (HK.out.trans k6);have HP6:=Lib.hid h6;have HST:=Lib.hid hst;clear hb6 k6 h6 hst);refine some_end (((((HB6.out.set_ 0 _).set_ 1 _).set_ 2 _).set_ 3 _).set_ 4 _) rfl rfl ?_;have kF:=(((((Kept.refl [w.heap.size] w6).setCell (p:=⟨w.heap.size,0,none⟩) (Or.inl (by simp)) (.int .i64 qk)).setCell (p:=⟨w.heap.size,1,none⟩) (Or.inl (by simp)) (.string ⟨ql.toArray⟩)).setCell (p:=⟨w.heap.size,2,none⟩) (Or.inl (by simp)) (.string ⟨qr.toArray⟩)).setCell (p:=⟨w.heap.size,3,none⟩) (Or.inl (by simp)) (.int .i64 qc)).setCell (p:=⟨w.heap.size,4,none⟩) (Or.inl (by simp)) (.slice qa qks.length qcc);refine ⟨_,rfl,HK6.out.fresh kF (fun y hy=>by rw [List.mem_singleton] at hy;omega),HP6.out.far kF (fun y hy=>by rw [List.mem_singleton] at hy;omega),?_⟩;exact ⟨[.int .i64 qk,.string ⟨ql.toArray⟩,.string ⟨qr.toArray⟩,.int .i64 qc,.slice qa qks.length qcc],rfl,HST.out.step kF (fun y hy _=>by rw [List.mem_singleton] at hy;exact List.mem_range.2 (by have:=HSZ.out;omega)) (fun y hy=>Or.inl (List.mem_range.2 (by have:=HSZ.out;have:=List.mem_range.1 hy;omega)))⟩
end Go.Proofs.YtpcmamoomaddoaaGreatDoor
namespace Go.Proofs.YtpcmamoomaddoaaGreatDoor
open Go.RowKit
theorem takeP_mono {ts:List Tok} {s:Bs} {i j:Nat} {y:Unit} (h:takeP ts s i=.ok (y,j)):i≤j:=by
 unfold takeP at h
 split at h
 ·cases h;omega
 ·cases h
theorem numberP_mono {ts:List Tok} {i j:Nat} {n:Int} (h:numberP ts i=.ok (n,j)):i≤j:=by
 unfold numberP at h
 split at h
 ·cases h
 ·split at h
  ·cases h;omega
  ·cases h
theorem someP_mono {ts:List Tok} {u:Nat→Res Pd} (hu:∀ i p j,u i=.ok (p,j)→i≤j) {i j:Nat} {p:Pd} (h:someP ts u i=.ok (p,j)):i≤j:=by
 unfold someP at h
 cases hl:sepP (skipP ts wOr) (allP ts u) (ts.length+1) i [] with
 | error k=>rw [hl] at h;cases h
 | ok y =>
  obtain ⟨l,k⟩:=y;rw [hl] at h
  cases h
  exact sepP_mono (fun _ _ _ h=>allP_mono hu h) _ _ _ _ _ hl
theorem least_end {w2:World} {tmps:Array Value} {v0 v1 v2 v3 v4 X:Value} {b:Nat} {R:Ending→World→Prop} (hb:Blk w2 b 46 #[v0,v1,v2,v3,v4]) (h2:tmps[4]?.getD undef=.pointer (some ⟨b,0,none⟩))
  (hX:.agg #[v0,v1,v2,v3,v4]=X) (hR:R (.returned X) w2) :
  bodyPost Tryz.prog Tryz.f196 R Exit.ret { tmps:=tmps,defers:=[] } w2:=by
 subst hX;have c0:w2.cell? ⟨b,0,none⟩=some v0:=hb.cell 0;have c1:w2.cell? ⟨b,1,none⟩=some v1:=hb.cell 1;have c2:w2.cell? ⟨b,2,none⟩=some v2:=hb.cell 2;have c3:w2.cell? ⟨b,3,none⟩=some v3:=hb.cell 3;have c4:w2.cell? ⟨b,4,none⟩=some v4:=hb.cell 4;refine bodyPost_ret (v:=.agg #[v0,v1,v2,v3,v4]) ?_ rfl hR;simp only [results,Tryz.results196]
 simp [go_sem,h2,c0,c1,c2,c3,c4]
set_option maxRecDepth 100000 in
set_option maxHeartbeats 8000000 in
theorem least_any {B:Nat} {W0:World} {rb:Nat} {ts:List Tok} {a:Option Addr} {c:Nat} {z:Int} {w:World} {n0:Nat} (pos:Nat) (hpos:pos≤ts.length) (u:Nat→Res Pd) (h:Ps B W0 rb ts a c z w n0)
  (hu:∀ w i,n0≤i→Ps B W0 rb ts a c z w i→Calls Tryz.prog 153 #[.pointer (some ⟨rb,0,none⟩)] w (PdE B W0 rb ts a c z w (u i))) (hmono:∀ i p j,u i=.ok (p,j)→i≤j) :
  Calls Tryz.prog 196 #[.pointer (some ⟨rb,0,none⟩),.int .i64 (pos:Int)] w (PdE B W0 rb ts a c z w (leastP ts u n0)):=by
 obtain ⟨W,hW⟩:∃ W,w.alloc (.cells #[.int .i64 0,.string ⟨#[]⟩,.string ⟨#[]⟩,.int .i64 0,.slice none 0 0] 46)=W:=⟨_,rfl⟩;have hkW:Kept [] w W:=hW▸(Kept.refl _ _).alloc _;have hB:Blk W w.heap.size 46 #[.int .i64 0,.string ⟨#[]⟩,.string ⟨#[]⟩,.int .i64 0,.slice none 0 0]:=hW▸Blk.new _ _ _;have hw:=h.step hkW;have hrb:rb < w.heap.size:=h.blk.lt;have hsm:=h.small;obtain ⟨R,hR⟩:∃ R,leastP ts u n0=R:=⟨_,rfl⟩;rw [hR]
 unfold leastP at hR
 have H1:=Lib.hid (take_any hw wLeast);have HB:=Lib.hid hB;have HK:Hid (Kept [rb] w W):=Lib.hid (hkW.mono (by simp));have HW:=Lib.hid hW;have HR:=Lib.hid hR;clear hW hkW hB h hw hR
 go_enter Tryz.func196,Tryz.ntmps196
 go_upto_region 1 with (fail);have hW':=HW.out;rw [hW'];clear hW'
 cases e1:takeP ts wLeast n0 with
 | error k =>
  have hR:=HR.out;rw [e1] at H1 hR;simp only [bnd] at hR;subst hR;go_wp2_with (go_at_call 69;refine H1.out.mono ?_;unfold TakeE;rintro e w1 ⟨⟨p,rfl⟩,k1⟩);exact ⟨rfl,⟨p,rfl⟩,HK.out.trans k1⟩
 | ok y1 =>
 obtain ⟨u1,j1⟩:=y1;have hR:=HR.out;rw [e1] at H1 hR;simp only [bnd] at hR;have HR1:=Lib.hid hR;clear hR;go_upto_region 2 with (go_at_call 69;refine H1.out.mono ?_;unfold TakeE;rintro e w1 ⟨rfl,k1,h1⟩);have H2:=Lib.hid (pnum_any h1);have K1:=Lib.hid (HK.out.trans k1);have P1:=Lib.hid h1;have B1:=Lib.hid (HB.out.kept k1 (by simp;omega));clear k1 h1
 cases e2:numberP ts j1 with
 | error k =>
  have hR:=HR1.out;rw [e2] at H2 hR
  simp only at hR
  subst hR;go_wp2_with (go_at_call 233;refine H2.out.mono ?_;unfold NumE;rintro e w2 ⟨⟨p,rfl⟩,k2⟩);exact ⟨rfl,⟨p,rfl⟩,K1.out.trans k2⟩
 | ok y2 =>
 obtain ⟨n,j2⟩:=y2;have hR:=HR1.out;rw [e2] at H2 hR
 simp only at hR
 have HR2:=Lib.hid hR;clear hR;go_upto_region 3 with (go_at_call 233;refine H2.out.mono ?_;unfold NumE;rintro e w2 ⟨rfl,k2,h2⟩);obtain ⟨V,hV⟩:∃ V,w2.alloc (.cells #[.int .i64 3,.string ⟨#[]⟩,.string ⟨#[]⟩,.int .i64 n,.slice none 0 0] 46)=V:=⟨_,rfl⟩;rw [hV];obtain ⟨G,hG⟩:∃ G,w2.heap.size=G:=⟨_,rfl⟩;rw [hG];have kV:Kept [] w2 V:=hV▸(Kept.refl _ _).alloc _;have bV:Blk V G 46 #[.int .i64 3,.string ⟨#[]⟩,.string ⟨#[]⟩,.int .i64 n,.slice none 0 0]:=hG▸hV▸Blk.new _ _ _;have bA:Blk V w.heap.size 46 #[.int .i64 0,.string ⟨#[]⟩,.string ⟨#[]⟩,.int .i64 0,.slice none 0 0]:=(B1.out.kept k2 (by simp;omega)).kept kV (by simp)
 have hAG:w.heap.size < G:=by have:=(B1.out.kept k2 (by simp;omega)).lt;omega
 have H3:=Lib.hid (take_any (h2.step kV) wOf);have K3:=Lib.hid ((K1.out.trans k2).trans (kV.mono (by simp)));have BV:=Lib.hid bV;have BAV:=Lib.hid bA;clear hV kV bV bA k2 h2 hG HK HB HW HR P1 B1 K1 H1 H2 HR1
 cases e3:takeP ts wOf j2 with
 | error k =>
  have hR:=HR2.out;rw [e3] at H3 hR
  simp only at hR
  subst hR;go_wp2_with (go_at_call 69;refine H3.out.mono ?_;unfold TakeE;rintro e w1 ⟨⟨p,rfl⟩,k1⟩);exact ⟨rfl,⟨p,rfl⟩,K3.out.trans k1⟩
 | ok y3 =>
 obtain ⟨u3,j3⟩:=y3;have hR:=HR2.out;rw [e3] at H3 hR
 simp only at hR
 have HR3:=Lib.hid hR;clear hR;go_upto_region 4 with (go_at_call 69;refine H3.out.mono ?_;unfold TakeE;rintro e w3 ⟨rfl,k3,h3⟩);have H4:=Lib.hid (take_any h3 [40]);have K4:=Lib.hid (K3.out.trans k3);have B4:=Lib.hid (BV.out.kept k3 (by simp;omega));have B4A:=Lib.hid (BAV.out.kept k3 (by simp;omega));clear k3 h3 H3 K3 BV BAV HR2
 cases e4:takeP ts [40] j3 with
 | error k =>
  have hR:=HR3.out;rw [e4] at H4 hR
  simp only at hR
  subst hR;go_wp2_with (go_at_call 69;refine H4.out.mono ?_;unfold TakeE;rintro e w1 ⟨⟨p,rfl⟩,k1⟩);exact ⟨rfl,⟨p,rfl⟩,K4.out.trans k1⟩
 | ok y4 =>
 obtain ⟨u4,j4⟩:=y4;have hR:=HR3.out;rw [e4] at H4 hR
 simp only at hR
 have hn4:n0≤j4:=by
  have a1:=takeP_mono e1;have a2:=numberP_mono e2;have a3:=takeP_mono e3;have a4:=takeP_mono e4;omega
 obtain ⟨R1,hR1⟩:∃ R1,sepP (skipP ts [44]) (someP ts u) (ts.length+1) j4 []=R1:=⟨_,rfl⟩;rw [hR1] at hR;have HR5:=Lib.hid hR;have HR4:=Lib.hid hR1;have HE:=Lib.hid (fun (w:World) (i:Nat) (hi:j4≤i) (hp:Ps B W0 rb ts a c z w i)=>some_any u hp (fun w j hj hq=>hu w j (by omega) hq) hmono);clear hR hR1 HR3 e1 e2 e3 e4;obtain ⟨f0,hf0⟩:∃ f0,ts.length+1=f0:=⟨_,rfl⟩;rw [hf0] at HR4;obtain ⟨i0,hi,hz0,hz1,hz2⟩:=info_parts infoPred;go_upto_region 5 with (go_at_call 69;refine H4.out.mono ?_;unfold TakeE;rintro e w4 ⟨rfl,k4,h4⟩);have HK4:=Lib.hid (K4.out.trans k4);have BG:=Lib.hid (B4.out.kept k4 (by simp;omega));have BA:=Lib.hid (B4A.out.kept k4 (by simp;omega));have P4:=Lib.hid h4;clear k4 h4 H4 K4 B4 B4A;go_wp2_with fail
 go_loopw [6] (fun v wr=>∃ (b:Bool) (i f:Nat) (l:List Pd) (kv:Value),v=.bool b∧j4≤i∧Ps B W0 rb ts a c z wr i∧Kept [rb] w wr∧Blk wr G 46 #[.int .i64 3,.string ⟨#[]⟩,.string ⟨#[]⟩,.int .i64 n,kv] ∧
  Blk wr w.heap.size 46 #[.int .i64 0,.string ⟨#[]⟩,.string ⟨#[]⟩,.int .i64 0,.slice none 0 0] ∧
  Grow PdR 5 46 (G+1) (List.range (G+1)++obl kv) wr kv l∧l.length+f≤f0∧G+1≤wr.heap.size∧(if b then ts.length < i+f∧sepP (skipP ts [44]) (someP ts u) f i l=R1 else R1=.ok (l,i)))
  (fun v wr=>if stopped v then 0 else f0+1 - cellLen (wr.cell? ⟨G,4,none⟩))
 case atStart=>exact ⟨true,j4,f0,[],_,rfl,Nat.le_refl _,P4.out,HK4.out,BG.out,BA.out,Grow.nil_ _ _ _ _ _ _,by simp,by have:=BG.out.lt;omega,by simp only [if_true];exact ⟨by omega,HR4.out⟩⟩
 case round =>
  obtain ⟨b,i,f,l,kv,rfl,hni,hps,hk,hb2,hb1,hg,hlf,hsz,hcase⟩:=hrel;obtain ⟨ka,kc,rfl⟩:=hg.form (by decide)
  cases b
  ·simp only [Bool.false_eq_true,if_false] at hcase;subst hcase;have hrr:=HR5.out
   simp only at hrr
   have HRR:=Lib.hid hrr;have hge:=hg.ge
   have hl9:l.length≤9223372036854775807:=by omega
   have hst:=hg.done (X':=List.range (G+1)) (fun z hz=>Or.inl (List.mem_append_left _ hz)) (fun z hz hm=>by have:=(hge z hz).1;have:=List.mem_range.1 hm;omega) hl9;have H5:=Lib.hid (take_any hps [41]);have HKK:=Lib.hid hk;have HB2:=Lib.hid hb2;have HB1:=Lib.hid hb1;have HST:=Lib.hid hst;clear hps hk hg hb1 hb2 hge hrr hst P4 HK4 BG BA HE HR4 HR5
   cases e5:takeP ts [41] i with
   | error k =>
    have hR:=HRR.out;rw [e5] at H5 hR
    simp only at hR
    subst hR;go_wp2_with (go_at_call 69;refine H5.out.mono ?_;unfold TakeE;rintro e w1 ⟨⟨p,rfl⟩,k1⟩);exact ⟨rfl,⟨p,rfl⟩,HKK.out.trans k1⟩
   | ok y5 =>
   obtain ⟨u5,j5⟩:=y5;have hR:=HRR.out;rw [e5] at H5 hR
   simp only at hR
   have HR6:=Lib.hid hR;clear hR;go_upto_region 10 with (go_at_call 69;refine H5.out.mono ?_;unfold TakeE;rintro e w5 ⟨rfl,k5,h5⟩);have hb2:=HB2.out.kept k5 (by simp;omega);have hb1:=HB1.out.kept k5 (by simp;omega);have t0:w5.cell? ⟨w.heap.size,0,none⟩=some (.int .i64 0):=hb1.cell 0;have t1:w5.cell? ⟨w.heap.size,1,none⟩=some (.string ⟨#[]⟩):=hb1.cell 1;have t2:w5.cell? ⟨w.heap.size,2,none⟩=some (.string ⟨#[]⟩):=hb1.cell 2;have t3:w5.cell? ⟨w.heap.size,3,none⟩=some (.int .i64 0):=hb1.cell 3;have t4:w5.cell? ⟨w.heap.size,4,none⟩=some (.slice none 0 0):=hb1.cell 4;have q0:w5.cell? ⟨G,0,none⟩=some (.int .i64 3):=hb2.cell 0;have q1:w5.cell? ⟨G,1,none⟩=some (.string ⟨#[]⟩):=hb2.cell 1;have q2:w5.cell? ⟨G,2,none⟩=some (.string ⟨#[]⟩):=hb2.cell 2;have q3:w5.cell? ⟨G,3,none⟩=some (.int .i64 n):=hb2.cell 3;have q4:w5.cell? ⟨G,4,none⟩=some (.slice ka l.length kc):=hb2.cell 4;have g0:=hb1.frozen 0;have g1:=hb1.frozen 1;have g2:=hb1.frozen 2;have g3:=hb1.frozen 3;have g4:=hb1.frozen 4;have HF:=Lib.hid (fail_any h5 3 pos hpos (pos:Int) rfl);have HK5:=Lib.hid (HKK.out.trans k5);have HP5:=Lib.hid h5;have HST5:=Lib.hid (HST.out.step (X':=List.range (G+1)) k5 (fun y hy _=>by rw [List.mem_singleton] at hy;exact List.mem_range.2 (by omega)) (fun y hy=>Or.inl hy));have HEND:=Lib.hid (fun v0 v1 v2 v3 v4=>((((hb1.set_ 0 v0).set_ 1 v1).set_ 2 v2).set_ 3 v3).set_ 4 v4);have KS:=Lib.hid (fun (v0 v1 v2 v3 v4:Value)=>(((((Kept.refl [w.heap.size] w5).setCell (p:=⟨w.heap.size,0,none⟩) (Or.inl (by simp)) v0).setCell (p:=⟨w.heap.size,1,none⟩) (Or.inl (by simp)) v1).setCell (p:=⟨w.heap.size,2,none⟩) (Or.inl (by simp)) v2).setCell (p:=⟨w.heap.size,3,none⟩) (Or.inl (by simp)) v3).setCell (p:=⟨w.heap.size,4,none⟩) (Or.inl (by simp)) v4)
   clear hb1 hb2 k5 h5 HST HKK HB1 HB2 H5 HRR
   by_cases c1:n < 1
   ·have hR:=HR6.out;rw [if_pos (Or.inl c1)] at hR;subst hR;go_wp2_with (go_at_call 72;refine HF.out.mono ?_;rintro e w6 ⟨⟨p,rfl⟩,k6⟩);exact ⟨rfl,⟨p,rfl⟩,HK5.out.trans (k6.mono (by simp))⟩
   ·by_cases c2:(l.length:Int) < n
    ·have hR:=HR6.out;rw [if_pos (Or.inr c2)] at hR;subst hR;go_wp2_with (go_at_call 72;refine HF.out.mono ?_;rintro e w6 ⟨⟨p,rfl⟩,k6⟩);exact ⟨rfl,⟨p,rfl⟩,HK5.out.trans (k6.mono (by simp))⟩
    ·have hR:=HR6.out;rw [if_neg (by omega)] at hR;subst hR;go_wp2_with fail;refine least_end (HEND.out _ _ _ _ _) rfl rfl ?_;have kF:=KS.out (.int .i64 3) (.string ⟨#[]⟩) (.string ⟨#[]⟩) (.int .i64 n) (.slice ka l.length kc);refine ⟨_,rfl,HK5.out.fresh kF (fun y hy=>by rw [List.mem_singleton] at hy;omega),HP5.out.far kF (fun y hy=>by rw [List.mem_singleton] at hy;omega),?_⟩;exact ⟨[.int .i64 3,.string ⟨#[]⟩,.string ⟨#[]⟩,.int .i64 n,.slice ka l.length kc],rfl,(HST5.out.imp fun w' hr=>PdR.of_rows (l:=[]) (r:=[]) hr).step kF (fun y hy _=>by rw [List.mem_singleton] at hy;exact List.mem_range.2 (by omega)) (fun y hy=>Or.inl (List.mem_range.2 (by have:=List.mem_range.1 hy;omega)))⟩
  ·simp only [if_true] at hcase;obtain ⟨hfi,hsep⟩:=hcase;obtain ⟨f,rfl⟩:∃ g,f=g+1:=⟨f - 1,by have:=hps.le;omega⟩;rw [sepP] at hsep;have hel:=Lib.hid (HE.out wr.drew i hni (hps.step (Kept.refl _ _).drew));have HSEP:=Lib.hid hsep;have HPS:=Lib.hid hps;have HK2:=Lib.hid hk;have HBB:=Lib.hid hb2;have HBA:=Lib.hid hb1;have HG:=Lib.hid hg;clear hsep hps hk hb2 hb1 hg HK4 BA BG P4;have hkv:∀ y∈obl (.slice ka l.length kc),G+1≤y∧y < wr.heap.size:=HG.out.ge;have HKV:=Lib.hid hkv
   have s0:∀ w',Kept (rb::obl (.slice ka l.length kc)) wr w'→w'.cell? ⟨G,4,none⟩=some (.slice ka l.length kc):=fun w' k=>(HBB.out.kept k (by
    intro hm
    rcases List.mem_cons.1 hm with hm|hm
    ·omega
    ·have:=HKV.out _ hm;omega)).cell 4
   clear hkv;go_upto_region 8 with (fail);refine wp_region_T [7] (fun w'=>Kept (rb::obl (.slice ka l.length kc)) wr w') (by kernel_rfl) (Kept.refl _ _).drew (fun hH=>?_);refine takeT [1,5,6,7] (i:=0) (v:=?tv1) rfl (by kernel_rfl) (by kernel_rfl) (by kernel_rfl) (by kernel_rfl) (fun _ _ _ h=>h) (Or.inl ⟨by rfl,?ty1⟩) hH ?tr1
   case ty1=>intro w' hSw;(try dsimp only at hSw);go_simp;first|done|with_reducible rfl
   simp only [Act.put,List.setIfInBounds_toArray,List.set_cons_zero,List.set_cons_succ];refine takeT [5,6,7] (i:=1) (v:=?tv2) rfl (by kernel_rfl) (by kernel_rfl) (by kernel_rfl) (by kernel_rfl) (fun _ _ _ h=>h) (Or.inl ⟨by rfl,?ty2⟩) hH ?tr2
   case ty2=>intro w' hSw;(try dsimp only at hSw);go_simp;first|done|with_reducible rfl
   simp only [Act.put,List.setIfInBounds_toArray,List.set_cons_zero,List.set_cons_succ];refine takeT [3,4,5,6,7] (i:=2) (v:=?tv3) rfl (by kernel_rfl) (by kernel_rfl) (by kernel_rfl) (by kernel_rfl) (fun _ _ _ h=>h) (Or.inl ⟨by rfl,?ty3⟩) hH ?tr3
   case ty3=>intro w' hSw;(try dsimp only at hSw);go_simp;first|done|with_reducible rfl
   simp only [Act.put,List.setIfInBounds_toArray,List.set_cons_zero,List.set_cons_succ];refine wpAnyT_ready (rs:=[3]) (by kernel_rfl) (by simp) ?_;refine AllReadyT.cons rfl (fun K hK=>?_) AllReadyT.nil;go_simp
   cases hr:someP ts u i with
   | error k =>
    have hR2:=HSEP.out;rw [hr] at hR2 hel;simp only [bnd] at hR2;subst hR2;have hrr:=HR5.out
    simp only at hrr
    subst hrr;refine hel.out.mono ?_
    unfold PdE
    rintro e w6 ⟨⟨p,rfl⟩,k6⟩;exact ⟨rfl,⟨p,rfl⟩,(HK2.out.drew).trans k6⟩
   | ok y =>
    obtain ⟨p,j⟩:=y;have hij:=someP_mono hmono hr;have hR2:=HSEP.out;rw [hr] at hR2 hel;simp only [bnd] at hR2;have HR3:=Lib.hid hR2;clear hR2;refine hel.out.mono ?_
    unfold PdE
    rintro e w6 ⟨v,rfl,k6,h6,cs,rfl,hst⟩;obtain ⟨pk,pl,pr,pc,pks⟩:=p;obtain ⟨pa,pcc,rfl,_⟩:=hst.get.rows;have k6':Kept [rb] wr w6:=(Kept.refl _ _).drew.trans k6;refine hK.out _ _ (k6'.mono (fun _ _ h=>by rw [List.mem_singleton] at h;exact h▸List.mem_cons_self)) (fun hH=>?_);clear hK K
    (try simp only [Act.put,List.setIfInBounds_toArray,List.set_cons_zero,List.set_cons_succ])
    refine wpAnyT_ready (rs:=[4]) (by kernel_rfl) (by simp) ?_;refine AllReadyT.cons rfl (fun K hK=>?_) AllReadyT.nil;go_simp;refine hK.out _ _ (hH.alloc _) (fun hH=>?_);clear hK K
    (try simp only [Act.put,List.setIfInBounds_toArray,List.set_cons_zero,List.set_cons_succ])
    refine wpAnyT_ready (rs:=[5]) (by kernel_rfl) (by simp) ?_;refine AllReadyT.cons rfl (fun K hK=>?_) AllReadyT.nil;have hgt:=HKV.out;have hwr:wr.heap.size≤w6.heap.size:=k6'.size;have k7:Kept [rb] wr (w6.alloc (.cells #[.int .i64 pk,.string ⟨pl.toArray⟩,.string ⟨pr.toArray⟩,.int .i64 pc,.slice pa pks.length pcc] 46)):=k6'.alloc _
    have hg7:Grow PdR 5 46 (G+1) (List.range (G+1)++obl (.slice ka l.length kc)) (w6.alloc (.cells #[.int .i64 pk,.string ⟨pl.toArray⟩,.string ⟨pr.toArray⟩,.int .i64 pc,.slice pa pks.length pcc] 46)) (.slice ka l.length kc) l :=
     HG.out.step k7 (fun z hz hm=>by rw [List.mem_singleton] at hm;have:=(hgt z hz).1;omega) (fun z hz _=>by rw [List.mem_singleton] at hz;exact List.mem_append_left _ (List.mem_range.2 (by omega))) (fun z hz=>Or.inl hz)
    have hst7:Stable (List.range (G+1)++obl (.slice ka l.length kc)) (fun w=>PdR w [.int .i64 pk,.string ⟨pl.toArray⟩,.string ⟨pr.toArray⟩,.int .i64 pc,.slice pa pks.length pcc] (.node pk pl pr pc pks)) (w6.alloc (.cells #[.int .i64 pk,.string ⟨pl.toArray⟩,.string ⟨pr.toArray⟩,.int .i64 pc,.slice pa pks.length pcc] 46)) :=
     (hst.step ((Kept.refl [] w6).alloc _) (by simp) (fun z hz=>Or.inl hz)).less (fun z hz=>by
      rcases List.mem_append.1 hz with h|h
      ·exact Or.inl (List.mem_range.2 (by have:=List.mem_range.1 h;show z < wr.heap.size;omega))
      ·exact Or.inl (List.mem_range.2 (hgt z h).2))
    refine step_append_grow rfl _ _ 44 rfl i0 _ 72 Tryz.underlying44 hi hz0 hz1 hz2 rfl (by decide) (by decide) rfl hg7 _ [.int .i64 pk,.string ⟨pl.toArray⟩,.string ⟨pr.toArray⟩,.int .i64 pc,.slice pa pks.length pcc] (.node pk pl pr pc pks) rfl (row_of_blk (cs:=[.int .i64 pk,.string ⟨pl.toArray⟩,.string ⟨pr.toArray⟩,.int .i64 pc,.slice pa pks.length pcc]) (Blk.new _ _ _) rfl (by decide)) hst7 (by simp [Value.oneCell']) (by omega) (by simp only [World.size_alloc];omega) (fun z hz=>List.mem_append_right _ hz) ?_;intro a' c' w8 hg8 k8 ho8;have hS8:Kept (rb::obl (.slice ka l.length kc)) wr w8:=(k7.mono (fun _ _ h=>by rw [List.mem_singleton] at h;exact h▸List.mem_cons_self)).trans (k8.mono (fun _ _ h=>List.mem_cons_of_mem _ h));refine hK.out _ _ hS8 (fun hH=>?_);clear hK K
    (try simp only [Act.put,List.setIfInBounds_toArray])
    refine takeT [7] (i:=6) (v:=?tv4) rfl (by kernel_rfl) (by kernel_rfl) (by kernel_rfl) (by kernel_rfl) (fun _ _ _ h=>h) (Or.inl ⟨by rfl,?ty4⟩) hH ?tr4
    case ty4=>intro w' hSw;(try dsimp only at hSw);go_simp;first|done|with_reducible rfl
    simp only [Act.put]
    have nb2:G∉rb::obl (.slice ka l.length kc):=by
     intro hm
     rcases List.mem_cons.1 hm with hm|hm
     ·omega
     ·have:=hgt _ hm;omega
    have nb1:w.heap.size∉rb::obl (.slice ka l.length kc):=by
     intro hm
     rcases List.mem_cons.1 hm with hm|hm
     ·omega
     ·have:=hgt _ hm;omega
    have hb8:=HBB.out.kept hS8 nb2;have ha8:=HBA.out.kept hS8 nb1;have x4:w8.cell? ⟨G,4,none⟩=some (.slice ka l.length kc):=hb8.cell 4;have x5:=hb8.frozen 4;have HB8:=Lib.hid hb8;have HA8:=Lib.hid ha8;have HG8:=Lib.hid hg8;have K8:=Lib.hid hS8;have HO8:=Lib.hid ho8;have H6:=Lib.hid h6;have KK8:=Lib.hid k8;have HS7:=Lib.hid (World.size_alloc w6 (.cells #[.int .i64 pk,.string ⟨pl.toArray⟩,.string ⟨pr.toArray⟩,.int .i64 pc,.slice pa pks.length pcc] 46));clear hb8 ha8 hg8 hS8 ho8 h6 k8 hg7 hst7 hst k7 k6 k6' s0 nb1 nb2;refine wpAnyT_ready (rs:=[7]) (by kernel_rfl) (by simp) ?_;refine AllReadyT.last rfl (by kernel_rfl) (fun K hK=>?_);go_simp;refine hK.out _ _ ?_;clear hK K
    (try simp only [Act.put,List.setIfInBounds_toArray,List.set_cons_zero,List.set_cons_succ])
    refine wpAnyT_done (by kernel_rfl) ?_ _;obtain ⟨w9,hw9⟩:∃ x,w8.setCell ⟨G,4,none⟩ (.slice a' (l.length+1) c')=x:=⟨_,rfl⟩;rw [hw9];have k89:Kept [G] w8 w9:=hw9▸(Kept.refl _ _).setCell (Or.inl (by simp)) _;have hb9:Blk w9 G 46 #[.int .i64 3,.string ⟨#[]⟩,.string ⟨#[]⟩,.int .i64 n,.slice a' (l.length+1) c']:=hw9▸HB8.out.set_ 4 _;have ha9:=HA8.out.kept k89 (by simp;omega);have h9:Ps B W0 rb ts a c z w9 j:=((H6.out.step ((Kept.refl [] w6).alloc _)).far KK8.out (fun y hy=>by have:=(hgt y hy).1;omega)).far k89 (fun y hy=>by rw [List.mem_singleton] at hy;omega)
    have hgn:∀ y∈obl (.slice a' (l.length+1) c'),G+1≤y:=fun y hy=>by
     rcases HO8.out y hy with h|h
     ·exact (hgt y h).1
     ·have:=HS7.out;omega
    have hg9:=HG8.out.step (X':=List.range (G+1)++obl (.slice a' (l.length+1) c')) k89 (fun y hy hm=>by rw [List.mem_singleton] at hm;have:=hgn y hy;omega) (fun y hy _=>by rw [List.mem_singleton] at hy;exact List.mem_append_left _ (List.mem_append_left _ (List.mem_range.2 (by omega)))) (fun y hy=>by
     rcases List.mem_append.1 hy with h|h
     ·exact Or.inl (List.mem_append_left _ (List.mem_append_left _ h))
     ·exact Or.inl (List.mem_append_right _ h))
    have hk9:Kept [rb] w w9:=(HK2.out.then_ K8.out (fun y hy hm=>by
     rcases List.mem_cons.1 hm with h|h
     ·exact h▸List.mem_singleton.2 rfl
     ·have:=(hgt y h).1;omega)).fresh k89 (fun y hy=>by rw [List.mem_singleton] at hy;omega)
    have hsz9:G+1≤w9.heap.size:=by have:=K8.out.size;have:=k89.size;omega
    have hsk:=Lib.hid (skip_any h9 [44]);have HB9:=Lib.hid hb9;have HA9:=Lib.hid ha9;have HG9:=Lib.hid hg9;have HK9:=Lib.hid hk9;have HGN:=Lib.hid hgn;have HL9:=Lib.hid h9.le;clear hw9 k89 hb9 ha9 h9 hgn hg9 hk9 hgt HB8 HA8 HG8 K8 HO8 H6 KK8 x4 x5 hH
    cases hsw:skipP ts [44] j
    ·rw [hsw] at hsk;have hfin:=HR3.out;rw [hsw,if_neg (by simp)] at hfin;have HFIN:=Lib.hid hfin;clear hfin;go_wp2_with (go_at_call 115;refine hsk.out.mono ?_;rintro e w10 ⟨rfl,k10,h10⟩)
     go_roundw
     case rel =>
      refine ⟨false,j,f,l++[.node pk pl pr pc pks],.slice a' (l.length+1) c',rfl,by omega,h10,HK9.out.trans k10,HB9.out.kept k10 (by simp;omega),HA9.out.kept k10 (by simp;omega),?_,?_,by have:=k10.size;omega,?_⟩
      ·exact HG9.out.step k10 (fun y hy hm=>by rw [List.mem_singleton] at hm;have:=HGN.out y hy;omega) (fun y hy _=>by rw [List.mem_singleton] at hy;exact List.mem_append_left _ (List.mem_range.2 (by omega))) (fun y hy=>Or.inl hy)
      ·rw [List.length_append];simp;omega
      ·simp only [Bool.false_eq_true,if_false];exact HFIN.out.symm
     case measure =>
      rw [show wr.cell? ⟨G,4,none⟩=some (.slice ka l.length kc) from HBB.out.cell 4];simp only [stopped,cellLen,if_true,Bool.false_eq_true,if_false];omega
    ·rw [hsw] at hsk;have hfin:=HR3.out;rw [hsw,if_pos rfl] at hfin;have HFIN:=Lib.hid hfin;clear hfin;go_wp2_with (go_at_call 115;refine hsk.out.mono ?_;rintro e w10 ⟨rfl,k10,h10⟩)
     go_roundw
     case rel =>
      refine ⟨true,j+1,f,l++[.node pk pl pr pc pks],.slice a' (l.length+1) c',rfl,by omega,h10,HK9.out.trans k10,HB9.out.kept k10 (by simp;omega),HA9.out.kept k10 (by simp;omega),?_,?_,by have:=k10.size;omega,?_⟩
      ·exact HG9.out.step k10 (fun y hy hm=>by rw [List.mem_singleton] at hm;have:=HGN.out y hy;omega) (fun y hy _=>by rw [List.mem_singleton] at hy;exact List.mem_append_left _ (List.mem_range.2 (by omega))) (fun y hy=>Or.inl hy)
      ·rw [List.length_append];simp;omega
      ·simp only [if_true];exact ⟨by omega,HFIN.out⟩
     case measure =>
      rw [show wr.cell? ⟨G,4,none⟩=some (.slice ka l.length kc) from HBB.out.cell 4,show w10.cell? ⟨G,4,none⟩=some (.slice a' (l.length+1) c') from (HB9.out.kept k10 (by simp;omega)).cell 4];simp only [stopped,cellLen,Bool.false_eq_true,if_false];omega
end Go.Proofs.YtpcmamoomaddoaaGreatDoor
