import Derived.Test.YtpcmamoomaddoaaGreatDoorNeg
import Derived.Defers
set_option maxRecDepth 100000
set_option maxHeartbeats 32000000
namespace Go.Proofs.YtpcmamoomaddoaaGreatDoor
open Go.RowKit
open Go.Proofs.Tryz
open Lib(hid)
theorem fp{w2:World}{tmps:Array Value}{v0 v1 v2 v3 v4 X:Value}{b:Nat}{R:Ending->World->Prop}(hb:Blk w2 b 46 #[v0,v1,v2,v3,v4])(h2:tmps[2]?.getD undef=.pointer (some ⟨b,0,none⟩))
  (hX:.agg #[v0,v1,v2,v3,v4]=X) (hR:R (.returned X) w2) :
  bodyPost prog Tryz.f153 R Exit.ret { tmps:=tmps,defers:=[] } w2:=by
 subst hX;have c0:w2.cell? ⟨b,0,none⟩=some v0:=hb.cell 0;have c1:w2.cell? ⟨b,1,none⟩=some v1:=hb.cell 1;have c2:w2.cell? ⟨b,2,none⟩=some v2:=hb.cell 2;have c3:w2.cell? ⟨b,3,none⟩=some v3:=hb.cell 3;have c4:w2.cell? ⟨b,4,none⟩=some v4:=hb.cell 4;refine bodyPost_ret (v:=.agg #[v0,v1,v2,v3,v4]) ?_ rfl hR;simp only[results,results153]
 simp[go_sem,h2,c0,c1,c2,c3,c4]
theorem tS{B:Nat}{W0:World}{rb:Nat}{ts:List Tok}{a:Option Addr}{c:Nat}{z:Int}:∀(f i:Nat) (w:World),ts.length < i+f->Ps B W0 rb ts a c z w i ->
  Calls prog 153 #[.pointer (some ⟨rb,0,none⟩)] w (PdE B W0 rb ts a c z w (cB ts f i)):=by
 intro f
 induction f with
 |zero=>intro i w hf h;have:=h.le;omega
 |succ f ih =>
  intro i w hf h;obtain⟨W,hW⟩:∃W,w.alloc (.cells #[.int .i64 0,.string ⟨#[]⟩,.string ⟨#[]⟩,.int .i64 0,.slice none 0 0] 46)=W:=⟨_,rfl⟩;have a2:Kept [] w W:=hW▸(Kept.refl _ _).alloc _;have a7:Blk W w.heap.size 46 #[.int .i64 0,.string ⟨#[]⟩,.string ⟨#[]⟩,.int .i64 0,.slice none 0 0]:=hW▸Blk.new _ _ _;have hw:=h.step a2;have ap:rb < w.heap.size:=h.blk.lt;have P:i<=ts.length:=h.le;have an:=h.small
  have Q:∀i p j,cB ts f i=.ok (p,j)->i<=j:=fun i p j hh=>by have:=(fR (ts:=ts) f i p j hh).1;omega
  have y1:W.cell? ⟨rb,1,none⟩=some (.int .i64 i):=hw.blk.cell 1;obtain⟨R,b⟩:∃R,cB ts (f+1) i=R:=⟨_,rfl⟩;rw[b];rw[cB]at b;have ac:=hid a7;have HP:=hid hw;have HK:Hid (Kept [rb] w W):=hid (a2.mono (by simp));have HW:=hid hW;have HR:=hid b;have HM:=hid Q;have IH:=hid (fun(j:Nat) (w':World) (hj:i < j) (hp:Ps B W0 rb ts a c z w' j)=>ih j w' (by omega) hp);have H1:=hid (aQ hw wNot);clear hW a2 a7 h hw b ih Q
  go_enter func153,ntmps153
  go_upto_region 1 with(fail);have hW':=HW.out;rw[hW'];clear hW'
  cases e1:aI ts wNot i
  ·have b:=HR.out;rw[e1]at H1 b;simp only[Bool.false_eq_true,if_false]at b;have X:=hid b;clear b;go_upto_region 4 with(go_at_call 115;refine H1.out.mono ?_;rintro e w2 ⟨rfl,k2,h2⟩);have h2':Ps B W0 rb ts a c z w2 i:=h2;have H2:=hid (aQ h2' [40]);have B2:=hid (ac.out.kept k2 (by simp;omega));have K2:=hid (HK.out.trans k2);clear h2 h2' k2 y1
   cases e2:aI ts [40] i
   ·have b:=X.out;rw[e2]at H2 b;simp only[Bool.false_eq_true,if_false]at b;have V:=hid b;clear b;go_upto_region 8 with(go_at_call 115;refine H2.out.mono ?_;rintro e w3 ⟨rfl,k3,h3⟩);have h3':Ps B W0 rb ts a c z w3 i:=h3;have H3:=hid (aQ h3' wAt);have B3:=hid (B2.out.kept k3 (by simp;omega));have K3:=hid (K2.out.trans k3);clear h3 h3' k3
    cases e3:aI ts wAt i
    ·have b:=V.out;rw[e3]at H3 b;simp only[Bool.false_eq_true,if_false]at b;have I:=hid b;clear b;go_upto_region 10 with(go_at_call 115;refine H3.out.mono ?_;rintro e w4 ⟨rfl,O,h4⟩);have h4':Ps B W0 rb ts a c z w4 i:=h4;have H4:=hid (eS h4');have B4:=hid (B3.out.kept O (by simp;omega));have K4:=hid (K3.out.trans O);clear h4 h4' O
     cases e4:sumP ts i with
     |error k =>
      have b:=I.out;rw[e4]at H4 b;simp only[bnd]at b;subst b;go_wp2_with (go_at_call 197;refine H4.out.mono ?_;unfold SumE;rintro e w5 ⟨⟨p,rfl⟩,k5⟩);exact⟨rfl,⟨p,rfl⟩,K4.out.trans k5⟩
     |ok y =>
     obtain⟨L,j⟩:=y;have b:=I.out;rw[e4]at H4 b;simp only[bnd]at b;have aa:=hid b;clear b;go_upto_region 11 with(go_at_call 197;refine H4.out.mono ?_;unfold SumE;rintro e w5 ⟨rfl,k5,h5,a4,ao⟩);obtain⟨g,hg⟩:∃g,w5.heap.size=g:=⟨_,rfl⟩;obtain⟨wa,t⟩:∃x,w5.alloc (.cells #[.string ⟨L.name.toArray⟩,.int .i64 L.off] 252)=x:=⟨_,rfl⟩;rw[t,hg];have Y:Kept [] w5 wa:=t▸(Kept.refl _ _).alloc _;have bA:Blk wa g 252 #[.string ⟨L.name.toArray⟩,.int .i64 L.off]:=hg▸t▸Blk.new _ _ _;have b5:=B4.out.kept k5 (by simp;omega);have af:w.heap.size < g:=hg▸b5.lt;have hA:=h5.step Y;have M:=hid (aQ hA wIn);have BA:=hid bA;have B5:=hid (b5.kept Y (by simp));have K5:=hid ((K4.out.trans k5).trans (Y.mono (by simp)));clear t hg Y bA b5 hA h5 k5
     cases e5:aI ts wIn j
     ·have b:=aa.out;rw[e5]at M b;simp only[Bool.false_eq_true,if_false]at b;have U:=hid b;clear b;go_upto_region 13 with(go_at_call 115;refine M.out.mono ?_;rintro e Z ⟨rfl,N,h6⟩);have h6':Ps B W0 rb ts a c z Z j:=h6;have x0:Z.cell? ⟨g,0,none⟩=some (.string ⟨L.name.toArray⟩):=(BA.out.kept N (by simp;omega)).cell 0;have x1:Z.cell? ⟨g,1,none⟩=some (.int .i64 L.off):=(BA.out.kept N (by simp;omega)).cell 1;have H6:=hid (oR L a4 i P h6');have B6:=hid (B5.out.kept N (by simp;omega));have K6:=hid (K5.out.trans N);have a0:w.heap.size+1<=Z.heap.size:=B6.out.lt;clear h6 h6' N
      cases e6:cY ts L j with
      |error k =>
       have b:=U.out;rw[e6]at H6 b;subst b;go_wp2_with (go_at_call 199;refine H6.out.mono ?_;unfold PdE;rintro e l ⟨⟨p,rfl⟩,r⟩);exact⟨rfl,⟨p,rfl⟩,K6.out.trans r⟩
      |ok y =>
       obtain⟨p,j2⟩:=y;have b:=U.out;rw[e6]at H6 b;subst b;obtain⟨E,D,C,F,n⟩:=p;go_wp2_with (go_at_call 199;refine H6.out.mono ?_;unfold PdE;rintro e l ⟨v,rfl,r,T,cs,rfl,m⟩;obtain⟨G,o,rfl,_⟩:=m.get.rows;have d:=B6.out.kept r (by simp;omega);have c0:l.cell? ⟨w.heap.size,0,none⟩=some (.int .i64 0):=d.cell 0;have c1:l.cell? ⟨w.heap.size,1,none⟩=some (.string ⟨#[]⟩):=d.cell 1;have c2:l.cell? ⟨w.heap.size,2,none⟩=some (.string ⟨#[]⟩):=d.cell 2;have c3:l.cell? ⟨w.heap.size,3,none⟩=some (.int .i64 0):=d.cell 3;have c4:l.cell? ⟨w.heap.size,4,none⟩=some (.slice none 0 0):=d.cell 4;have f0:=d.frozen 0;have f1:=d.frozen 1;have f2:=d.frozen 2;have f3:=d.frozen 3;have f4:=d.frozen 4;have A:=hid d;have K7:=hid (K6.out.trans r);have H7:=hid T;have u:=hid (m.less (X':=List.range (w.heap.size+1)) (fun y hy=>Or.inl (List.mem_range.2 (by have:=List.mem_range.1 hy;omega))));clear d r T m);refine fp (((((A.out.set_ 0 _).set_ 1 _).set_ 2 _).set_ 3 _).set_ 4 _) rfl rfl ?_;have s:=((((((Kept.refl [w.heap.size] l).setCell (p:=⟨w.heap.size,0,none⟩) (Or.inl (by simp)) (.int .i64 E)).setCell (p:=⟨w.heap.size,1,none⟩) (Or.inl (by simp)) (.string ⟨D.toArray⟩)).setCell (p:=⟨w.heap.size,2,none⟩) (Or.inl (by simp)) (.string ⟨C.toArray⟩)).setCell (p:=⟨w.heap.size,3,none⟩) (Or.inl (by simp)) (.int .i64 F)).setCell (p:=⟨w.heap.size,4,none⟩) (Or.inl (by simp)) (.slice G n.length o));refine⟨_,rfl,K7.out.fresh s (fun y hy=>by rw[List.mem_singleton]at hy;omega),H7.out.far s (fun y hy=>by rw[List.mem_singleton]at hy;omega),?_⟩
       exact⟨[.int .i64 E,.string ⟨D.toArray⟩,.string ⟨C.toArray⟩,.int .i64 F,.slice G n.length o],rfl,u.out.step s (fun y hy _=>by rw[List.mem_singleton]at hy;exact List.mem_range.2 (by omega)) (fun y hy=>Or.inl (List.mem_range.2 (by have:=List.mem_range.1 hy;omega)))⟩
     ·have b:=aa.out;rw[e5]at M b;simp only[if_true]at b;have U:=hid b;clear b;go_upto_region 12 with(go_at_call 115;refine M.out.mono ?_;rintro e Z ⟨rfl,N,h6⟩);have h6':Ps B W0 rb ts a c z Z (j+1):=h6;have x0:Z.cell? ⟨g,0,none⟩=some (.string ⟨L.name.toArray⟩):=(BA.out.kept N (by simp;omega)).cell 0;have x1:Z.cell? ⟨g,1,none⟩=some (.int .i64 L.off):=(BA.out.kept N (by simp;omega)).cell 1;have H6:=hid (qp L a4 i P h6');have B6:=hid (B5.out.kept N (by simp;omega));have K6:=hid (K5.out.trans N);have a0:w.heap.size+1<=Z.heap.size:=B6.out.lt;clear h6 h6' N
      cases e6:dJ ts L (j+1)with
      |error k =>
       have b:=U.out;rw[e6]at H6 b;subst b;go_wp2_with (go_at_call 198;refine H6.out.mono ?_;unfold PdE;rintro e l ⟨⟨p,rfl⟩,r⟩);exact⟨rfl,⟨p,rfl⟩,K6.out.trans r⟩
      |ok y =>
       obtain⟨p,j2⟩:=y;have b:=U.out;rw[e6]at H6 b;subst b;obtain⟨E,D,C,F,n⟩:=p;go_wp2_with (go_at_call 198;refine H6.out.mono ?_;unfold PdE;rintro e l ⟨v,rfl,r,T,cs,rfl,m⟩;obtain⟨G,o,rfl,_⟩:=m.get.rows;have d:=B6.out.kept r (by simp;omega);have c0:l.cell? ⟨w.heap.size,0,none⟩=some (.int .i64 0):=d.cell 0;have c1:l.cell? ⟨w.heap.size,1,none⟩=some (.string ⟨#[]⟩):=d.cell 1;have c2:l.cell? ⟨w.heap.size,2,none⟩=some (.string ⟨#[]⟩):=d.cell 2;have c3:l.cell? ⟨w.heap.size,3,none⟩=some (.int .i64 0):=d.cell 3;have c4:l.cell? ⟨w.heap.size,4,none⟩=some (.slice none 0 0):=d.cell 4;have f0:=d.frozen 0;have f1:=d.frozen 1;have f2:=d.frozen 2;have f3:=d.frozen 3;have f4:=d.frozen 4;have A:=hid d;have K7:=hid (K6.out.trans r);have H7:=hid T;have u:=hid (m.less (X':=List.range (w.heap.size+1)) (fun y hy=>Or.inl (List.mem_range.2 (by have:=List.mem_range.1 hy;omega))));clear d r T m);refine fp (((((A.out.set_ 0 _).set_ 1 _).set_ 2 _).set_ 3 _).set_ 4 _) rfl rfl ?_;have s:=((((((Kept.refl [w.heap.size] l).setCell (p:=⟨w.heap.size,0,none⟩) (Or.inl (by simp)) (.int .i64 E)).setCell (p:=⟨w.heap.size,1,none⟩) (Or.inl (by simp)) (.string ⟨D.toArray⟩)).setCell (p:=⟨w.heap.size,2,none⟩) (Or.inl (by simp)) (.string ⟨C.toArray⟩)).setCell (p:=⟨w.heap.size,3,none⟩) (Or.inl (by simp)) (.int .i64 F)).setCell (p:=⟨w.heap.size,4,none⟩) (Or.inl (by simp)) (.slice G n.length o));refine⟨_,rfl,K7.out.fresh s (fun y hy=>by rw[List.mem_singleton]at hy;omega),H7.out.far s (fun y hy=>by rw[List.mem_singleton]at hy;omega),?_⟩
       exact⟨[.int .i64 E,.string ⟨D.toArray⟩,.string ⟨C.toArray⟩,.int .i64 F,.slice G n.length o],rfl,u.out.step s (fun y hy _=>by rw[List.mem_singleton]at hy;exact List.mem_range.2 (by omega)) (fun y hy=>Or.inl (List.mem_range.2 (by have:=List.mem_range.1 hy;omega)))⟩
    ·have b:=V.out;rw[e3]at H3 b;simp only[if_true]at b;have I:=hid b;clear b;go_upto_region 9 with(go_at_call 115;refine H3.out.mono ?_;rintro e w4 ⟨rfl,O,h4⟩);have h4':Ps B W0 rb ts a c z w4 (i+1):=h4;have H4:=hid (sV i P (cB ts f) h4' (fun w' j hj hq=>IH.out j w' (by omega) hq) HM.out);have B4:=hid (B3.out.kept O (by simp;omega));have K4:=hid (K3.out.trans O);have a0:w.heap.size+1<=w4.heap.size:=B4.out.lt;clear h4 h4' O
     cases e4:fb ts (cB ts f) (i+1)with
     |error k =>
      have b:=I.out;rw[e4]at H4 b;subst b;go_wp2_with (go_at_call 196;refine H4.out.mono ?_;unfold PdE;rintro e l ⟨⟨p,rfl⟩,r⟩);exact⟨rfl,⟨p,rfl⟩,K4.out.trans r⟩
     |ok y =>
      obtain⟨p,j2⟩:=y;have b:=I.out;rw[e4]at H4 b;subst b;obtain⟨E,D,C,F,n⟩:=p;go_wp2_with (go_at_call 196;refine H4.out.mono ?_;unfold PdE;rintro e l ⟨v,rfl,r,T,cs,rfl,m⟩;obtain⟨G,o,rfl,_⟩:=m.get.rows;have d:=B4.out.kept r (by simp;omega);have c0:l.cell? ⟨w.heap.size,0,none⟩=some (.int .i64 0):=d.cell 0;have c1:l.cell? ⟨w.heap.size,1,none⟩=some (.string ⟨#[]⟩):=d.cell 1;have c2:l.cell? ⟨w.heap.size,2,none⟩=some (.string ⟨#[]⟩):=d.cell 2;have c3:l.cell? ⟨w.heap.size,3,none⟩=some (.int .i64 0):=d.cell 3;have c4:l.cell? ⟨w.heap.size,4,none⟩=some (.slice none 0 0):=d.cell 4;have f0:=d.frozen 0;have f1:=d.frozen 1;have f2:=d.frozen 2;have f3:=d.frozen 3;have f4:=d.frozen 4;have A:=hid d;have K7:=hid (K4.out.trans r);have H7:=hid T;have u:=hid (m.less (X':=List.range (w.heap.size+1)) (fun y hy=>Or.inl (List.mem_range.2 (by have:=List.mem_range.1 hy;omega))));clear d r T m);refine fp (((((A.out.set_ 0 _).set_ 1 _).set_ 2 _).set_ 3 _).set_ 4 _) rfl rfl ?_;have s:=((((((Kept.refl [w.heap.size] l).setCell (p:=⟨w.heap.size,0,none⟩) (Or.inl (by simp)) (.int .i64 E)).setCell (p:=⟨w.heap.size,1,none⟩) (Or.inl (by simp)) (.string ⟨D.toArray⟩)).setCell (p:=⟨w.heap.size,2,none⟩) (Or.inl (by simp)) (.string ⟨C.toArray⟩)).setCell (p:=⟨w.heap.size,3,none⟩) (Or.inl (by simp)) (.int .i64 F)).setCell (p:=⟨w.heap.size,4,none⟩) (Or.inl (by simp)) (.slice G n.length o));refine⟨_,rfl,K7.out.fresh s (fun y hy=>by rw[List.mem_singleton]at hy;omega),H7.out.far s (fun y hy=>by rw[List.mem_singleton]at hy;omega),?_⟩
      exact⟨[.int .i64 E,.string ⟨D.toArray⟩,.string ⟨C.toArray⟩,.int .i64 F,.slice G n.length o],rfl,u.out.step s (fun y hy _=>by rw[List.mem_singleton]at hy;exact List.mem_range.2 (by omega)) (fun y hy=>Or.inl (List.mem_range.2 (by have:=List.mem_range.1 hy;omega)))⟩
   ·have b:=X.out;rw[e2]at H2 b;simp only[if_true]at b;have V:=hid b;clear b;go_upto_region 5 with(go_at_call 115;refine H2.out.mono ?_;rintro e w3 ⟨rfl,k3,h3⟩);have h3':Ps B W0 rb ts a c z w3 (i+1):=h3;have H3:=hid (jJ (cB ts f) h3' (fun w' j hj hq=>IH.out j w' (by omega) hq) HM.out);have B3:=hid (B2.out.kept k3 (by simp;omega));have K3:=hid (K2.out.trans k3);have a0:w.heap.size+1<=w3.heap.size:=B3.out.lt;clear h3 h3' k3
    cases e3:dw ts (cB ts f) (i+1)with
    |error k =>
     have b:=V.out;rw[e3]at H3 b;simp only[bnd]at b;subst b;go_wp2_with (go_at_call 71;refine H3.out.mono ?_;unfold PdE;rintro e l ⟨⟨p,rfl⟩,r⟩);exact⟨rfl,⟨p,rfl⟩,K3.out.trans r⟩
    |ok y =>
    obtain⟨p,j2⟩:=y;have b:=V.out;rw[e3]at H3 b;simp only[bnd]at b;have I:=hid b;clear b;obtain⟨E,D,C,F,n⟩:=p;go_upto_region 6 with(go_at_call 71;refine H3.out.mono ?_;unfold PdE;rintro e w4 ⟨v,rfl,O,h4,cs,rfl,m⟩;obtain⟨G,o,rfl,_⟩:=m.get.rows);obtain⟨g,hg⟩:∃g,w4.heap.size=g:=⟨_,rfl⟩;obtain⟨wa,t⟩:∃x,w4.alloc (.cells #[.int .i64 E,.string ⟨D.toArray⟩,.string ⟨C.toArray⟩,.int .i64 F,.slice G n.length o] 46)=x:=⟨_,rfl⟩;rw[t,hg];have Y:Kept [] w4 wa:=t▸(Kept.refl _ _).alloc _;have bA:Blk wa g 46 #[.int .i64 E,.string ⟨D.toArray⟩,.string ⟨C.toArray⟩,.int .i64 F,.slice G n.length o]:=hg▸t▸Blk.new _ _ _;have b5:=B3.out.kept O (by simp;omega);have af:w.heap.size < g:=hg▸b5.lt;have M:=hid (bU (h4.step Y) [41]);have BA:=hid bA;have B5:=hid (b5.kept Y (by simp));have K5:=hid ((K3.out.trans O).trans (Y.mono (by simp)));have u:=hid ((m.step (X':=List.range w3.heap.size) Y (fun y hy _=>by simp at hy) (fun y hy=>Or.inl hy)).less (X':=List.range (w.heap.size+1)) (fun y hy=>Or.inl (List.mem_range.2 (by have:=List.mem_range.1 hy;omega))));clear t hg Y bA b5 h4 O m
    cases e5:bz ts [41] j2 with
    |error k =>
     have b:=I.out;rw[e5]at M b
     simp only at b
     subst b;go_wp2_with (go_at_call 69;refine M.out.mono ?_;unfold cf;rintro e l ⟨⟨p,rfl⟩,r⟩);exact⟨rfl,⟨p,rfl⟩,K5.out.trans r⟩
    |ok y =>
     obtain⟨u5,j3⟩:=y;have b:=I.out;rw[e5]at M b
     simp only at b
     subst b;go_wp2_with (go_at_call 69;refine M.out.mono ?_;unfold cf;rintro e l ⟨rfl,r,T⟩;have J:=BA.out.kept r (by simp;omega);have x0:l.cell? ⟨g,0,none⟩=some (.int .i64 E):=J.cell 0;have x1:l.cell? ⟨g,1,none⟩=some (.string ⟨D.toArray⟩):=J.cell 1;have x2:l.cell? ⟨g,2,none⟩=some (.string ⟨C.toArray⟩):=J.cell 2;have x3:l.cell? ⟨g,3,none⟩=some (.int .i64 F):=J.cell 3;have x4:l.cell? ⟨g,4,none⟩=some (.slice G n.length o):=J.cell 4;have d:=B5.out.kept r (by simp;omega);have c0:l.cell? ⟨w.heap.size,0,none⟩=some (.int .i64 0):=d.cell 0;have c1:l.cell? ⟨w.heap.size,1,none⟩=some (.string ⟨#[]⟩):=d.cell 1;have c2:l.cell? ⟨w.heap.size,2,none⟩=some (.string ⟨#[]⟩):=d.cell 2;have c3:l.cell? ⟨w.heap.size,3,none⟩=some (.int .i64 0):=d.cell 3;have c4:l.cell? ⟨w.heap.size,4,none⟩=some (.slice none 0 0):=d.cell 4;have f0:=d.frozen 0;have f1:=d.frozen 1;have f2:=d.frozen 2;have f3:=d.frozen 3;have f4:=d.frozen 4;have A:=hid d;have K7:=hid (K5.out.trans r);have H7:=hid T;have a8:=hid (u.out.step (X':=List.range (w.heap.size+1)) r (fun y hy _=>by rw[List.mem_singleton]at hy;exact List.mem_range.2 (by omega)) (fun y hy=>Or.inl hy));clear d J r T);refine fp (((((A.out.set_ 0 _).set_ 1 _).set_ 2 _).set_ 3 _).set_ 4 _) rfl rfl ?_;have s:=((((((Kept.refl [w.heap.size] l).setCell (p:=⟨w.heap.size,0,none⟩) (Or.inl (by simp)) (.int .i64 E)).setCell (p:=⟨w.heap.size,1,none⟩) (Or.inl (by simp)) (.string ⟨D.toArray⟩)).setCell (p:=⟨w.heap.size,2,none⟩) (Or.inl (by simp)) (.string ⟨C.toArray⟩)).setCell (p:=⟨w.heap.size,3,none⟩) (Or.inl (by simp)) (.int .i64 F)).setCell (p:=⟨w.heap.size,4,none⟩) (Or.inl (by simp)) (.slice G n.length o))
     refine⟨_,rfl,K7.out.fresh s (fun y hy=>by rw[List.mem_singleton]at hy;omega),H7.out.far s (fun y hy=>by rw[List.mem_singleton]at hy;omega),?_⟩;exact⟨[.int .i64 E,.string ⟨D.toArray⟩,.string ⟨C.toArray⟩,.int .i64 F,.slice G n.length o],rfl,a8.out.step s (fun y hy _=>by rw[List.mem_singleton]at hy;exact List.mem_range.2 (by omega)) (fun y hy=>Or.inl (List.mem_range.2 (by have:=List.mem_range.1 hy;omega)))⟩
  ·have b:=HR.out;rw[e1]at H1 b;simp only[if_true]at b;have X:=hid b;clear b;go_upto_region 3 with(go_at_call 115;refine H1.out.mono ?_;rintro e w2 ⟨rfl,k2,h2⟩);have h2':Ps B W0 rb ts a c z w2 (i+1):=h2;have H2:=hid (IH.out (i+1) w2 (by omega) h2');have B2:=hid (ac.out.kept k2 (by simp;omega));have K2:=hid (HK.out.trans k2);have a0:w.heap.size+1<=w2.heap.size:=B2.out.lt;clear h2 h2' k2 y1
   cases e2:cB ts f (i+1)with
   |error k =>
    have b:=X.out;rw[e2]at H2 b;simp only[bnd]at b;subst b;go_wp2_with (go_at_call 153;refine H2.out.mono ?_;unfold PdE;rintro e l ⟨⟨p,rfl⟩,r⟩);exact⟨rfl,⟨p,rfl⟩,K2.out.trans r⟩
   |ok y =>
    obtain⟨q,j2⟩:=y;have b:=X.out;rw[e2]at H2 b;simp only[bnd]at b;subst b;have a5:=eR (ts:=ts) f _ _ _ e2;have ad:=(fR (ts:=ts) f _ _ _ e2).2;obtain⟨p,hp⟩:∃p,negB q=p:=⟨_,rfl⟩;have HN:=hid (fun(w':World) (cs:List Value) (h:PdR w' cs q) (hj:j2<=ts.length)=>(qh 100000 (by decide) q cs w' (by omega) a5 h));have ab:=hid hp;obtain⟨E,D,C,F,n⟩:=p;clear a5 ad hp;go_wp2_with (first|(go_at_call 153;(with_reducible refine H2.out.mono ?_);(unfold PdE;rintro e w5 ⟨v,rfl,k5,h5,ag,rfl,a1⟩;have a9:=hid a1;have M:=hid h5;have K5:=hid k5;clear a1 h5 k5))|(go_at_call 195;refine(HN.out w5 ag a9.out.get M.out.le).mono ?_;unfold NegE;rintro e l ⟨v,rfl,r,a6⟩;rw[ab.out]at a6;obtain⟨cs,rfl,m⟩:=a6;obtain⟨G,o,rfl,_⟩:=m.get.rows;have a3:=K5.out.size;have d:=(B2.out.kept K5.out (by simp;omega)).kept r (by simp);have c0:l.cell? ⟨w.heap.size,0,none⟩=some (.int .i64 0):=d.cell 0;have c1:l.cell? ⟨w.heap.size,1,none⟩=some (.string ⟨#[]⟩):=d.cell 1;have c2:l.cell? ⟨w.heap.size,2,none⟩=some (.string ⟨#[]⟩):=d.cell 2;have c3:l.cell? ⟨w.heap.size,3,none⟩=some (.int .i64 0):=d.cell 3;have c4:l.cell? ⟨w.heap.size,4,none⟩=some (.slice none 0 0):=d.cell 4;have f0:=d.frozen 0;have f1:=d.frozen 1;have f2:=d.frozen 2;have f3:=d.frozen 3;have f4:=d.frozen 4;have A:=hid d;have K7:=hid ((K2.out.trans K5.out).trans (r.mono (by simp)));have H7:=hid (M.out.step r);have u:=hid (m.less (X':=List.range (w.heap.size+1)) (fun y hy=>Or.inl (List.mem_range.2 (by have:=List.mem_range.1 hy;omega))));clear d r m a3))
    refine fp (((((A.out.set_ 0 _).set_ 1 _).set_ 2 _).set_ 3 _).set_ 4 _) rfl rfl ?_;have s:=((((((Kept.refl [w.heap.size] l).setCell (p:=⟨w.heap.size,0,none⟩) (Or.inl (by simp)) (.int .i64 E)).setCell (p:=⟨w.heap.size,1,none⟩) (Or.inl (by simp)) (.string ⟨D.toArray⟩)).setCell (p:=⟨w.heap.size,2,none⟩) (Or.inl (by simp)) (.string ⟨C.toArray⟩)).setCell (p:=⟨w.heap.size,3,none⟩) (Or.inl (by simp)) (.int .i64 F)).setCell (p:=⟨w.heap.size,4,none⟩) (Or.inl (by simp)) (.slice G n.length o));refine⟨_,rfl,K7.out.fresh s (fun y hy=>by rw[List.mem_singleton]at hy;omega),H7.out.far s (fun y hy=>by rw[List.mem_singleton]at hy;omega),?_⟩;rw[ab.out];exact⟨[.int .i64 E,.string ⟨D.toArray⟩,.string ⟨C.toArray⟩,.int .i64 F,.slice G n.length o],rfl,u.out.step s (fun y hy _=>by rw[List.mem_singleton]at hy;exact List.mem_range.2 (by omega)) (fun y hy=>Or.inl (List.mem_range.2 (by have:=List.mem_range.1 hy;omega)))⟩
theorem tN{P:Program}{c:Code}{a:Act}{w:World}{Q:Exit->Act->World->Prop}(h:∀Q':Exit->Act->World->Prop,Hid (∀e a w,Q e a w->Q' e a w)->c.wp P Q' a w):c.wp P Q a w:=h Q (hid fun _ _ _ h=>h)
theorem qL(p q r s:Addr)(w:World) :
  CallsD prog 68 #[.pointer (some p),.pointer (some q),.pointer (some r),.pointer (some s)] .returning w fun e u' w'=>e=.returned (.tuple #[])/\u'=.returning/\w'=w:=by
 refine callsD_of_wpS func68 rfl fun c₀ cs hu=>?_
 apply wpS_seq
 apply wpS_region
 simp[wpOpsS,go_sem,recoverD,hu,ntmps68,Exit.thenS]
 refine wpS_of_wp (tN fun Q' hQ'=>?_);simp only[Array.replicate_succ,Array.replicate_zero,List.push_toArray,List.append_toArray,List.nil_append,List.cons_append,List.setIfInBounds_toArray,List.set_cons_zero,List.set_cons_succ];go_wp2_with fail;refine hQ'.out _ _ _ ?_
 cases c₀
 simp_all [bodyPostS,results,results68]
theorem qM(b:Nat)(c at_:Int)(older:List PanicEntry)(w:World){x0 v0 v1 v2 v3 v4 y0 z0:Value}(h0:Blk w b 9 #[x0])(h1:Blk w (b+1) 46 #[v0,v1,v2,v3,v4])(h2:Blk w (b+2) 3 #[y0])(h3:Blk w (b+3) 31 #[z0]) :
  CallsD prog 68 #[.pointer (some ⟨b,0,none⟩),.pointer (some ⟨b+1,0,none⟩),.pointer (some ⟨b+2,0,none⟩),.pointer (some ⟨b+3,0,none⟩)] (.panicking ({ v:=.iface 127 (.agg #[.int .i64 c,.int .i64 at_]),recovered:=false }::older)) w fun e u' w' =>
   e=.returned (.tuple #[])/\u'=.panicking ({ v:=.iface 127 (.agg #[.int .i64 c,.int .i64 at_]),recovered:=true }::older)/\Kept [b,b+1,b+2,b+3] w w' /\
   Blk w' b 9 #[.string ⟨#[]⟩]/\Blk w' (b+1) 46 #[.int .i64 0,.string ⟨#[]⟩,.string ⟨#[]⟩,.int .i64 0,.slice none 0 0]/\Blk w' (b+2) 3 #[.int .i64 at_]/\Blk w' (b+3) 31 #[.int .i64 c]:=by
 refine callsD_of_wpS func68 rfl fun c₀ cs hu=>?_
 apply wpS_seq
 apply wpS_region
 simp[wpOpsS,go_sem,recoverD,hu,ntmps68,Exit.thenS]
 refine wpS_of_wp (tN fun Q' hQ'=>?_);simp only[Array.replicate_succ,Array.replicate_zero,List.push_toArray,List.append_toArray,List.nil_append,List.cons_append,List.setIfInBounds_toArray,List.set_cons_zero,List.set_cons_succ]
 have j:∀(v:Value) (w:World),(Instr.typeAssert (.iface 127 v) 20 127 true).run prog w=.ok (.tuple #[v,.bool true]) w:=fun v w=>by kernel_rfl
 go_upto_region 5 with(fail);obtain⟨g,i⟩:∃g,w.heap.size=g:=⟨_,rfl⟩;obtain⟨a,f⟩:∃x,w.alloc (.cells #[.int .i64 c,.int .i64 at_] 127)=x:=⟨_,rfl⟩;rw[f,i];have h:Kept [] w a:=f▸(Kept.refl _ _).alloc _;have k:Blk a g 127 #[.int .i64 c,.int .i64 at_]:=i▸f▸Blk.new _ _ _;have n:=hid (h0.kept h (by simp));have d:=hid (h1.kept h (by simp));have m:=hid (h2.kept h (by simp));have l:=hid (h3.kept h (by simp));have o:b+3 < g:=i▸h3.lt;have P:a.cell? ⟨g,0,none⟩=some (.int .i64 c):=k.cell 0;have O:a.cell? ⟨g,1,none⟩=some (.int .i64 at_):=k.cell 1;have N:a.cell? ⟨b,0,none⟩=some x0:=n.out.cell 0;have M:=n.out.frozen 0;have L:a.cell? ⟨b+1,0,none⟩=some v0:=d.out.cell 0;have J:a.cell? ⟨b+1,1,none⟩=some v1:=d.out.cell 1;have I:a.cell? ⟨b+1,2,none⟩=some v2:=d.out.cell 2;have G:a.cell? ⟨b+1,3,none⟩=some v3:=d.out.cell 3;have F:a.cell? ⟨b+1,4,none⟩=some v4:=d.out.cell 4;have E:=d.out.frozen 0;have D:=d.out.frozen 1;have C:=d.out.frozen 2;have B:=d.out.frozen 3;have A:=d.out.frozen 4;have y0:a.cell? ⟨b+2,0,none⟩=some y0:=m.out.cell 0;have z:=m.out.frozen 0;have z0:a.cell? ⟨b+3,0,none⟩=some z0:=l.out.cell 0;have y:=l.out.frozen 0;have q:=hid h;clear f i h k h0 h1 h2 h3 j
 go_region
 refine hQ'.out _ _ _ ⟨rfl,_,rfl,.tuple #[],by simp[results,results68,go_sem],rfl,rfl,?_⟩;have u:=((((((((n.out.set_ 0 (.string ⟨#[]⟩)).far (p:=⟨b+1,0,none⟩) (by simp) (.int .i64 0)).far (p:=⟨b+1,1,none⟩) (by simp) (.string ⟨#[]⟩)).far (p:=⟨b+1,2,none⟩) (by simp) (.string ⟨#[]⟩)).far (p:=⟨b+1,3,none⟩) (by simp) (.int .i64 0)).far (p:=⟨b+1,4,none⟩) (by simp) (.slice none 0 0)).far (p:=⟨b+2,0,none⟩) (by simp) (.int .i64 at_)).far (p:=⟨b+3,0,none⟩) (by simp) (.int .i64 c)).drew;have t:=((((((((d.out.far (p:=⟨b,0,none⟩) (by simp) (.string ⟨#[]⟩)).set_ 0 (.int .i64 0)).set_ 1 (.string ⟨#[]⟩)).set_ 2 (.string ⟨#[]⟩)).set_ 3 (.int .i64 0)).set_ 4 (.slice none 0 0)).far (p:=⟨b+2,0,none⟩) (by simp) (.int .i64 at_)).far (p:=⟨b+3,0,none⟩) (by simp) (.int .i64 c)).drew;have s:=((((((((m.out.far (p:=⟨b,0,none⟩) (by simp) (.string ⟨#[]⟩)).far (p:=⟨b+1,0,none⟩) (by simp) (.int .i64 0)).far (p:=⟨b+1,1,none⟩) (by simp) (.string ⟨#[]⟩)).far (p:=⟨b+1,2,none⟩) (by simp) (.string ⟨#[]⟩)).far (p:=⟨b+1,3,none⟩) (by simp) (.int .i64 0)).far (p:=⟨b+1,4,none⟩) (by simp) (.slice none 0 0)).set_ 0 (.int .i64 at_)).far (p:=⟨b+3,0,none⟩) (by simp) (.int .i64 c)).drew;have r:=((((((((l.out.far (p:=⟨b,0,none⟩) (by simp) (.string ⟨#[]⟩)).far (p:=⟨b+1,0,none⟩) (by simp) (.int .i64 0)).far (p:=⟨b+1,1,none⟩) (by simp) (.string ⟨#[]⟩)).far (p:=⟨b+1,2,none⟩) (by simp) (.string ⟨#[]⟩)).far (p:=⟨b+1,3,none⟩) (by simp) (.int .i64 0)).far (p:=⟨b+1,4,none⟩) (by simp) (.slice none 0 0)).far (p:=⟨b+2,0,none⟩) (by simp) (.int .i64 at_)).set_ 0 (.int .i64 c)).drew
 exact⟨(((((((((q.out.mono (by simp)).setCell (Or.inl (by simp)) _).setCell (Or.inl (by simp)) _).setCell (Or.inl (by simp)) _).setCell (Or.inl (by simp)) _).setCell (Or.inl (by simp)) _).setCell (Or.inl (by simp)) _).setCell (Or.inl (by simp)) _).setCell (Or.inl (by simp)) _).drew,u,t,s,r⟩
end Go.Proofs.YtpcmamoomaddoaaGreatDoor
namespace Go.Proofs.YtpcmamoomaddoaaGreatDoor
def xI(t:Tok):Prop:=t.text.length<=100000/\0<=t.n/\t.n<=1099511627776
theorem sF{s:Bs}{n:Nat}(h:cg s=some n):n<=1099511627776:=by
 unfold cg at h
 split at h
 ·cases h
 ·split at h
  ·cases h
  ·injection h with h;omega
theorem yj{a:UInt8}{r:Bs}{t:Tok}{n:Nat}(h:fA (a::r)=.ok (t,n)):0<=t.n/\t.n<=1099511627776:=by
 rw[fA]at h
 split at h
 ·split at h
  ·injection h with h;injection h with h _;subst h;exact⟨Int.le_refl _,by show(0:Int)<=1099511627776;decide⟩
  ·cases h
 ·split at h
  ·split at h
   ·next m hm =>
    injection h with h;injection h with h _;subst h;have:=sF hm;exact⟨by show(0:Int)<=(m:Int);omega,by show(m:Int)<=1099511627776;omega⟩
   ·cases h
  ·split at h
   ·split at h
    ·injection h with h;injection h with h _;subst h;exact⟨Int.le_refl _,by show(0:Int)<=1099511627776;decide⟩
    ·cases h
   ·split at h
    ·injection h with h;injection h with h _;subst h;exact⟨Int.le_refl _,by show(0:Int)<=1099511627776;decide⟩
    ·cases h
theorem qW:∀(f:Nat) (s:Bs) (i:Nat) (out:List Tok) (c:Int),s.length < f->eE f s i out=.error c->c≠0
 |0,_,_,_,_,h,_=>absurd h (by omega)
 |f+1,s,i,out,c,hl,h=>by
  rw[eE]at h
  split at h
  ·cases h
  ·next a r hg =>
   have hle:=(eo s).length_le;rw[hg,List.length_cons]at hle
   split at h
   ·next e he=>injection h with h;exact h▸lL he
   ·next t n hn =>
    obtain⟨h1,h2,_⟩:=iM hn;exact qW f _ _ _ c (by rw[List.length_drop,List.length_cons];omega) h
theorem qV:∀(f:Nat) (s:Bs) (i:Nat) (out ts:List Tok),s.length<=90000->(∀t∈out,xI t)->eE f s i out=.ok ts->∀t∈ts,xI t
 |0,_,_,_,_,_,_,h=>by simp[eE]at h
 |f+1,s,i,out,ts,hl,ho,h=>by
  rw[eE]at h
  split at h
  ·injection h with h;exact h▸ho
  ·next a r hg =>
   have hle:=(eo s).length_le;rw[hg,List.length_cons]at hle
   split at h
   ·cases h
   ·next t n hn =>
    obtain⟨h1,h2,h3⟩:=iM hn;have h4:=yj hn;refine qV f _ _ _ ts (by rw[List.length_drop,List.length_cons];omega) (fun x hx=>?_) h
    rcases List.mem_append.1 hx with hx|hx
    ·exact ho x hx
    ·rw[List.mem_singleton]at hx;subst hx;exact⟨by show t.text.length<=100000;omega,h4⟩
end Go.Proofs.YtpcmamoomaddoaaGreatDoor
