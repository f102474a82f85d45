import Derived.Test.YtpcmamoomaddoaaGreatDoorLst
set_option maxRecDepth 100000
set_option maxHeartbeats 32000000
namespace Go.Proofs.YtpcmamoomaddoaaGreatDoor
open Go.RowKit
open Go.Proofs.Tryz
open Lib(hid)
theorem iE{α:Type}{skip:Nat->Bool}{e:Nat->Res α}(he:∀i x j,e i=.ok (x,j)->i<=j):∀(f i:Nat) (acc l:List α) (j:Nat),sepP skip e f i acc=.ok (l,j)->i<=j
 |0,_,_,_,_,h=>by simp[sepP]at h
 |f+1,i,acc,l,j,h=>by
  rw[sepP]at h;obtain⟨x,j1,hx,h⟩:=az h;have h1:=he _ _ _ hx
  split at h
  ·have:=iE he _ _ _ _ _ h;omega
  ·injection h with h;injection h with _ h;omega
theorem my{ts:List Tok}{u:Nat->Res Pd}(hu:∀i p j,u i=.ok (p,j)->i<=j){i j:Nat}{p:Pd}(h:allP ts u i=.ok (p,j)):i<=j:=by
 unfold allP at h
 obtain⟨l,j1,hl,h⟩:=az h;injection h with h;injection h with _ h;have:=iE hu _ _ _ _ _ hl;omega
theorem xA{w2:World}{tmps:Array Value}{v0 v1 v2 v3 v4 X:Value}{b:Nat}{R:Ending->World->Prop}(hb:Blk w2 b 46 #[v0,v1,v2,v3,v4])(h2:tmps[2]?.getD undef=.pointer (some ⟨b,0,none⟩))
  (hX:.agg #[v0,v1,v2,v3,v4]=X) (hR:R (.returned X) w2) :
  bodyPost prog Tryz.f118 R Exit.ret { tmps:=tmps,defers:=[] } w2:=by
 subst hX;have c0:w2.cell? ⟨b,0,none⟩=some v0:=hb.cell 0;have c1:w2.cell? ⟨b,1,none⟩=some v1:=hb.cell 1;have c2:w2.cell? ⟨b,2,none⟩=some v2:=hb.cell 2;have c3:w2.cell? ⟨b,3,none⟩=some v3:=hb.cell 3;have c4:w2.cell? ⟨b,4,none⟩=some v4:=hb.cell 4;refine bodyPost_ret (v:=.agg #[v0,v1,v2,v3,v4]) ?_ rfl hR;simp only[results,results118]
 simp[go_sem,h2,c0,c1,c2,c3,c4]
theorem xB{B:Nat}{W0:World}{rb:Nat}{ts:List Tok}{a:Option Addr}{c:Nat}{z:Int}{w:World}{n0:Nat}(u:Nat->Res Pd)(h:Ps B W0 rb ts a c z w n0)
  (hu:∀w i,n0<=i->Ps B W0 rb ts a c z w i->Calls prog 153 #[.pointer (some ⟨rb,0,none⟩)] w (PdE B W0 rb ts a c z w (u i))) (hmono:∀i p j,u i=.ok (p,j)->i<=j) :
  Calls prog 118 #[.pointer (some ⟨rb,0,none⟩)] w (PdE B W0 rb ts a c z w (allP ts u n0)):=by
 have V:∀(fn:Fn) (first cap:Array Value) (w:World),(Instr.makeFunc fn first cap).run prog w=.ok (.func fn first cap) w:=fun _ _ _ _=>rfl;obtain⟨W,r⟩:∃W,w.alloc (.cells #[.int .i64 0,.string ⟨#[]⟩,.string ⟨#[]⟩,.int .i64 0,.slice none 0 0] 46)=W:=⟨_,rfl⟩;have g:Kept [] w W:=r▸(Kept.refl _ _).alloc _;have C:Blk W w.heap.size 46 #[.int .i64 0,.string ⟨#[]⟩,.string ⟨#[]⟩,.int .i64 0,.slice none 0 0]:=r▸Blk.new _ _ _;have O:=h.step g;have U:rb < w.heap.size:=h.blk.lt;have T:=h.small;have A:=sQ (w:=W) (n0:=n0) u 1 wAnd O hu hmono (ts.length+1) (by omega) (by omega);obtain⟨R,x⟩:∃R,allP ts u n0=R:=⟨_,rfl⟩;have l:=x
 unfold allP at l
 rw[l]at A;rw[x];have s:=hid A;have Y:=hid C;have Q:Hid (Kept [rb] w W):=hid (g.mono (by simp));have X:=hid r;have q:Hid (w.heap.size < W.heap.size):=hid C.lt;clear r g C h O A x l hu hmono
 go_enter func118,ntmps118
 go_upto_region 1 with(fail);have hW':=X.out;rw[hW'];clear hW'
 cases hr:R with
 |error k =>
  rw[hr]at s;subst hr;go_wp2_with (go_at_call 117;refine s.out.mono ?_;unfold PdE;rintro e d ⟨⟨p,rfl⟩,o⟩);exact⟨rfl,⟨p,rfl⟩,Q.out.trans o⟩
 |ok y =>
  obtain⟨p,j⟩:=y;rw[hr]at s;subst hr;obtain⟨L,J,I,M,m⟩:=p;go_wp2_with (go_at_call 117;refine s.out.mono ?_;unfold PdE;rintro e d ⟨v,rfl,o,P,cs,rfl,f⟩;obtain⟨N,n,rfl,_⟩:=f.get.rows;have b:=Y.out.kept o (by simp;omega);have c0:d.cell? ⟨w.heap.size,0,none⟩=some (.int .i64 0):=b.cell 0;have c1:d.cell? ⟨w.heap.size,1,none⟩=some (.string ⟨#[]⟩):=b.cell 1;have c2:d.cell? ⟨w.heap.size,2,none⟩=some (.string ⟨#[]⟩):=b.cell 2;have c3:d.cell? ⟨w.heap.size,3,none⟩=some (.int .i64 0):=b.cell 3;have c4:d.cell? ⟨w.heap.size,4,none⟩=some (.slice none 0 0):=b.cell 4;have f0:=b.frozen 0;have f1:=b.frozen 1;have f2:=b.frozen 2;have f3:=b.frozen 3;have Z:=b.frozen 4;have G:=hid b;have F:=hid (Q.out.trans o);have E:=hid P;have D:=hid f;clear b o P f);refine xA (((((G.out.set_ 0 _).set_ 1 _).set_ 2 _).set_ 3 _).set_ 4 _) rfl rfl ?_;have t:=(((((Kept.refl [w.heap.size] d).setCell (p:=⟨w.heap.size,0,none⟩) (Or.inl (by simp)) (.int .i64 L)).setCell (p:=⟨w.heap.size,1,none⟩) (Or.inl (by simp)) (.string ⟨J.toArray⟩)).setCell (p:=⟨w.heap.size,2,none⟩) (Or.inl (by simp)) (.string ⟨I.toArray⟩)).setCell (p:=⟨w.heap.size,3,none⟩) (Or.inl (by simp)) (.int .i64 M)).setCell (p:=⟨w.heap.size,4,none⟩) (Or.inl (by simp)) (.slice N m.length n);refine⟨_,rfl,F.out.fresh t (fun y hy=>by rw[List.mem_singleton]at hy;omega),E.out.far t (fun y hy=>by rw[List.mem_singleton]at hy;omega),?_⟩;exact⟨[.int .i64 L,.string ⟨J.toArray⟩,.string ⟨I.toArray⟩,.int .i64 M,.slice N m.length n],rfl,D.out.step t (fun y hy _=>by rw[List.mem_singleton]at hy;exact List.mem_range.2 (by have:=q.out;omega)) (fun y hy=>Or.inl (List.mem_range.2 (by have:=q.out;have:=List.mem_range.1 hy;omega)))⟩
theorem tW{w2:World}{tmps:Array Value}{v0 v1 v2 v3 v4 X:Value}{b:Nat}{R:Ending->World->Prop}(hb:Blk w2 b 46 #[v0,v1,v2,v3,v4])(h2:tmps[2]?.getD undef=.pointer (some ⟨b,0,none⟩))
  (hX:.agg #[v0,v1,v2,v3,v4]=X) (hR:R (.returned X) w2) :
  bodyPost prog Tryz.f71 R Exit.ret { tmps:=tmps,defers:=[] } w2:=by
 subst hX;have c0:w2.cell? ⟨b,0,none⟩=some v0:=hb.cell 0;have c1:w2.cell? ⟨b,1,none⟩=some v1:=hb.cell 1;have c2:w2.cell? ⟨b,2,none⟩=some v2:=hb.cell 2;have c3:w2.cell? ⟨b,3,none⟩=some v3:=hb.cell 3;have c4:w2.cell? ⟨b,4,none⟩=some v4:=hb.cell 4;refine bodyPost_ret (v:=.agg #[v0,v1,v2,v3,v4]) ?_ rfl hR;simp only[results,results71]
 simp[go_sem,h2,c0,c1,c2,c3,c4]
theorem jJ{B:Nat}{W0:World}{rb:Nat}{ts:List Tok}{a:Option Addr}{c:Nat}{z:Int}{w:World}{n0:Nat}(u:Nat->Res Pd)(h:Ps B W0 rb ts a c z w n0)
  (hu:∀w i,n0<=i->Ps B W0 rb ts a c z w i->Calls prog 153 #[.pointer (some ⟨rb,0,none⟩)] w (PdE B W0 rb ts a c z w (u i))) (hmono:∀i p j,u i=.ok (p,j)->i<=j) :
  Calls prog 71 #[.pointer (some ⟨rb,0,none⟩)] w (PdE B W0 rb ts a c z w (dw ts u n0)):=by
 have V:∀(fn:Fn) (first cap:Array Value) (w:World),(Instr.makeFunc fn first cap).run prog w=.ok (.func fn first cap) w:=fun _ _ _ _=>rfl;obtain⟨W,r⟩:∃W,w.alloc (.cells #[.int .i64 0,.string ⟨#[]⟩,.string ⟨#[]⟩,.int .i64 0,.slice none 0 0] 46)=W:=⟨_,rfl⟩;have g:Kept [] w W:=r▸(Kept.refl _ _).alloc _;have C:Blk W w.heap.size 46 #[.int .i64 0,.string ⟨#[]⟩,.string ⟨#[]⟩,.int .i64 0,.slice none 0 0]:=r▸Blk.new _ _ _;have O:=h.step g;have U:rb < w.heap.size:=h.blk.lt;have T:=h.small;have A:=sR (w:=W) (n0:=n0) (allP ts u) 2 wOr O (fun w i hi hp=>xB u hp (fun w j hj hq=>hu w j (by omega) hq) hmono) (fun i p j=>my hmono) (ts.length+1) (by omega) (by omega);obtain⟨R,x⟩:∃R,dw ts u n0=R:=⟨_,rfl⟩;have l:=x
 unfold dw at l
 rw[l]at A;rw[x];have s:=hid A;have Y:=hid C;have Q:Hid (Kept [rb] w W):=hid (g.mono (by simp));have X:=hid r;have q:Hid (w.heap.size < W.heap.size):=hid C.lt;clear r g C h O A x l hu hmono
 go_enter func71,ntmps71
 go_upto_region 1 with(fail);have hW':=X.out;rw[hW'];clear hW'
 cases hr:R with
 |error k =>
  rw[hr]at s;subst hr;go_wp2_with (go_at_call 117;refine s.out.mono ?_;unfold PdE;rintro e d ⟨⟨p,rfl⟩,o⟩);exact⟨rfl,⟨p,rfl⟩,Q.out.trans o⟩
 |ok y =>
  obtain⟨p,j⟩:=y;rw[hr]at s;subst hr;obtain⟨L,J,I,M,m⟩:=p;go_wp2_with (go_at_call 117;refine s.out.mono ?_;unfold PdE;rintro e d ⟨v,rfl,o,P,cs,rfl,f⟩;obtain⟨N,n,rfl,_⟩:=f.get.rows;have b:=Y.out.kept o (by simp;omega);have c0:d.cell? ⟨w.heap.size,0,none⟩=some (.int .i64 0):=b.cell 0;have c1:d.cell? ⟨w.heap.size,1,none⟩=some (.string ⟨#[]⟩):=b.cell 1;have c2:d.cell? ⟨w.heap.size,2,none⟩=some (.string ⟨#[]⟩):=b.cell 2;have c3:d.cell? ⟨w.heap.size,3,none⟩=some (.int .i64 0):=b.cell 3;have c4:d.cell? ⟨w.heap.size,4,none⟩=some (.slice none 0 0):=b.cell 4;have f0:=b.frozen 0;have f1:=b.frozen 1;have f2:=b.frozen 2;have f3:=b.frozen 3;have Z:=b.frozen 4;have G:=hid b;have F:=hid (Q.out.trans o);have E:=hid P;have D:=hid f;clear b o P f);refine tW (((((G.out.set_ 0 _).set_ 1 _).set_ 2 _).set_ 3 _).set_ 4 _) rfl rfl ?_;have t:=(((((Kept.refl [w.heap.size] d).setCell (p:=⟨w.heap.size,0,none⟩) (Or.inl (by simp)) (.int .i64 L)).setCell (p:=⟨w.heap.size,1,none⟩) (Or.inl (by simp)) (.string ⟨J.toArray⟩)).setCell (p:=⟨w.heap.size,2,none⟩) (Or.inl (by simp)) (.string ⟨I.toArray⟩)).setCell (p:=⟨w.heap.size,3,none⟩) (Or.inl (by simp)) (.int .i64 M)).setCell (p:=⟨w.heap.size,4,none⟩) (Or.inl (by simp)) (.slice N m.length n);refine⟨_,rfl,F.out.fresh t (fun y hy=>by rw[List.mem_singleton]at hy;omega),E.out.far t (fun y hy=>by rw[List.mem_singleton]at hy;omega),?_⟩;exact⟨[.int .i64 L,.string ⟨J.toArray⟩,.string ⟨I.toArray⟩,.int .i64 M,.slice N m.length n],rfl,D.out.step t (fun y hy _=>by rw[List.mem_singleton]at hy;exact List.mem_range.2 (by have:=q.out;omega)) (fun y hy=>Or.inl (List.mem_range.2 (by have:=q.out;have:=List.mem_range.1 hy;omega)))⟩
theorem gF{ts:List Tok}{s:Bs}{i j:Nat}{y:Unit}(h:bz ts s i=.ok (y,j)):i<=j:=by
 unfold bz at h
 split at h
 ·cases h;omega
 ·cases h
theorem eZ{ts:List Tok}{i j:Nat}{n:Int}(h:aO ts i=.ok (n,j)):i<=j:=by
 unfold aO at h
 split at h
 ·cases h
 ·split at h
  ·cases h;omega
  ·cases h
theorem pE{ts:List Tok}{u:Nat->Res Pd}(hu:∀i p j,u i=.ok (p,j)->i<=j){i j:Nat}{p:Pd}(h:dw ts u i=.ok (p,j)):i<=j:=by
 unfold dw at h
 cases hl:sepP (aI ts wOr) (allP ts u) (ts.length+1) i []with
 |error k=>rw[hl]at h;cases h
 |ok y =>
  obtain⟨l,k⟩:=y;rw[hl]at h
  cases h
  exact iE (fun _ _ _ h=>my hu h) _ _ _ _ _ hl
theorem sU{w2:World}{tmps:Array Value}{v0 v1 v2 v3 v4 X:Value}{b:Nat}{R:Ending->World->Prop}(hb:Blk w2 b 46 #[v0,v1,v2,v3,v4])(h2:tmps[4]?.getD undef=.pointer (some ⟨b,0,none⟩))
  (hX:.agg #[v0,v1,v2,v3,v4]=X) (hR:R (.returned X) w2) :
  bodyPost prog Tryz.f196 R Exit.ret { tmps:=tmps,defers:=[] } w2:=by
 subst hX;have c0:w2.cell? ⟨b,0,none⟩=some v0:=hb.cell 0;have c1:w2.cell? ⟨b,1,none⟩=some v1:=hb.cell 1;have c2:w2.cell? ⟨b,2,none⟩=some v2:=hb.cell 2;have c3:w2.cell? ⟨b,3,none⟩=some v3:=hb.cell 3;have c4:w2.cell? ⟨b,4,none⟩=some v4:=hb.cell 4;refine bodyPost_ret (v:=.agg #[v0,v1,v2,v3,v4]) ?_ rfl hR;simp only[results,results196]
 simp[go_sem,h2,c0,c1,c2,c3,c4]
theorem sV{B:Nat}{W0:World}{rb:Nat}{ts:List Tok}{a:Option Addr}{c:Nat}{z:Int}{w:World}{n0:Nat}(pos:Nat)(hpos:pos<=ts.length)(u:Nat->Res Pd)(h:Ps B W0 rb ts a c z w n0)
  (hu:∀w i,n0<=i->Ps B W0 rb ts a c z w i->Calls prog 153 #[.pointer (some ⟨rb,0,none⟩)] w (PdE B W0 rb ts a c z w (u i))) (hmono:∀i p j,u i=.ok (p,j)->i<=j) :
  Calls prog 196 #[.pointer (some ⟨rb,0,none⟩),.int .i64 (pos:Int)] w (PdE B W0 rb ts a c z w (fb ts u n0)):=by
 obtain⟨W,hW⟩:∃W,w.alloc (.cells #[.int .i64 0,.string ⟨#[]⟩,.string ⟨#[]⟩,.int .i64 0,.slice none 0 0] 46)=W:=⟨_,rfl⟩;have af:Kept [] w W:=hW▸(Kept.refl _ _).alloc _;have hB:Blk W w.heap.size 46 #[.int .i64 0,.string ⟨#[]⟩,.string ⟨#[]⟩,.int .i64 0,.slice none 0 0]:=hW▸Blk.new _ _ _;have hw:=h.step af;have d2:rb < w.heap.size:=h.blk.lt;have d1:=h.small;obtain⟨R,d⟩:∃R,fb ts u n0=R:=⟨_,rfl⟩;rw[d]
 unfold fb at d
 have H1:=hid (bU hw mC);have HB:=hid hB;have HK:Hid (Kept [rb] w W):=hid (af.mono (by simp));have HW:=hid hW;have HR:=hid d;clear hW af hB h hw d
 go_enter func196,ntmps196
 go_upto_region 1 with(fail);have hW':=HW.out;rw[hW'];clear hW'
 cases e1:bz ts mC n0 with
 |error k =>
  have d:=HR.out;rw[e1]at H1 d;simp only[bnd]at d;subst d;go_wp2_with (go_at_call 69;refine H1.out.mono ?_;unfold cf;rintro e w1 ⟨⟨p,rfl⟩,k1⟩);exact⟨rfl,⟨p,rfl⟩,HK.out.trans k1⟩
 |ok y1 =>
 obtain⟨u1,j1⟩:=y1;have d:=HR.out;rw[e1]at H1 d;simp only[bnd]at d;have b1:=hid d;clear d;go_upto_region 2 with(go_at_call 69;refine H1.out.mono ?_;unfold cf;rintro e w1 ⟨rfl,k1,h1⟩);have H2:=hid (dV h1);have K1:=hid (HK.out.trans k1);have P1:=hid h1;have B1:=hid (HB.out.kept k1 (by simp;omega));clear k1 h1
 cases e2:aO ts j1 with
 |error k =>
  have d:=b1.out;rw[e2]at H2 d
  simp only at d
  subst d;go_wp2_with (go_at_call 233;refine H2.out.mono ?_;unfold NumE;rintro e w2 ⟨⟨p,rfl⟩,k2⟩);exact⟨rfl,⟨p,rfl⟩,K1.out.trans k2⟩
 |ok y2 =>
 obtain⟨n,j2⟩:=y2;have d:=b1.out;rw[e2]at H2 d
 simp only at d
 have b0:=hid d;clear d;go_upto_region 3 with(go_at_call 233;refine H2.out.mono ?_;unfold NumE;rintro e w2 ⟨rfl,k2,h2⟩);obtain⟨V,hV⟩:∃V,w2.alloc (.cells #[.int .i64 3,.string ⟨#[]⟩,.string ⟨#[]⟩,.int .i64 n,.slice none 0 0] 46)=V:=⟨_,rfl⟩;rw[hV];obtain⟨G,hG⟩:∃G,w2.heap.size=G:=⟨_,rfl⟩;rw[hG];have kV:Kept [] w2 V:=hV▸(Kept.refl _ _).alloc _;have bV:Blk V G 46 #[.int .i64 3,.string ⟨#[]⟩,.string ⟨#[]⟩,.int .i64 n,.slice none 0 0]:=hG▸hV▸Blk.new _ _ _;have bA:Blk V w.heap.size 46 #[.int .i64 0,.string ⟨#[]⟩,.string ⟨#[]⟩,.int .i64 0,.slice none 0 0]:=(B1.out.kept k2 (by simp;omega)).kept kV (by simp)
 have d7:w.heap.size < G:=by have:=(B1.out.kept k2 (by simp;omega)).lt;omega
 have H3:=hid (bU (h2.step kV) wOf);have K3:=hid ((K1.out.trans k2).trans (kV.mono (by simp)));have BV:=hid bV;have cb:=hid bA;clear hV kV bV bA k2 h2 hG HK HB HW HR P1 B1 K1 H1 H2 b1
 cases e3:bz ts wOf j2 with
 |error k =>
  have d:=b0.out;rw[e3]at H3 d
  simp only at d
  subst d;go_wp2_with (go_at_call 69;refine H3.out.mono ?_;unfold cf;rintro e w1 ⟨⟨p,rfl⟩,k1⟩);exact⟨rfl,⟨p,rfl⟩,K3.out.trans k1⟩
 |ok y3 =>
 obtain⟨u3,j3⟩:=y3;have d:=b0.out;rw[e3]at H3 d
 simp only at d
 have Q:=hid d;clear d;go_upto_region 4 with(go_at_call 69;refine H3.out.mono ?_;unfold cf;rintro e w3 ⟨rfl,k3,h3⟩);have H4:=hid (bU h3 [40]);have K4:=hid (K3.out.trans k3);have B4:=hid (BV.out.kept k3 (by simp;omega));have cc:=hid (cb.out.kept k3 (by simp;omega));clear k3 h3 H3 K3 BV cb b0
 cases e4:bz ts [40] j3 with
 |error k =>
  have d:=Q.out;rw[e4]at H4 d
  simp only at d
  subst d;go_wp2_with (go_at_call 69;refine H4.out.mono ?_;unfold cf;rintro e w1 ⟨⟨p,rfl⟩,k1⟩);exact⟨rfl,⟨p,rfl⟩,K4.out.trans k1⟩
 |ok y4 =>
 obtain⟨u4,j4⟩:=y4;have d:=Q.out;rw[e4]at H4 d
 simp only at d
 have d3:n0<=j4:=by
  have a1:=gF e1;have a2:=eZ e2;have a3:=gF e3;have a4:=gF e4;omega
 obtain⟨R1,an⟩:∃R1,sepP (aI ts [44]) (dw ts u) (ts.length+1) j4 []=R1:=⟨_,rfl⟩;rw[an]at d;have au:=hid d;have av:=hid an;have HE:=hid (fun(w:World) (i:Nat) (hi:j4<=i) (hp:Ps B W0 rb ts a c z w i)=>jJ u hp (fun w j hj hq=>hu w j (by omega) hq) hmono);clear d an Q e1 e2 e3 e4;obtain⟨f0,cq⟩:∃f0,ts.length+1=f0:=⟨_,rfl⟩;rw[cq]at av;obtain⟨i0,hi,cm,cl,ci⟩:=info_parts eK;go_upto_region 5 with(go_at_call 69;refine H4.out.mono ?_;unfold cf;rintro e w4 ⟨rfl,k4,h4⟩);have b4:=hid (K4.out.trans k4);have BG:=hid (B4.out.kept k4 (by simp;omega));have BA:=hid (cc.out.kept k4 (by simp;omega));have P4:=hid h4;clear k4 h4 H4 K4 B4 cc;go_wp2_with fail
 go_loopw [6] (fun v wr=>∃(b:Bool) (i f:Nat) (l:List Pd) (kv:Value),v=.bool b/\j4<=i/\Ps B W0 rb ts a c z wr i/\Kept [rb] w wr/\Blk wr G 46 #[.int .i64 3,.string ⟨#[]⟩,.string ⟨#[]⟩,.int .i64 n,kv] /\
  Blk wr w.heap.size 46 #[.int .i64 0,.string ⟨#[]⟩,.string ⟨#[]⟩,.int .i64 0,.slice none 0 0] /\
  Grow PdR 5 46 (G+1) (List.range (G+1)++obl kv) wr kv l/\l.length+f<=f0/\G+1<=wr.heap.size/\(if b then ts.length < i+f/\sepP (aI ts [44]) (dw ts u) f i l=R1 else R1=.ok (l,i)))
  (fun v wr=>if cH v then 0 else f0+1 - cI (wr.cell? ⟨G,4,none⟩))
 case atStart=>exact⟨true,j4,f0,[],_,rfl,Nat.le_refl _,P4.out,b4.out,BG.out,BA.out,Grow.nil_ _ _ _ _ _ _,by simp,by have:=BG.out.lt;omega,by simp only[if_true];exact⟨by omega,av.out⟩⟩
 case round =>
  obtain⟨b,i,f,l,kv,rfl,co,P,hk,A,m,hg,d4,d0,C⟩:=hrel;obtain⟨I,F,rfl⟩:=hg.form (by decide)
  cases b
  ·simp only[Bool.false_eq_true,if_false]at C;subst C;have O:=au.out
   simp only at O
   have ap:=hid O;have bc:=hg.ge
   have cp:l.length<=9223372036854775807:=by omega
   have N:=hg.done (X':=List.range (G+1)) (fun z hz=>Or.inl (List.mem_append_left _ hz)) (fun z hz o=>by have:=(bc z hz).1;have:=List.mem_range.1 o;omega) cp;have H5:=hid (bU P [41]);have b2:=hid hk;have c7:=hid A;have c8:=hid m;have br:=hid N;clear P hk hg m A bc O N P4 b4 BG BA HE av au
   cases e5:bz ts [41] i with
   |error k =>
    have d:=ap.out;rw[e5]at H5 d
    simp only at d
    subst d;go_wp2_with (go_at_call 69;refine H5.out.mono ?_;unfold cf;rintro e w1 ⟨⟨p,rfl⟩,k1⟩);exact⟨rfl,⟨p,rfl⟩,b2.out.trans k1⟩
   |ok y5 =>
   obtain⟨u5,j5⟩:=y5;have d:=ap.out;rw[e5]at H5 d
   simp only at d
   have aq:=hid d;clear d;go_upto_region 10 with(go_at_call 69;refine H5.out.mono ?_;unfold cf;rintro e U ⟨rfl,k5,h5⟩);have A:=c7.out.kept k5 (by simp;omega);have m:=c8.out.kept k5 (by simp;omega);have t0:U.cell? ⟨w.heap.size,0,none⟩=some (.int .i64 0):=m.cell 0;have t1:U.cell? ⟨w.heap.size,1,none⟩=some (.string ⟨#[]⟩):=m.cell 1;have t2:U.cell? ⟨w.heap.size,2,none⟩=some (.string ⟨#[]⟩):=m.cell 2;have t3:U.cell? ⟨w.heap.size,3,none⟩=some (.int .i64 0):=m.cell 3;have t4:U.cell? ⟨w.heap.size,4,none⟩=some (.slice none 0 0):=m.cell 4;have q0:U.cell? ⟨G,0,none⟩=some (.int .i64 3):=A.cell 0;have q1:U.cell? ⟨G,1,none⟩=some (.string ⟨#[]⟩):=A.cell 1;have q2:U.cell? ⟨G,2,none⟩=some (.string ⟨#[]⟩):=A.cell 2;have q3:U.cell? ⟨G,3,none⟩=some (.int .i64 n):=A.cell 3;have q4:U.cell? ⟨G,4,none⟩=some (.slice I l.length F):=A.cell 4;have g0:=m.frozen 0;have g1:=m.frozen 1;have g2:=m.frozen 2;have g3:=m.frozen 3;have g4:=m.frozen 4;have HF:=hid (dD h5 3 pos hpos (pos:Int) rfl);have b3:=hid (b2.out.trans k5);have cv:=hid h5;have bq:=hid (br.out.step (X':=List.range (G+1)) k5 (fun y hy _=>by rw[List.mem_singleton]at hy;exact List.mem_range.2 (by omega)) (fun y hy=>Or.inl hy));have c5:=hid (fun v0 v1 v2 v3 v4=>((((m.set_ 0 v0).set_ 1 v1).set_ 2 v2).set_ 3 v3).set_ 4 v4);have KS:=hid (fun(v0 v1 v2 v3 v4:Value)=>(((((Kept.refl [w.heap.size] U).setCell (p:=⟨w.heap.size,0,none⟩) (Or.inl (by simp)) v0).setCell (p:=⟨w.heap.size,1,none⟩) (Or.inl (by simp)) v1).setCell (p:=⟨w.heap.size,2,none⟩) (Or.inl (by simp)) v2).setCell (p:=⟨w.heap.size,3,none⟩) (Or.inl (by simp)) v3).setCell (p:=⟨w.heap.size,4,none⟩) (Or.inl (by simp)) v4)
   clear m A k5 h5 br b2 c8 c7 H5 ap
   by_cases c1:n < 1
   ·have d:=aq.out;rw[if_pos (Or.inl c1)]at d;subst d;go_wp2_with (go_at_call 72;refine HF.out.mono ?_;rintro e T ⟨⟨p,rfl⟩,k6⟩);exact⟨rfl,⟨p,rfl⟩,b3.out.trans (k6.mono (by simp))⟩
   ·by_cases c2:(l.length:Int) < n
    ·have d:=aq.out;rw[if_pos (Or.inr c2)]at d;subst d;go_wp2_with (go_at_call 72;refine HF.out.mono ?_;rintro e T ⟨⟨p,rfl⟩,k6⟩);exact⟨rfl,⟨p,rfl⟩,b3.out.trans (k6.mono (by simp))⟩
    ·have d:=aq.out;rw[if_neg (by omega)]at d;subst d;go_wp2_with fail;refine sU (c5.out _ _ _ _ _) rfl rfl ?_;have kF:=KS.out (.int .i64 3) (.string ⟨#[]⟩) (.string ⟨#[]⟩) (.int .i64 n) (.slice I l.length F);refine⟨_,rfl,b3.out.fresh kF (fun y hy=>by rw[List.mem_singleton]at hy;omega),cv.out.far kF (fun y hy=>by rw[List.mem_singleton]at hy;omega),?_⟩;exact⟨[.int .i64 3,.string ⟨#[]⟩,.string ⟨#[]⟩,.int .i64 n,.slice I l.length F],rfl,(bq.out.imp fun w' hr=>PdR.of_rows (l:=[]) (r:=[]) hr).step kF (fun y hy _=>by rw[List.mem_singleton]at hy;exact List.mem_range.2 (by omega)) (fun y hy=>Or.inl (List.mem_range.2 (by have:=List.mem_range.1 hy;omega)))⟩
  ·simp only[if_true]at C;obtain⟨d6,a0⟩:=C;obtain⟨f,rfl⟩:∃g,f=g+1:=⟨f - 1,by have:=P.le;omega⟩;rw[sepP]at a0;have a9:=hid (HE.out wr.drew i co (P.step (Kept.refl _ _).drew));have ad:=hid a0;have d8:=hid P;have bx:=hid hk;have ab:=hid A;have cx:=hid m;have HG:=hid hg;clear a0 P hk A m hg b4 BA BG P4;have ba:∀y∈obl (.slice I l.length F),G+1<=y/\y < wr.heap.size:=HG.out.ge;have bt:=hid ba
   have s0:∀w',Kept (rb::obl (.slice I l.length F)) wr w'->w'.cell? ⟨G,4,none⟩=some (.slice I l.length F):=fun w' k=>(ab.out.kept k (by
    intro o
    rcases List.mem_cons.1 o with o|o
    ·omega
    ·have:=bt.out _ o;omega)).cell 4
   clear ba;go_upto_region 8 with(fail);refine ar [7] (fun w'=>Kept (rb::obl (.slice I l.length F)) wr w') (by kernel_rfl) (Kept.refl _ _).drew (fun hH=>?_);refine ah [1,5,6,7] (i:=0) (v:=?tv1) rfl (by kernel_rfl) (by kernel_rfl) (by kernel_rfl) (by kernel_rfl) (fun _ _ _ h=>h) (Or.inl ⟨by rfl,?ty1⟩) hH ?tr1
   case ty1=>intro w' L;(try dsimp only at L);go_simp;first|done|with_reducible rfl
   simp only[Act.put,List.setIfInBounds_toArray,List.set_cons_zero,List.set_cons_succ];refine ah [5,6,7] (i:=1) (v:=?tv2) rfl (by kernel_rfl) (by kernel_rfl) (by kernel_rfl) (by kernel_rfl) (fun _ _ _ h=>h) (Or.inl ⟨by rfl,?ty2⟩) hH ?tr2
   case ty2=>intro w' L;(try dsimp only at L);go_simp;first|done|with_reducible rfl
   simp only[Act.put,List.setIfInBounds_toArray,List.set_cons_zero,List.set_cons_succ];refine ah [3,4,5,6,7] (i:=2) (v:=?tv3) rfl (by kernel_rfl) (by kernel_rfl) (by kernel_rfl) (by kernel_rfl) (fun _ _ _ h=>h) (Or.inl ⟨by rfl,?ty3⟩) hH ?tr3
   case ty3=>intro w' L;(try dsimp only at L);go_simp;first|done|with_reducible rfl
   simp only[Act.put,List.setIfInBounds_toArray,List.set_cons_zero,List.set_cons_succ];refine ai (rs:=[3]) (by kernel_rfl) (by simp) ?_;refine ae.cons rfl (fun K hK=>?_) ae.nil;go_simp
   cases hr:dw ts u i with
   |error k =>
    have E:=ad.out;rw[hr]at E a9;simp only[bnd]at E;subst E;have O:=au.out
    simp only at O
    subst O;refine a9.out.mono ?_
    unfold PdE
    rintro e T ⟨⟨p,rfl⟩,k6⟩;exact⟨rfl,⟨p,rfl⟩,(bx.out.drew).trans k6⟩
   |ok y =>
    obtain⟨p,j⟩:=y;have d5:=pE hmono hr;have E:=ad.out;rw[hr]at E a9;simp only[bnd]at E;have Q:=hid E;clear E;refine a9.out.mono ?_
    unfold PdE
    rintro e T ⟨v,rfl,k6,h6,cs,rfl,N⟩;obtain⟨Z,Y,X,pc,s⟩:=p;obtain⟨pa,J,rfl,_⟩:=N.get.rows;have k6':Kept [rb] wr T:=(Kept.refl _ _).drew.trans k6;refine hK.out _ _ (k6'.mono (fun _ _ h=>by rw[List.mem_singleton]at h;exact h▸List.mem_cons_self)) (fun hH=>?_);clear hK K
    (try simp only[Act.put,List.setIfInBounds_toArray,List.set_cons_zero,List.set_cons_succ])
    refine ai (rs:=[4]) (by kernel_rfl) (by simp) ?_;refine ae.cons rfl (fun K hK=>?_) ae.nil;go_simp;refine hK.out _ _ (hH.alloc _) (fun hH=>?_);clear hK K
    (try simp only[Act.put,List.setIfInBounds_toArray,List.set_cons_zero,List.set_cons_succ])
    refine ai (rs:=[5]) (by kernel_rfl) (by simp) ?_;refine ae.cons rfl (fun K hK=>?_) ae.nil;have D:=bt.out;have cz:wr.heap.size<=T.heap.size:=k6'.size;have k7:Kept [rb] wr (T.alloc (.cells #[.int .i64 Z,.string ⟨Y.toArray⟩,.string ⟨X.toArray⟩,.int .i64 pc,.slice pa s.length J] 46)):=k6'.alloc _
    have bk:Grow PdR 5 46 (G+1) (List.range (G+1)++obl (.slice I l.length F)) (T.alloc (.cells #[.int .i64 Z,.string ⟨Y.toArray⟩,.string ⟨X.toArray⟩,.int .i64 pc,.slice pa s.length J] 46)) (.slice I l.length F) l :=
     HG.out.step k7 (fun z hz o=>by rw[List.mem_singleton]at o;have:=(D z hz).1;omega) (fun z hz _=>by rw[List.mem_singleton]at hz;exact List.mem_append_left _ (List.mem_range.2 (by omega))) (fun z hz=>Or.inl hz)
    have ac:aw (List.range (G+1)++obl (.slice I l.length F)) (fun w=>PdR w [.int .i64 Z,.string ⟨Y.toArray⟩,.string ⟨X.toArray⟩,.int .i64 pc,.slice pa s.length J] (.node Z Y X pc s)) (T.alloc (.cells #[.int .i64 Z,.string ⟨Y.toArray⟩,.string ⟨X.toArray⟩,.int .i64 pc,.slice pa s.length J] 46)) :=
     (N.step ((Kept.refl [] T).alloc _) (by simp) (fun z hz=>Or.inl hz)).less (fun z hz=>by
      rcases List.mem_append.1 hz with h|h
      ·exact Or.inl (List.mem_range.2 (by have:=List.mem_range.1 h;show z < wr.heap.size;omega))
      ·exact Or.inl (List.mem_range.2 (D z h).2))
    refine bg rfl _ _ 44 rfl i0 _ 72 underlying44 hi cm cl ci rfl (by decide) (by decide) rfl bk _ [.int .i64 Z,.string ⟨Y.toArray⟩,.string ⟨X.toArray⟩,.int .i64 pc,.slice pa s.length J] (.node Z Y X pc s) rfl (al (cs:=[.int .i64 Z,.string ⟨Y.toArray⟩,.string ⟨X.toArray⟩,.int .i64 pc,.slice pa s.length J]) (Blk.new _ _ _) rfl (by decide)) ac (by simp[Value.oneCell']) (by omega) (by simp only[World.size_alloc];omega) (fun z hz=>List.mem_append_right _ hz) ?_;intro a' c' w8 be k8 b9;have a5:Kept (rb::obl (.slice I l.length F)) wr w8:=(k7.mono (fun _ _ h=>by rw[List.mem_singleton]at h;exact h▸List.mem_cons_self)).trans (k8.mono (fun _ _ h=>List.mem_cons_of_mem _ h));refine hK.out _ _ a5 (fun hH=>?_);clear hK K
    (try simp only[Act.put,List.setIfInBounds_toArray])
    refine ah [7] (i:=6) (v:=?tv4) rfl (by kernel_rfl) (by kernel_rfl) (by kernel_rfl) (by kernel_rfl) (fun _ _ _ h=>h) (Or.inl ⟨by rfl,?ty4⟩) hH ?tr4
    case ty4=>intro w' L;(try dsimp only at L);go_simp;first|done|with_reducible rfl
    simp only[Act.put]
    have b7:G∉rb::obl (.slice I l.length F):=by
     intro o
     rcases List.mem_cons.1 o with o|o
     ·omega
     ·have:=D _ o;omega
    have b8:w.heap.size∉rb::obl (.slice I l.length F):=by
     intro o
     rcases List.mem_cons.1 o with o|o
     ·omega
     ·have:=D _ o;omega
    have aa:=ab.out.kept a5 b7;have bo:=cx.out.kept a5 b8;have x4:w8.cell? ⟨G,4,none⟩=some (.slice I l.length F):=aa.cell 4;have x5:=aa.frozen 4;have c6:=hid aa;have ca:=hid bo;have c4:=hid be;have K8:=hid a5;have bs:=hid b9;have H6:=hid h6;have bp:=hid k8;have cu:=hid (World.size_alloc T (.cells #[.int .i64 Z,.string ⟨Y.toArray⟩,.string ⟨X.toArray⟩,.int .i64 pc,.slice pa s.length J] 46));clear aa bo be a5 b9 h6 k8 bk ac N k7 k6 k6' s0 b8 b7;refine ai (rs:=[7]) (by kernel_rfl) (by simp) ?_;refine ae.last rfl (by kernel_rfl) (fun K hK=>?_);go_simp;refine hK.out _ _ ?_;clear hK K
    (try simp only[Act.put,List.setIfInBounds_toArray,List.set_cons_zero,List.set_cons_succ])
    refine ak (by kernel_rfl) ?_ _;obtain⟨w9,a7⟩:∃x,w8.setCell ⟨G,4,none⟩ (.slice a' (l.length+1) c')=x:=⟨_,rfl⟩;rw[a7];have M:Kept [G] w8 w9:=a7▸(Kept.refl _ _).setCell (Or.inl (by simp)) _;have bl:Blk w9 G 46 #[.int .i64 3,.string ⟨#[]⟩,.string ⟨#[]⟩,.int .i64 n,.slice a' (l.length+1) c']:=a7▸c6.out.set_ 4 _;have bn:=ca.out.kept M (by simp;omega);have h9:Ps B W0 rb ts a c z w9 j:=((H6.out.step ((Kept.refl [] T).alloc _)).far bp.out (fun y hy=>by have:=(D y hy).1;omega)).far M (fun y hy=>by rw[List.mem_singleton]at hy;omega)
    have ag:∀y∈obl (.slice a' (l.length+1) c'),G+1<=y:=fun y hy=>by
     rcases bs.out y hy with h|h
     ·exact(D y h).1
     ·have:=cu.out;omega
    have bd:=c4.out.step (X':=List.range (G+1)++obl (.slice a' (l.length+1) c')) M (fun y hy o=>by rw[List.mem_singleton]at o;have:=ag y hy;omega) (fun y hy _=>by rw[List.mem_singleton]at hy;exact List.mem_append_left _ (List.mem_append_left _ (List.mem_range.2 (by omega)))) (fun y hy=>by
     rcases List.mem_append.1 hy with h|h
     ·exact Or.inl (List.mem_append_left _ (List.mem_append_left _ h))
     ·exact Or.inl (List.mem_append_right _ h))
    have bb:Kept [rb] w w9:=(bx.out.then_ K8.out (fun y hy o=>by
     rcases List.mem_cons.1 o with h|h
     ·exact h▸List.mem_singleton.2 rfl
     ·have:=(D y h).1;omega)).fresh M (fun y hy=>by rw[List.mem_singleton]at hy;omega)
    have cy:G+1<=w9.heap.size:=by have:=K8.out.size;have:=M.size;omega
    have a8:=hid (aQ h9 [44]);have b5:=hid bl;have c9:=hid bn;have c3:=hid bd;have bv:=hid bb;have c0:=hid ag;have d9:=hid h9.le;clear a7 M bl bn h9 ag bd bb D c6 ca c4 K8 bs H6 bp x4 x5 hH
    cases hsw:aI ts [44] j
    ·rw[hsw]at a8;have t:=Q.out;rw[hsw,if_neg (by simp)]at t;have a6:=hid t;clear t;go_wp2_with (go_at_call 115;refine a8.out.mono ?_;rintro e b6 ⟨rfl,q,ao⟩)
     go_roundw
     case rel =>
      refine⟨false,j,f,l++[.node Z Y X pc s],.slice a' (l.length+1) c',rfl,by omega,ao,bv.out.trans q,b5.out.kept q (by simp;omega),c9.out.kept q (by simp;omega),?_,?_,by have:=q.size;omega,?_⟩
      ·exact c3.out.step q (fun y hy o=>by rw[List.mem_singleton]at o;have:=c0.out y hy;omega) (fun y hy _=>by rw[List.mem_singleton]at hy;exact List.mem_append_left _ (List.mem_range.2 (by omega))) (fun y hy=>Or.inl hy)
      ·rw[List.length_append];simp;omega
      ·simp only[Bool.false_eq_true,if_false];exact a6.out.symm
     case measure =>
      rw[show wr.cell? ⟨G,4,none⟩=some (.slice I l.length F)from ab.out.cell 4];simp only[cH,cI,if_true,Bool.false_eq_true,if_false];omega
    ·rw[hsw]at a8;have t:=Q.out;rw[hsw,if_pos rfl]at t;have a6:=hid t;clear t;go_wp2_with (go_at_call 115;refine a8.out.mono ?_;rintro e b6 ⟨rfl,q,ao⟩)
     go_roundw
     case rel =>
      refine⟨true,j+1,f,l++[.node Z Y X pc s],.slice a' (l.length+1) c',rfl,by omega,ao,bv.out.trans q,b5.out.kept q (by simp;omega),c9.out.kept q (by simp;omega),?_,?_,by have:=q.size;omega,?_⟩
      ·exact c3.out.step q (fun y hy o=>by rw[List.mem_singleton]at o;have:=c0.out y hy;omega) (fun y hy _=>by rw[List.mem_singleton]at hy;exact List.mem_append_left _ (List.mem_range.2 (by omega))) (fun y hy=>Or.inl hy)
      ·rw[List.length_append];simp;omega
      ·simp only[if_true];exact⟨by omega,a6.out⟩
     case measure =>
      rw[show wr.cell? ⟨G,4,none⟩=some (.slice I l.length F)from ab.out.cell 4,show b6.cell? ⟨G,4,none⟩=some (.slice a' (l.length+1) c')from(b5.out.kept q (by simp;omega)).cell 4];simp only[cH,cI,Bool.false_eq_true,if_false];omega
end Go.Proofs.YtpcmamoomaddoaaGreatDoor
