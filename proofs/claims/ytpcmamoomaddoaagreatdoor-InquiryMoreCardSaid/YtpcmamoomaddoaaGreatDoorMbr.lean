import Derived.Test.YtpcmamoomaddoaaGreatDoorLea
set_option maxRecDepth 100000
set_option maxHeartbeats 32000000
namespace Go.Proofs.YtpcmamoomaddoaaGreatDoor
open Go.RowKit
open Go.Proofs.Tryz
open Lib(hid)
theorem kg{w2:World}{tmps:Array Value}{v0 v1 v2 v3 v4 X:Value}{b:Nat}{R:Ending->World->Prop}(hb:Blk w2 b 46 #[v0,v1,v2,v3,v4])(h2:tmps[6]?.getD undef=.pointer (some ⟨b,0,none⟩))
  (hX:.agg #[v0,v1,v2,v3,v4]=X) (hR:R (.returned X) w2) :
  bodyPost prog Tryz.f198 R Exit.ret { tmps:=tmps,defers:=[] } w2:=by
 subst hX;have c0:w2.cell? ⟨b,0,none⟩=some v0:=hb.cell 0;have c1:w2.cell? ⟨b,1,none⟩=some v1:=hb.cell 1;have c2:w2.cell? ⟨b,2,none⟩=some v2:=hb.cell 2;have c3:w2.cell? ⟨b,3,none⟩=some v3:=hb.cell 3;have c4:w2.cell? ⟨b,4,none⟩=some v4:=hb.cell 4;refine bodyPost_ret (v:=.agg #[v0,v1,v2,v3,v4]) ?_ rfl hR;simp only[results,results198]
 simp[go_sem,h2,c0,c1,c2,c3,c4]
theorem qp{B:Nat}{W0:World}{rb:Nat}{ts:List Tok}{a:Option Addr}{c:Nat}{z:Int}{w:World}{n0:Nat}(sm:Sm)(hsm:SmI sm)(pos:Nat)(hpos:pos<=ts.length)(h:Ps B W0 rb ts a c z w n0) :
  Calls prog 198 #[.pointer (some ⟨rb,0,none⟩),.agg #[.string ⟨sm.name.toArray⟩,.int .i64 sm.off],.int .i64 (pos:Int)] w (PdE B W0 rb ts a c z w (dJ ts sm n0)):=by
 obtain⟨W,hW⟩:∃W,((w.alloc (.cells #[.string ⟨sm.name.toArray⟩,.int .i64 sm.off] 252)).alloc (.cells #[.int .i64 0,.string ⟨#[]⟩,.string ⟨#[]⟩,.int .i64 0,.slice none 0 0] 46)).alloc (.cells #[.int .i64 2,.string ⟨#[]⟩,.string ⟨#[]⟩,.int .i64 0,.slice none 0 0] 46)=W:=⟨_,rfl⟩;have b8:Kept [] w W:=hW▸(((Kept.refl _ _).alloc _).alloc _).alloc _;have d5:Blk W w.heap.size 252 #[.string ⟨sm.name.toArray⟩,.int .i64 sm.off]:=hW▸((Blk.new _ _ _).alloc _).alloc _;have d7:Blk W (w.heap.size+1) 46 #[.int .i64 0,.string ⟨#[]⟩,.string ⟨#[]⟩,.int .i64 0,.slice none 0 0]:=hW▸(Blk.new1 _ _ _ _).alloc _;have d6:Blk W (w.heap.size+1+1) 46 #[.int .i64 2,.string ⟨#[]⟩,.string ⟨#[]⟩,.int .i64 0,.slice none 0 0]:=hW▸Blk.new2 _ _ _ _ _;have hw:=h.step b8;have gs:rb < w.heap.size:=h.blk.lt;have gm:=h.small;obtain⟨R,s⟩:∃R,dJ ts sm n0=R:=⟨_,rfl⟩;rw[s]
 unfold dJ at s
 have H1:=hid (bU hw [123]);have a9:=hid d5;have aa:=hid d7;have c7:=hid d6;have HK:Hid (Kept [rb] w W):=hid (b8.mono (by simp));have HW:=hid hW;have HR:=hid s;clear hW b8 d5 d7 d6 h hw s
 go_enter func198,ntmps198
 go_upto_region 2 with(fail);have hW':=HW.out;rw[hW'];clear hW'
 cases e1:bz ts [123] n0 with
 |error k =>
  have s:=HR.out;rw[e1]at H1 s;simp only[bnd]at s;subst s;go_wp2_with (go_at_call 69;refine H1.out.mono ?_;unfold cf;rintro e w1 ⟨⟨p,rfl⟩,k1⟩);exact⟨rfl,⟨p,rfl⟩,HK.out.trans k1⟩
 |ok y1 =>
 obtain⟨u1,j4⟩:=y1;have s:=HR.out;rw[e1]at H1 s;simp only[bnd]at s;obtain⟨R1,bl⟩:∃R1,sepP (aI ts [44]) (fx ts sm) (ts.length+1) j4 []=R1:=⟨_,rfl⟩;rw[bl]at s;have a6:=hid s;have br:=hid bl;clear s bl e1;obtain⟨f0,fz⟩:∃f0,ts.length+1=f0:=⟨_,rfl⟩;rw[fz]at br;obtain⟨i0,hi,f8,f7,f6⟩:=info_parts eK;obtain⟨G,hG⟩:∃G,w.heap.size+1+1=G:=⟨_,rfl⟩;rw[hG]at c7;rw[hG];go_upto_region 3 with(go_at_call 69;refine H1.out.mono ?_;unfold cf;rintro e w4 ⟨rfl,k4,h4⟩);have c5:=hid (HK.out.trans k4);have BG:=hid (c7.out.kept k4 (by simp;omega));have BA:=hid (aa.out.kept k4 (by simp;omega));have BS:=hid (a9.out.kept k4 (by simp;omega));have P4:=hid h4;clear k4 h4 H1 HK c7 aa a9 HW HR;go_wp2_with fail
 go_loopw [8] (fun v wr=>∃(b:Bool) (i f:Nat) (l:List Pd) (kv:Value),v=.bool b/\j4<=i/\Ps B W0 rb ts a c z wr i/\Kept [rb] w wr/\Blk wr G 46 #[.int .i64 2,.string ⟨#[]⟩,.string ⟨#[]⟩,.int .i64 0,kv] /\
  Blk wr (w.heap.size+1) 46 #[.int .i64 0,.string ⟨#[]⟩,.string ⟨#[]⟩,.int .i64 0,.slice none 0 0]/\Blk wr w.heap.size 252 #[.string ⟨sm.name.toArray⟩,.int .i64 sm.off] /\
  Grow PdR 5 46 (G+1) (List.range (G+1)++obl kv) wr kv l/\l.length+f<=f0/\G+1<=wr.heap.size/\(if b then ts.length < i+f/\sepP (aI ts [44]) (fx ts sm) f i l=R1 else R1=.ok (l,i)))
  (fun v wr=>if cH v then 0 else f0+1 - cI (wr.cell? ⟨G,4,none⟩))
 case atStart=>exact⟨true,j4,f0,[],_,rfl,Nat.le_refl _,P4.out,c5.out,BG.out,BA.out,BS.out,Grow.nil_ _ _ _ _ _ _,by simp,by have:=BG.out.lt;omega,by simp only[if_true];exact⟨by omega,br.out⟩⟩
 case round =>
  obtain⟨b,i,f,l,kv,rfl,gt,V,hk,an,ao,be,hg,h0,gr,M⟩:=hrel;obtain⟨T,Q,rfl⟩:=hg.form (by decide)
  cases b
  ·simp only[Bool.false_eq_true,if_false]at M;subst M;have D:=a6.out
   simp only at D
   have bp:=hid D;have ba:=hg.ge;have e6:=hid ba
   have cv:l.length<=9223372036854775807:=by omega
   have U:=hg.done (X':=List.range (G+1)) (fun z hz=>Or.inl (List.mem_append_left _ hz)) (fun z hz J=>by have:=(ba z hz).1;have:=List.mem_range.1 J;omega) cv;have H5:=hid (bU V [125]);have bv:=hid hk;have er:=hid an;have es:=hid ao;have da:=hid U;have eh:=hid hg;clear V hk hg ao an be ba D U P4 c5 BG BA BS br a6
   cases e5:bz ts [125] i with
   |error k =>
    have s:=bp.out;rw[e5]at H5 s
    simp only at s
    subst s;go_wp2_with (go_at_call 69;refine H5.out.mono ?_;unfold cf;rintro e w1 ⟨⟨p,rfl⟩,k1⟩);exact⟨rfl,⟨p,rfl⟩,bv.out.trans k1⟩
   |ok y5 =>
   obtain⟨u5,j5⟩:=y5;have s:=bp.out;rw[e5]at H5 s
   simp only at s
   have dq:=hid s;clear s;go_upto_region 15 with(go_at_call 69;refine H5.out.mono ?_;unfold cf;rintro e P ⟨rfl,k5,h5⟩);have b4:=hid (da.out.step (X':=List.range (G+1)) k5 (fun y hy _=>by rw[List.mem_singleton]at hy;exact List.mem_range.2 (by omega)) (fun y hy=>Or.inl hy));have a3:=hid (bv.out.trans k5);have a7:=hid h5;have K5:=hid k5;have F:=hid (er.out.kept k5 (by simp;omega));have f5:=hid (es.out.kept k5 (by simp;omega));have q0:P.cell? ⟨G,0,none⟩=some (.int .i64 2):=F.out.cell 0;have q1:P.cell? ⟨G,1,none⟩=some (.string ⟨#[]⟩):=F.out.cell 1;have q2:P.cell? ⟨G,2,none⟩=some (.string ⟨#[]⟩):=F.out.cell 2;have q3:P.cell? ⟨G,3,none⟩=some (.int .i64 0):=F.out.cell 3;have q4:P.cell? ⟨G,4,none⟩=some (.slice T l.length Q):=F.out.cell 4;clear k5 h5 da bv es er H5 bp
   by_cases h1:l.length=1
   ·obtain⟨q,rfl⟩:∃q,l=[q]:=by
     match l,h1 with
     | [q],_=>exact⟨q,rfl⟩
    obtain⟨vs,b2,bc⟩:=eh.out
    obtain⟨c1,rfl⟩:∃c1,vs=[c1]:=by
     have:=bc.get.1
     match vs,this with
     | [c1],_=>exact⟨c1,rfl⟩
    have b0:aw (List.range (G+1)) (fun w=>PdR w c1 q) wr:=(bc.less (fun z hz=>Or.inl (List.mem_append_left _ hz))).imp fun w' h=>by
     obtain⟨cc,hc,hr⟩:=h.2.2 0 q rfl;simp at hc;exact hc▸hr
    have U:=b0.step (X':=List.range (G+1)) K5.out (fun y hy _=>by rw[List.mem_singleton]at hy;exact List.mem_range.2 (by omega)) (fun y hy=>Or.inl hy);have d1:=U.get;have b1:=Row.of_own (sC b2 K5.out (fun z hz J=>by rw[List.mem_singleton]at J;have:=e6.out z hz;omega)) cv;obtain⟨b,off,rfl,C⟩:=b1.at_ (by simp);obtain⟨qk,ql,qr,qc,I⟩:=q;obtain⟨qa,X,rfl,_⟩:=d1.rows;have u0:P.cell? ⟨b,off,none⟩=some (.int .i64 qk):=C 0 _ rfl;have u1:P.cell? ⟨b,off+1,none⟩=some (.string ⟨ql.toArray⟩):=C 1 _ rfl;have u2:P.cell? ⟨b,off+2,none⟩=some (.string ⟨qr.toArray⟩):=C 2 _ rfl;have u3:P.cell? ⟨b,off+3,none⟩=some (.int .i64 qc):=C 3 _ rfl;have u4:P.cell? ⟨b,off+4,none⟩=some (.slice qa I.length X):=C 4 _ rfl;have g0:=F.out.frozen 0;have g1:=F.out.frozen 1;have g2:=F.out.frozen 2;have g3:=F.out.frozen 3;have g4:=F.out.frozen 4;have d9:=hid U;clear b0 U d1 b1 C b2 bc h1 eh K5;go_upto_region 17 with(fail);obtain⟨wB,ac⟩:∃x,((((P.setCell ⟨G,0,none⟩ (.int .i64 qk)).setCell ⟨G,1,none⟩ (.string ⟨ql.toArray⟩)).setCell ⟨G,2,none⟩ (.string ⟨qr.toArray⟩)).setCell ⟨G,3,none⟩ (.int .i64 qc)).setCell ⟨G,4,none⟩ (.slice qa I.length X)=x:=⟨_,rfl⟩;rw[ac];have kB:Kept [G] P wB:=ac▸(((((Kept.refl [G] P).setCell (p:=⟨G,0,none⟩) (Or.inl (by simp)) (.int .i64 qk)).setCell (p:=⟨G,1,none⟩) (Or.inl (by simp)) (.string ⟨ql.toArray⟩)).setCell (p:=⟨G,2,none⟩) (Or.inl (by simp)) (.string ⟨qr.toArray⟩)).setCell (p:=⟨G,3,none⟩) (Or.inl (by simp)) (.int .i64 qc)).setCell (p:=⟨G,4,none⟩) (Or.inl (by simp)) (.slice qa I.length X)
    have bB:Blk wB G 46 #[.int .i64 qk,.string ⟨ql.toArray⟩,.string ⟨qr.toArray⟩,.int .i64 qc,.slice qa I.length X]:=ac▸((((F.out.set_ 0 _).set_ 1 _).set_ 2 _).set_ 3 _).set_ 4 _;have q0:wB.cell? ⟨G,0,none⟩=some (.int .i64 qk):=bB.cell 0;have q1:wB.cell? ⟨G,1,none⟩=some (.string ⟨ql.toArray⟩):=bB.cell 1;have q2:wB.cell? ⟨G,2,none⟩=some (.string ⟨qr.toArray⟩):=bB.cell 2;have q3:wB.cell? ⟨G,3,none⟩=some (.int .i64 qc):=bB.cell 3;have q4:wB.cell? ⟨G,4,none⟩=some (.slice qa I.length X):=bB.cell 4;have gf:=hid (f5.out.kept kB (by simp;omega));have e0:=hid (a7.out.far kB (fun y hy=>by rw[List.mem_singleton]at hy;omega));have e8:=hid (a3.out.fresh kB (fun y hy=>by rw[List.mem_singleton]at hy;omega));have b3:=hid (d9.out.step (X':=List.range (G+1)) kB (fun y hy _=>by rw[List.mem_singleton]at hy;exact List.mem_range.2 (by omega)) (fun y hy=>Or.inl hy));have N:=hid (bW pos hpos _ _ _ wB (Nat.le_refl _) e0.out b3.out.get);have s:=dq.out;have a4:one 2 [Pd.node qk ql qr qc I]=.node qk ql qr qc I:=rfl;rw[a4]at s
    unfold chk at s
    clear ac kB bB u0 u1 u2 u3 u4 g0 g1 g2 g3 g4
    cases hrg:aW (.node qk ql qr qc I)
    ·rw[hrg]at s N;simp only[Bool.false_eq_true,if_false]at s;subst s;go_wp2_with (go_at_call 235;refine N.out.mono ?_;unfold RngE;rintro e O ⟨⟨p,rfl⟩,L⟩);exact⟨rfl,⟨p,rfl⟩,e8.out.trans (L.mono (by simp))⟩
    ·rw[hrg]at s N;simp only[if_true]at s;subst s;go_wp2_with (go_at_call 235;refine N.out.mono ?_;unfold RngE;rintro e O ⟨rfl,L⟩;have d:=gf.out.kept L (by simp);have c0:O.cell? ⟨w.heap.size+1,0,none⟩=some (.int .i64 0):=d.cell 0;have c1:O.cell? ⟨w.heap.size+1,1,none⟩=some (.string ⟨#[]⟩):=d.cell 1;have c2:O.cell? ⟨w.heap.size+1,2,none⟩=some (.string ⟨#[]⟩):=d.cell 2;have c3:O.cell? ⟨w.heap.size+1,3,none⟩=some (.int .i64 0):=d.cell 3;have c4:O.cell? ⟨w.heap.size+1,4,none⟩=some (.slice none 0 0):=d.cell 4;have f0:=d.frozen 0;have f1:=d.frozen 1;have f2:=d.frozen 2;have f3:=d.frozen 3;have f4:=d.frozen 4;have cb:=hid d;have K6:=hid L;clear d L);refine kg (((((cb.out.set_ 0 _).set_ 1 _).set_ 2 _).set_ 3 _).set_ 4 _) rfl rfl ?_;have kF:=(((((Kept.refl [w.heap.size+1] O).setCell (p:=⟨w.heap.size+1,0,none⟩) (Or.inl (by simp)) (.int .i64 qk)).setCell (p:=⟨w.heap.size+1,1,none⟩) (Or.inl (by simp)) (.string ⟨ql.toArray⟩)).setCell (p:=⟨w.heap.size+1,2,none⟩) (Or.inl (by simp)) (.string ⟨qr.toArray⟩)).setCell (p:=⟨w.heap.size+1,3,none⟩) (Or.inl (by simp)) (.int .i64 qc)).setCell (p:=⟨w.heap.size+1,4,none⟩) (Or.inl (by simp)) (.slice qa I.length X);refine⟨_,rfl,(e8.out.trans (K6.out.mono (by simp))).fresh kF (fun y hy=>by rw[List.mem_singleton]at hy;omega),(e0.out.step K6.out).far kF (fun y hy=>by rw[List.mem_singleton]at hy;omega),?_⟩;exact⟨[.int .i64 qk,.string ⟨ql.toArray⟩,.string ⟨qr.toArray⟩,.int .i64 qc,.slice qa I.length X],rfl,(b3.out.step (X':=List.range (G+1)) K6.out (fun y hy _=>by simp at hy) (fun y hy=>Or.inl hy)).step kF (fun y hy _=>by rw[List.mem_singleton]at hy;exact List.mem_range.2 (by omega)) (fun y hy=>Or.inl (List.mem_range.2 (by have:=List.mem_range.1 hy;omega)))⟩
   ·have hb:((l.length:Int)==1)=false:=by simp;omega
    have a4:one 2 l=.node 2 [] [] 0 l:=by
     match l,h1 with
     | [],_=>rfl
     | [_],h=>exact absurd rfl h
     |_::_::_,_=>rfl
    have f9:PdR P [.int .i64 2,.string ⟨#[]⟩,.string ⟨#[]⟩,.int .i64 0,.slice T l.length Q] (.node 2 [] [] 0 l):=PdR.of_rows (l:=[]) (r:=[]) b4.out.get;have N:=hid (bW pos hpos _ _ _ P (Nat.le_refl _) a7.out f9);have s:=dq.out;rw[a4]at s
    unfold chk at s
    cases hrg:aW (.node 2 [] [] 0 l)
    ·rw[hrg]at s N;simp only[Bool.false_eq_true,if_false]at s;subst s;go_wp2_with (go_at_call 235;refine N.out.mono ?_;unfold RngE;rintro e O ⟨⟨p,rfl⟩,L⟩);exact⟨rfl,⟨p,rfl⟩,a3.out.trans (L.mono (by simp))⟩
    ·rw[hrg]at s N;simp only[if_true]at s;subst s;go_wp2_with (go_at_call 235;refine N.out.mono ?_;unfold RngE;rintro e O ⟨rfl,L⟩;have d:=f5.out.kept L (by simp);have c0:O.cell? ⟨w.heap.size+1,0,none⟩=some (.int .i64 0):=d.cell 0;have c1:O.cell? ⟨w.heap.size+1,1,none⟩=some (.string ⟨#[]⟩):=d.cell 1;have c2:O.cell? ⟨w.heap.size+1,2,none⟩=some (.string ⟨#[]⟩):=d.cell 2;have c3:O.cell? ⟨w.heap.size+1,3,none⟩=some (.int .i64 0):=d.cell 3;have c4:O.cell? ⟨w.heap.size+1,4,none⟩=some (.slice none 0 0):=d.cell 4;have f0:=d.frozen 0;have f1:=d.frozen 1;have f2:=d.frozen 2;have f3:=d.frozen 3;have f4:=d.frozen 4;have cb:=hid d;have K6:=hid L;clear d L);refine kg (((((cb.out.set_ 0 _).set_ 1 _).set_ 2 _).set_ 3 _).set_ 4 _) rfl rfl ?_;have kF:=(((((Kept.refl [w.heap.size+1] O).setCell (p:=⟨w.heap.size+1,0,none⟩) (Or.inl (by simp)) (.int .i64 2)).setCell (p:=⟨w.heap.size+1,1,none⟩) (Or.inl (by simp)) (.string ⟨#[]⟩)).setCell (p:=⟨w.heap.size+1,2,none⟩) (Or.inl (by simp)) (.string ⟨#[]⟩)).setCell (p:=⟨w.heap.size+1,3,none⟩) (Or.inl (by simp)) (.int .i64 0)).setCell (p:=⟨w.heap.size+1,4,none⟩) (Or.inl (by simp)) (.slice T l.length Q);refine⟨_,rfl,(a3.out.trans (K6.out.mono (by simp))).fresh kF (fun y hy=>by rw[List.mem_singleton]at hy;omega),(a7.out.step K6.out).far kF (fun y hy=>by rw[List.mem_singleton]at hy;omega),?_⟩;exact⟨[.int .i64 2,.string ⟨#[]⟩,.string ⟨#[]⟩,.int .i64 0,.slice T l.length Q],rfl,((b4.out.step (X':=List.range (G+1)) K6.out (fun y hy _=>by simp at hy) (fun y hy=>Or.inl hy)).imp fun w' hr=>PdR.of_rows (l:=[]) (r:=[]) hr).step kF (fun y hy _=>by rw[List.mem_singleton]at hy;exact List.mem_range.2 (by omega)) (fun y hy=>Or.inl (List.mem_range.2 (by have:=List.mem_range.1 hy;omega)))⟩
  ·simp only[if_true]at M;obtain⟨h2,a1⟩:=M;obtain⟨f,rfl⟩:∃g,f=g+1:=⟨f - 1,by have:=V.le;omega⟩;rw[sepP]at a1
   unfold fx at a1
   have fr:=V.le;have y1:wr.cell? ⟨rb,1,none⟩=some (.int .i64 i):=V.blk.cell 1;have b6:=hid a1;have bs:=hid V;have c6:=hid hk;have c8:=hid an;have aa:=hid ao;have a9:=hid be;have HG:=hid hg;have H2:=hid (dV (V.step (Kept.refl _ _)));clear a1 V hk an ao be hg c5 BG BA BS P4;have cx:∀y∈obl (.slice T l.length Q),G+1<=y/\y < wr.heap.size:=HG.out.ge;have g9:=hid cx;clear cx;go_upto_region 7 with(fail)
   cases e2:aO ts i with
   |error k =>
    have o:=b6.out;rw[e2]at H2 o;simp only[bnd]at o;subst o;have D:=a6.out
    simp only at D
    subst D;go_wp2_with (go_at_call 233;refine H2.out.mono ?_;unfold NumE;rintro e P ⟨⟨p,rfl⟩,k5⟩);exact⟨rfl,⟨p,rfl⟩,c6.out.trans k5⟩
   |ok y2 =>
   obtain⟨m,j⟩:=y2;have fs:=eZ e2;have o:=b6.out;rw[e2]at H2 o;simp only[bnd]at o;have bq:=hid o;have J:=dh bs.out.ok e2;clear o;go_upto_region 9 with(go_at_call 233;refine H2.out.mono ?_;unfold NumE;rintro e P ⟨rfl,k5,h5⟩);have a3:=hid (c6.out.trans k5);have a7:=hid h5;have du:=hid k5;have H6:=hid (aQ h5 [46,46]);obtain⟨sb,b7⟩:∃sb,aI ts [46,46] j=sb:=⟨_,rfl⟩;rw[b7]at H6;have bo:=hid b7;clear b7 k5 h5
   go_cut [25,26] (fun _ v wx=>v=.bool sb/\Kept [rb] P wx/\Ps B W0 rb ts a c z wx (if sb then j+1 else j))
   case first =>
    go_wp2_with (go_at_call 115;refine H6.out.mono ?_;unfold PsB;rintro e O ⟨rfl,L,h6⟩)
    go_meet
    exact⟨rfl,L,h6⟩
   case rest =>
   obtain⟨rfl,L,h6⟩:=hcut;have bx:=hid (a3.out.trans L);have ds:=hid (du.out.trans L);have H7:=hid (dV h6);have e3:=hid h6;clear L h6
   apply_assumption
   go_cut [11,27,28] (fun vn _ _ wx=>∃(n:Int) (j2:Nat),vn=.int .i64 n/\Kept [rb] wc wx/\Ps B W0 rb ts a c z wx j2/\i<=j2/\0<=n/\n<=1099511627776/\(if sb then aO ts (j+1)else .ok (m,j))=.ok (n,j2))
   case first =>
    cases sb
    ·go_wp2_with fail
     go_meet
     case rel=>exact⟨m,j,rfl,Kept.refl _ _,e3.out,fs,J.1,J.2,by simp⟩
    ·cases e7:aO ts (j+1)with
     |error k =>
      simp only[if_true]at H7;have o:=bq.out;rw[bo.out,if_pos rfl,e7]at o;rw[e7]at H7
      simp only at o
      subst o;have D:=a6.out
      simp only at D
      subst D;go_wp2_with (go_at_call 233;refine H7.out.mono ?_;unfold NumE;rintro e w7 ⟨⟨p,rfl⟩,k7⟩);exact⟨rfl,⟨p,rfl⟩,bx.out.trans k7⟩
     |ok y =>
      obtain⟨n,j2⟩:=y;simp only[if_true]at H7;rw[e7]at H7;have hn:=dh bs.out.ok e7;have hj:=eZ e7;go_wp2_with (go_at_call 233;refine H7.out.mono ?_;unfold NumE;rintro e w7 ⟨rfl,k7,h7⟩)
      go_meet
      case rel=>exact⟨n,j2,rfl,k7,h7,by omega,hn.1,hn.2,by rw[if_pos True.intro];exact e7⟩
   case rest =>
   obtain⟨n,j2,rfl,k7,h7,gn,gx,fn,au⟩:=hcut;have o:=bq.out;rw[bo.out,au]at o
   simp only at o
   have HF:=hid (dD h7 3 i fr (i:Int) rfl);have aq:=hid (bx.out.trans k7);have a0:=hid (ds.out.trans k7);have bt:=hid h7;clear k7 h7 au
   by_cases hlt:n < m
   ·rw[if_pos hlt]at o
    simp only at o
    subst o;have D:=a6.out
    simp only at D
    subst D;go_wp2_with (go_at_call 72;refine HF.out.mono ?_;rintro e w8 ⟨⟨p,rfl⟩,k8⟩);exact⟨rfl,⟨p,rfl⟩,aq.out.trans (k8.mono (by simp))⟩
   ·rw[if_neg hlt]at o;have dn:=hid o;clear o;obtain⟨E,cl⟩:∃x,wc=x:=⟨_,rfl⟩;rw[cl]at a0 aq bt HF ⊢;have Z:=g9.out;have gp:=a0.out.size;have gc:=hid c8.out;have ca:=hid (c8.out.kept a0.out (by simp;omega));have ey:=hid (aa.out.kept a0.out (by simp;omega));have ap:=hid (a9.out.kept a0.out (by simp;omega));have en:=hid (HG.out.step (X':=List.range (G+1)++obl (.slice T l.length Q)) a0.out (fun z hz J=>by rw[List.mem_singleton]at J;have:=(Z z hz).1;omega) (fun z hz _=>by rw[List.mem_singleton]at hz;exact List.mem_append_left _ (List.mem_range.2 (by omega))) (fun z hz=>Or.inl hz))
    have nb:∀y,y<=G->y∉obl (.slice T l.length Q):=fun y hy J=>by have:=(Z y J).1;omega
    have s0:∀w',Kept (obl (.slice T l.length Q)) E w'->w'.cell? ⟨G,4,none⟩=some (.slice T l.length Q):=fun w' k=>(ca.out.kept k (nb _ (Nat.le_refl _))).cell 4;have s1:∀w',Kept (obl (.slice T l.length Q)) E w'->w'.cell? ⟨w.heap.size,0,none⟩=some (.string ⟨sm.name.toArray⟩):=fun w' k=>(ap.out.kept k (nb _ (by omega))).cell 0;have s2:∀w',Kept (obl (.slice T l.length Q)) E w'->w'.cell? ⟨w.heap.size,1,none⟩=some (.int .i64 sm.off):=fun w' k=>(ap.out.kept k (nb _ (by omega))).cell 1;have cu:SmI ⟨[],m⟩:=⟨by show(-1099511627776:Int)<=m;omega,J.2⟩;have cq:SmI ⟨[],n⟩:=⟨by show(-1099511627776:Int)<=n;omega,fn⟩
    have g8:Hid (∀w',Calls prog 234 #[.agg #[.string ⟨#[]⟩,.int .i64 m],.agg #[.string ⟨sm.name.toArray⟩,.int .i64 sm.off],.int .i64 0] w' fun e w2=>e=.returned (.agg #[.int .i64 0,.string ⟨#[]⟩,.string ⟨sm.name.toArray⟩,.int .i64 (sm.off - m),.slice none 0 0])/\Kept [] w' w2):=hid fun w'=>by
     have:=dA ⟨[],m⟩ sm 0 w' cu hsm ⟨by decide,by decide⟩
     simpa using this
    have g6:Hid (∀w',Calls prog 234 #[.agg #[.string ⟨sm.name.toArray⟩,.int .i64 sm.off],.agg #[.string ⟨#[]⟩,.int .i64 n],.int .i64 0] w' fun e w2=>e=.returned (.agg #[.int .i64 0,.string ⟨sm.name.toArray⟩,.string ⟨#[]⟩,.int .i64 (n - sm.off),.slice none 0 0])/\Kept [] w' w2):=hid fun w'=>by
     have:=dA sm ⟨[],n⟩ 0 w' hsm cq ⟨by decide,by decide⟩
     simpa using this
    have cz:inPd sm m n=.node 1 [] [] 0 [.node 0 [] sm.name (sm.off - m) [],.node 0 sm.name [] (n - sm.off) []]:=by simp[inPd,aJ]
    have o:=dn.out;rw[cz]at o;have dm:=hid o;have gb:Hid (l.length+1<=4001):=hid (by have:=bs.out.small;omega);clear o cz cu cq dn HF a0 bx ds a3 du a7 e3 H6 H7 bq bo c8 aa a9 HG c6;go_upto_region 13 with(fail);refine ar [15] (fun w'=>Kept (obl (.slice T l.length Q)) E w') (by kernel_rfl) (Kept.refl _ _).drew (fun hH=>?_);refine ah [1,13,14,15] (i:=0) (v:=?tv0) rfl (by kernel_rfl) (by kernel_rfl) (by kernel_rfl) (by kernel_rfl) (fun _ _ _ h=>h) (Or.inl ⟨by rfl,?ty0⟩) hH ?tr0
    case ty0=>intro w' t;(try dsimp only at t);go_simp;first|done|with_reducible rfl
    simp only[Act.put,List.setIfInBounds_toArray,List.set_cons_zero,List.set_cons_succ];refine ah [13,14,15] (i:=1) (v:=?tv1) rfl (by kernel_rfl) (by kernel_rfl) (by kernel_rfl) (by kernel_rfl) (fun _ _ _ h=>h) (Or.inl ⟨by rfl,?ty1⟩) hH ?tr1
    case ty1=>intro w' t;(try dsimp only at t);go_simp;first|done|with_reducible rfl
    simp only[Act.put,List.setIfInBounds_toArray,List.set_cons_zero,List.set_cons_succ];refine ah [3,5,9,10,11,12,13,14,15] (i:=2) (v:=?tv2) rfl (by kernel_rfl) (by kernel_rfl) (by kernel_rfl) (by kernel_rfl) (fun _ _ _ h=>h) (Or.inl ⟨by rfl,?ty2⟩) hH ?tr2
    case ty2=>intro w' t;(try dsimp only at t);go_simp;first|done|with_reducible rfl
    simp only[Act.put,List.setIfInBounds_toArray,List.set_cons_zero,List.set_cons_succ];refine ah [5,9,10,11,12,13,14,15] (i:=3) (v:=?tv3) rfl (by kernel_rfl) (by kernel_rfl) (by kernel_rfl) (by kernel_rfl) (fun _ _ _ h=>h) (Or.inl ⟨by rfl,?ty3⟩) hH ?tr3
    case ty3=>intro w' t;(try dsimp only at t);go_simp;first|done|with_reducible rfl
    simp only[Act.put,List.setIfInBounds_toArray,List.set_cons_zero,List.set_cons_succ];refine ah [5,9,10,11,12,13,14,15] (i:=4) (v:=?tv4) rfl (by kernel_rfl) (by kernel_rfl) (by kernel_rfl) (by kernel_rfl) (fun _ _ _ h=>h) (Or.inl ⟨by rfl,?ty4⟩) hH ?tr4
    case ty4=>intro w' t;(try dsimp only at t);go_simp;first|done|with_reducible rfl
    simp only[Act.put,List.setIfInBounds_toArray,List.set_cons_zero,List.set_cons_succ];refine ah [9,10,11,12,13,14,15] (i:=6) (v:=?tv6) rfl (by kernel_rfl) (by kernel_rfl) (by kernel_rfl) (by kernel_rfl) (fun _ _ _ h=>h) (Or.inl ⟨by rfl,?ty6⟩) hH ?tr6
    case ty6=>intro w' t;(try dsimp only at t);go_simp;first|done|with_reducible rfl
    simp only[Act.put,List.setIfInBounds_toArray,List.set_cons_zero,List.set_cons_succ];refine ah [8,9,10,11,12,13,14,15] (i:=7) (v:=?tv7) rfl (by kernel_rfl) (by kernel_rfl) (by kernel_rfl) (by kernel_rfl) (fun _ _ _ h=>h) (Or.inl ⟨by rfl,?ty7⟩) hH ?tr7
    case ty7=>intro w' t;(try dsimp only at t);go_simp;first|done|with_reducible rfl
    simp only[Act.put,List.setIfInBounds_toArray,List.set_cons_zero,List.set_cons_succ];refine ah [9,10,11,12,13,14,15] (i:=8) (v:=?tv8) rfl (by kernel_rfl) (by kernel_rfl) (by kernel_rfl) (by kernel_rfl) (fun _ _ _ h=>h) (Or.inl ⟨by rfl,?ty8⟩) hH ?tr8
    case ty8=>intro w' t;(try dsimp only at t);go_simp;first|done|with_reducible rfl
    simp only[Act.put,List.setIfInBounds_toArray,List.set_cons_zero,List.set_cons_succ];refine ai (rs:=[5]) (by kernel_rfl) (by simp) ?_;refine ae.cons rfl (fun K hK=>?_) ae.nil;go_simp;refine(g8.out _).mono ?_;rintro e O ⟨rfl,L⟩;have K6:Kept [] E O:=(Kept.refl _ _).drew.trans L;refine hK.out _ _ (K6.mono (by simp)) (fun hH=>?_);clear hK K L
    (try simp only[Act.put,List.setIfInBounds_toArray,List.set_cons_zero,List.set_cons_succ])
    refine ai (rs:=[9]) (by kernel_rfl) (by simp) ?_;refine ae.cons rfl (fun K hK=>?_) ae.nil;go_simp;refine(g6.out _).mono ?_;rintro e w7 ⟨rfl,k7⟩;have K7:Kept [] E w7:=K6.trans k7;refine hK.out _ _ (K7.mono (by simp)) (fun hH=>?_);clear hK K k7 K6
    (try simp only[Act.put,List.setIfInBounds_toArray,List.set_cons_zero,List.set_cons_succ])
    refine ai (rs:=[10]) (by kernel_rfl) (by simp) ?_;refine ae.cons rfl (fun K hK=>?_) ae.nil;go_simp;refine hK.out _ _ (hH.alloc _) (fun hH=>?_);clear hK K
    (try simp only[Act.put,List.setIfInBounds_toArray,List.set_cons_zero,List.set_cons_succ])
    obtain⟨g7,bb⟩:∃g,w7.heap.size=g:=⟨_,rfl⟩;obtain⟨wk,ab⟩:∃x,w7.alloc (.cells #[.int .i64 0,.string ⟨#[]⟩,.string ⟨sm.name.toArray⟩,.int .i64 (sm.off - m),.slice none 0 0,.int .i64 0,.string ⟨sm.name.toArray⟩,.string ⟨#[]⟩,.int .i64 (n - sm.off),.slice none 0 0] 46)=x:=⟨_,rfl⟩;rw[ab]at hH ⊢;rw[bb];have Kk:Kept [] E wk:=ab▸K7.alloc _;have bk:Blk wk g7 46 #[.int .i64 0,.string ⟨#[]⟩,.string ⟨sm.name.toArray⟩,.int .i64 (sm.off - m),.slice none 0 0,.int .i64 0,.string ⟨sm.name.toArray⟩,.string ⟨#[]⟩,.int .i64 (n - sm.off),.slice none 0 0]:=bb▸ab▸Blk.new _ _ _;have fv:E.heap.size<=g7:=bb▸K7.size;clear ab K7;refine ah [12,13,14,15] (i:=11) (v:=?tv11) rfl (by kernel_rfl) (by kernel_rfl) (by kernel_rfl) (by kernel_rfl) (fun _ _ _ h=>h) (Or.inl ⟨by rfl,?ty11⟩) hH ?tr11
    case ty11=>intro w' t;(try dsimp only at t);go_simp;first|done|with_reducible rfl
    (try simp only[Act.put,List.setIfInBounds_toArray,List.set_cons_zero,List.set_cons_succ])
    refine ai (rs:=[12]) (by kernel_rfl) (by simp) ?_;refine ae.cons rfl (fun K hK=>?_) ae.nil;go_simp;refine hK.out _ _ (hH.alloc _) (fun hH=>?_);clear hK K
    (try simp only[Act.put,List.setIfInBounds_toArray,List.set_cons_zero,List.set_cons_succ])
    refine ai (rs:=[13]) (by kernel_rfl) (by simp) ?_;refine ae.cons rfl (fun K hK=>?_) ae.nil;have k7:Kept [] E (wk.alloc (.cells #[.int .i64 1,.string ⟨#[]⟩,.string ⟨#[]⟩,.int .i64 0,.slice (some ⟨g7,0,none⟩) 2 2] 46)):=Kk.alloc _
    have d0:Grow PdR 5 46 (G+1) (List.range (G+1)++obl (.slice T l.length Q)) (wk.alloc (.cells #[.int .i64 1,.string ⟨#[]⟩,.string ⟨#[]⟩,.int .i64 0,.slice (some ⟨g7,0,none⟩) 2 2] 46)) (.slice T l.length Q) l :=
     en.out.step k7 (fun z hz J=>by simp at J) (fun z hz _=>by simp at hz) (fun z hz=>Or.inl hz)
    have av:aw (List.range (G+1)++obl (.slice T l.length Q)) (fun w=>PdR w [.int .i64 1,.string ⟨#[]⟩,.string ⟨#[]⟩,.int .i64 0,.slice (some ⟨g7,0,none⟩) 2 2] (.node 1 [] [] 0 [.node 0 [] sm.name (sm.off - m) [],.node 0 sm.name [] (n - sm.off) []])) (wk.alloc (.cells #[.int .i64 1,.string ⟨#[]⟩,.string ⟨#[]⟩,.int .i64 0,.slice (some ⟨g7,0,none⟩) 2 2] 46)):=by
     obtain⟨cs,bd,U⟩:=PdN.pair (B:=E.heap.size) (c1:=[.int .i64 0,.string ⟨#[]⟩,.string ⟨sm.name.toArray⟩,.int .i64 (sm.off - m),.slice none 0 0]) (c2:=[.int .i64 0,.string ⟨sm.name.toArray⟩,.string ⟨#[]⟩,.int .i64 (n - sm.off),.slice none 0 0]) bk fv (eu _ _ [] _ _) (eu _ _ _ [] _) 1 0 [] []
     have e:cs=[.int .i64 1,.string ⟨#[]⟩,.string ⟨#[]⟩,.int .i64 0,.slice (some ⟨g7,0,none⟩) 2 2]:=by
      injection bd with bd;have:=congrArg Array.toList bd
      simpa using this.symm
     rw[<-e]
     exact(U.step ((Kept.refl [] wk).alloc _) (by simp) (fun z hz=>Or.inl hz)).less (fun z hz=>by
      rcases List.mem_append.1 hz with h|h
      ·exact Or.inl (List.mem_range.2 (by have:=List.mem_range.1 h;omega))
      ·exact Or.inl (List.mem_range.2 (by have:=(Z z h).2;omega)))
    refine bg rfl _ _ 44 rfl i0 _ 72 underlying44 hi f8 f7 f6 rfl (by decide) (by decide) rfl d0 _ [.int .i64 1,.string ⟨#[]⟩,.string ⟨#[]⟩,.int .i64 0,.slice (some ⟨g7,0,none⟩) 2 2] (.node 1 [] [] 0 [.node 0 [] sm.name (sm.off - m) [],.node 0 sm.name [] (n - sm.off) []]) rfl (al (cs:=[.int .i64 1,.string ⟨#[]⟩,.string ⟨#[]⟩,.int .i64 0,.slice (some ⟨g7,0,none⟩) 2 2]) (Blk.new _ _ _) rfl (by decide)) av (by simp[Value.oneCell']) (by have:=gb.out;omega) (by simp only[World.size_alloc];have:=Kk.size;omega) (fun z hz=>List.mem_append_right _ hz) ?_;intro a' c' w8 a5 k8 cp;have a2:Kept (obl (.slice T l.length Q)) E w8:=(k7.mono (by simp)).trans k8;refine hK.out _ _ a2 (fun hH=>?_);clear hK K
    (try simp only[Act.put,List.setIfInBounds_toArray])
    refine ah [15] (i:=14) (v:=?tv14) rfl (by kernel_rfl) (by kernel_rfl) (by kernel_rfl) (by kernel_rfl) (fun _ _ _ h=>h) (Or.inl ⟨by rfl,?ty14⟩) hH ?tr14
    case ty14=>intro w' t;(try dsimp only at t);go_simp;first|done|with_reducible rfl
    simp only[Act.put];have ag:=ca.out.kept a2 (nb _ (Nat.le_refl _));have d4:=ey.out.kept a2 (nb _ (by omega));have co:=ap.out.kept a2 (nb _ (by omega));have x4:w8.cell? ⟨G,4,none⟩=some (.slice T l.length Q):=ag.cell 4;have x5:=ag.frozen 4;have eq:=hid ag;have ex:=hid d4;have b5:=hid co;have el:=hid a5;have K8:=hid a2;have e4:=hid cp;have g5:=hid (World.size_alloc wk (.cells #[.int .i64 1,.string ⟨#[]⟩,.string ⟨#[]⟩,.int .i64 0,.slice (some ⟨g7,0,none⟩) 2 2] 46));have ga:=hid Kk.size;clear ag d4 co a5 a2 cp k8 d0 av k7 Kk bk s0 s1 s2 nb;refine ai (rs:=[15]) (by kernel_rfl) (by simp) ?_;refine ae.last rfl (by kernel_rfl) (fun K hK=>?_);go_simp;refine hK.out _ _ ?_;clear hK K
    (try simp only[Act.put,List.setIfInBounds_toArray,List.set_cons_zero,List.set_cons_succ])
    refine ak (by kernel_rfl) ?_ _;obtain⟨w9,ad⟩:∃x,w8.setCell ⟨G,4,none⟩ (.slice a' (l.length+1) c')=x:=⟨_,rfl⟩;rw[ad];have Y:Kept [G] w8 w9:=ad▸(Kept.refl _ _).setCell (Or.inl (by simp)) _;have d2:Blk w9 G 46 #[.int .i64 2,.string ⟨#[]⟩,.string ⟨#[]⟩,.int .i64 0,.slice a' (l.length+1) c']:=ad▸eq.out.set_ 4 _;have d3:=ex.out.kept Y (by simp;omega);have cm:=b5.out.kept Y (by simp;omega);have h9:Ps B W0 rb ts a c z w9 j2:=(bt.out.far K8.out (fun y hy=>by have:=(Z y hy).1;omega)).far Y (fun y hy=>by rw[List.mem_singleton]at hy;omega)
    have b9:∀y∈obl (.slice a' (l.length+1) c'),G+1<=y:=fun y hy=>by
     rcases e4.out y hy with h|h
     ·exact(Z y h).1
     ·have:=g5.out;have:=ga.out;omega
    have a5:=el.out.step (X':=List.range (G+1)++obl (.slice a' (l.length+1) c')) Y (fun y hy J=>by rw[List.mem_singleton]at J;have:=b9 y hy;omega) (fun y hy _=>by rw[List.mem_singleton]at hy;exact List.mem_append_left _ (List.mem_append_left _ (List.mem_range.2 (by omega)))) (fun y hy=>by
     rcases List.mem_append.1 hy with h|h
     ·exact Or.inl (List.mem_append_left _ (List.mem_append_left _ h))
     ·exact Or.inl (List.mem_append_right _ h))
    have cy:Kept [rb] w w9:=(aq.out.then_ K8.out (fun y hy J=>by have:=(Z y J).1;omega)).fresh Y (fun y hy=>by rw[List.mem_singleton]at hy;omega)
    have gl:G+1<=w9.heap.size:=by have:=K8.out.size;have:=Y.size;omega
    have af:=hid (aQ h9 [44]);have c9:=hid d2;have ev:=hid d3;have dc:=hid cm;have ek:=hid a5;have e9:=hid cy;have eg:=hid b9;have h3:=hid h9.le;have d8:=hid (show wr.cell? ⟨G,4,none⟩=some (.slice T l.length Q)from gc.out.cell 4);clear ad Y d2 d3 cm h9 b9 a5 cy Z eq ex b5 el K8 e4 bt ca ey ap en x4 x5 hH aq
    cases hsw:aI ts [44] j2
    ·rw[hsw]at af;have A:=dm.out
     simp only at A
     rw[hsw,if_neg (by simp)]at A;have a8:=hid A;clear A;go_wp2_with (go_at_call 115;refine af.out.mono ?_;rintro e ci ⟨rfl,u,bn⟩)
     go_roundw
     case rel =>
      refine⟨false,j2,f,l++[(.node 1 [] [] 0 [.node 0 [] sm.name (sm.off - m) [],.node 0 sm.name [] (n - sm.off) []])],.slice a' (l.length+1) c',rfl,by omega,bn,e9.out.trans u,c9.out.kept u (by simp;omega),ev.out.kept u (by simp;omega),dc.out.kept u (by simp;omega),?_,?_,by have:=u.size;omega,?_⟩
      ·exact ek.out.step u (fun y hy J=>by rw[List.mem_singleton]at J;have:=eg.out y hy;omega) (fun y hy _=>by rw[List.mem_singleton]at hy;exact List.mem_append_left _ (List.mem_range.2 (by omega))) (fun y hy=>Or.inl hy)
      ·rw[List.length_append];simp;omega
      ·simp only[Bool.false_eq_true,if_false];exact a8.out.symm
     case measure =>
      rw[d8.out];simp only[cH,cI,if_true,Bool.false_eq_true,if_false];omega
    ·rw[hsw]at af;have A:=dm.out
     simp only at A
     rw[hsw,if_pos rfl]at A;have a8:=hid A;clear A;go_wp2_with (go_at_call 115;refine af.out.mono ?_;rintro e ci ⟨rfl,u,bn⟩)
     go_roundw
     case rel =>
      refine⟨true,j2+1,f,l++[(.node 1 [] [] 0 [.node 0 [] sm.name (sm.off - m) [],.node 0 sm.name [] (n - sm.off) []])],.slice a' (l.length+1) c',rfl,by omega,bn,e9.out.trans u,c9.out.kept u (by simp;omega),ev.out.kept u (by simp;omega),dc.out.kept u (by simp;omega),?_,?_,by have:=u.size;omega,?_⟩
      ·exact ek.out.step u (fun y hy J=>by rw[List.mem_singleton]at J;have:=eg.out y hy;omega) (fun y hy _=>by rw[List.mem_singleton]at hy;exact List.mem_append_left _ (List.mem_range.2 (by omega))) (fun y hy=>Or.inl hy)
      ·rw[List.length_append];simp;omega
      ·simp only[if_true];exact⟨by omega,a8.out⟩
     case measure =>
      rw[d8.out,show ci.cell? ⟨G,4,none⟩=some (.slice a' (l.length+1) c')from(c9.out.kept u (by simp;omega)).cell 4];simp only[cH,cI,Bool.false_eq_true,if_false];omega
end Go.Proofs.YtpcmamoomaddoaaGreatDoor
