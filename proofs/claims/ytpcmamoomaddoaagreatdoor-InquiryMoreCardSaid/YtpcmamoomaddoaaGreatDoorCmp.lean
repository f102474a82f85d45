import Derived.Test.YtpcmamoomaddoaaGreatDoorMbr
import Derived.Laws.EntriesVeiled
set_option maxRecDepth 100000
set_option maxHeartbeats 32000000
namespace Go.Proofs.YtpcmamoomaddoaaGreatDoor
open Go.RowKit
open Go.Proofs.Tryz
open Lib(hid)
theorem cU{w2:World}{tmps:Array Value}{v0 v1 v2 v3 v4 X:Value}{b:Nat}{R:Ending->World->Prop}(hb:Blk w2 b 46 #[v0,v1,v2,v3,v4])(h2:tmps[6]?.getD undef=.pointer (some ⟨b,0,none⟩))
  (hX:.agg #[v0,v1,v2,v3,v4]=X) (hR:R (.returned X) w2) :
  bodyPost prog Tryz.f199 R Exit.ret { tmps:=tmps,defers:=[] } w2:=by
 subst hX;have c0:w2.cell? ⟨b,0,none⟩=some v0:=hb.cell 0;have c1:w2.cell? ⟨b,1,none⟩=some v1:=hb.cell 1;have c2:w2.cell? ⟨b,2,none⟩=some v2:=hb.cell 2;have c3:w2.cell? ⟨b,3,none⟩=some v3:=hb.cell 3;have c4:w2.cell? ⟨b,4,none⟩=some v4:=hb.cell 4;refine bodyPost_ret (v:=.agg #[v0,v1,v2,v3,v4]) ?_ rfl hR;simp only[results,results199]
 simp[go_sem,h2,c0,c1,c2,c3,c4]
theorem gg{α:Type}{p:α->Bool}{l:List α}{k:Nat}{s:α}(hk:l[k]?=some s)(hb:∀x∈l.take k,p x=false)(hs:p s=true):l.find? p=some s:=by
 induction l generalizing k with
 |nil=>simp at hk
 |cons a l ih =>
  cases k with
  |zero =>
   simp at hk;subst hk;rw[List.find?_cons,hs]
  |succ k =>
   have ha:=hb a (by simp);rw[List.find?_cons,ha];exact ih (by simpa using hk) (fun x hx=>hb x (by simp[hx]))
theorem tA{α:Type}{p:α->Bool}{l:List α}{k:Nat}(hk:l.length<=k)(hb:∀x∈l.take k,p x=false):l.find? p=none:=by
 rw[List.find?_eq_none];intro x hx;rw[List.take_of_length_le hk]at hb
 simp[hb x hx]
theorem dK{α:Type}{p:α->Bool}{l:List α}{k:Nat}{s:α}(hk:l[k]?=some s)(hb:∀x∈l.take k,p x=false)(hs:p s=false):∀x∈l.take (k+1),p x=false:=by
 intro x hx;rw[List.take_add_one,hk]at hx
 rcases List.mem_append.1 hx with hx|hx
 ·exact hb x hx
 ·simp at hx;exact hx▸hs
theorem oR{B:Nat}{W0:World}{rb:Nat}{ts:List Tok}{a:Option Addr}{c:Nat}{z:Int}{w:World}{n0:Nat}(sm:Sm)(hsm:SmI sm)(pos:Nat)(hpos:pos<=ts.length)(h:Ps B W0 rb ts a c z w n0) :
  Calls prog 199 #[.pointer (some ⟨rb,0,none⟩),.agg #[.string ⟨sm.name.toArray⟩,.int .i64 sm.off],.int .i64 (pos:Int)] w (PdE B W0 rb ts a c z w (cY ts sm n0)):=by
 obtain⟨W,hW⟩:∃W,(w.alloc (.cells #[.string ⟨sm.name.toArray⟩,.int .i64 sm.off] 252)).alloc (.cells #[.int .i64 0,.string ⟨#[]⟩,.string ⟨#[]⟩,.int .i64 0,.slice none 0 0] 46)=W:=⟨_,rfl⟩;have au:Kept [] w W:=hW▸((Kept.refl _ _).alloc _).alloc _;have b1:Blk W w.heap.size 252 #[.string ⟨sm.name.toArray⟩,.int .i64 sm.off]:=hW▸(Blk.new _ _ _).alloc _;have av:Blk W (w.heap.size+1) 46 #[.int .i64 0,.string ⟨#[]⟩,.string ⟨#[]⟩,.int .i64 0,.slice none 0 0]:=hW▸Blk.new1 _ _ _ _;have hw:=h.step au;have bb:rb < w.heap.size:=h.blk.lt;obtain⟨R,d⟩:∃R,cY ts sm n0=R:=⟨_,rfl⟩;rw[d]
 unfold cY at d
 obtain⟨H,hH⟩:∃H,W.heap.size=H:=⟨_,rfl⟩
 have be:w.heap.size+2<=H:=by have:=av.lt;omega
 have M:=hid (rW W);rw[hH]at M;have b8:=hid b1;have b9:=hid av;have HP:=hid hw;have HK:Hid (Kept [rb] w W):=hid (au.mono (by simp));have HW:=hid hW;have HR:=hid d;clear hW au b1 av h hw d hH
 go_enter func199,ntmps199
 go_upto_region 1 with(fail);have hW':=HW.out;rw[hW'];clear hW';go_upto_region 2 with(go_at_call 236;refine M.out.mono ?_;rintro e w4 ⟨rfl,k4,b4,x0,x1,x2,x3⟩);have ba:=hid k4;have b7:=hid b4;have b6:=hid x0;have b5:=hid x1;have b3:=hid x2;have b2:=hid x3;have E:=hid (HK.out.trans (k4.mono (by simp)));have BA:=hid (b9.out.kept k4 (by simp));have BS:=hid (b8.out.kept k4 (by simp));have P4:=hid (HP.out.step k4);clear k4 b4 x0 x1 x2 x3 b8 b9 HP HK ba HW M
 go_loopw [11] (fun v wr=>∃k:Int,v=.int .i64 k/\0<=k/\k<=6/\Kept [rb] w4 wr/\Ps B W0 rb ts a c z wr n0/\∀s∈signOf.take k.toNat,aI ts s.1 n0=false)
  (fun v _=>(6 - intOf v).toNat)
 case atStart=>exact⟨0,rfl,by decide,by decide,Kept.refl _ _,P4.out,by simp⟩
 case round =>
  obtain⟨k,rfl,bd,bc,af,b0,an⟩:=hrel;have a3:=hid af;have ac:=hid b0;have a2:=hid an;have a4:=hid (BA.out.kept af (by simp;omega));have ag:=hid (BS.out.kept af (by simp;omega));have N:=hid (b7.out.kept af (by simp;omega));have ad:∀ {p:Addr} {v:Value},w4.cell? p=some v->p.block≠rb->wr.cell? p=some v:=fun h hne=>(af.cell (World.block_lt_of_cell? w4 _ h) (by simpa using hne)).trans h;have Y0:=hid (ad b6.out (by show H≠rb;omega));have Y1:=hid (ad b5.out (by show H+1≠rb;omega));have Y2:=hid (ad b3.out (by show H+2≠rb;omega));have Y3:=hid (ad b2.out (by show H+3≠rb;omega));clear af b0 an ad BA BS b7 b6 b5 b3 b2 P4
  have hk:k=6\/k=0\/k=1\/k=2\/k=3\/k=4\/k=5:=by omega
  rcases hk with rfl|rfl|rfl|rfl|rfl|rfl|rfl
  ·have d:=HR.out;rw[tA (k:=6) (by decide) a2.out]at d
   simp only at d
   subst d;have HF:=hid (dD ac.out 12 n0 ac.out.le (n0:Int) rfl);have y1:wr.cell? ⟨rb,1,none⟩=some (.int .i64 n0):=ac.out.blk.cell 1;go_wp2_with (go_at_call 72;refine HF.out.mono ?_;rintro e m ⟨⟨p,rfl⟩,C⟩);exact⟨rfl,⟨p,rfl⟩,(E.out.trans a3.out).trans (C.mono (by simp))⟩
  ·have c0:wr.cell? ⟨H+4,0,none⟩=some (.string ⟨#[60,61]⟩):=N.out.cell 0;have c1:wr.cell? ⟨H+4,1,none⟩=some (.func (.func 258) #[] #[]):=N.out.cell 1;go_upto_region 4 with(fail);obtain⟨g,hg⟩:∃g,wr.heap.size=g:=⟨_,rfl⟩;obtain⟨wa,o⟩:∃x,wr.alloc (.cells #[.string ⟨#[60,61]⟩,.func (.func 258) #[] #[]] 283)=x:=⟨_,rfl⟩;rw[o,hg];have kA:Kept [] wr wa:=o▸(Kept.refl _ _).alloc _;have bA:Blk wa g 283 #[.string ⟨#[60,61]⟩,.func (.func 258) #[] #[]]:=hg▸o▸Blk.new _ _ _
   have ap:w.heap.size+2<=g:=by have:=a4.out.lt;omega
   have y0:wa.cell? ⟨g,0,none⟩=some (.string ⟨#[60,61]⟩):=bA.cell 0;have M:=hid (aQ (ac.out.step kA) [60,61]);have J:=hid kA;have a1:=hid bA;clear o kA bA c0 c1 hg
   cases hs:aI ts [60,61] n0
   ·rw[hs]at M;go_wp2_with (go_at_call 115;refine M.out.mono ?_;rintro e m ⟨rfl,C,h5⟩)
    go_roundw
    case rel=>exact⟨1,rfl,by decide,by decide,(a3.out.trans (J.out.mono (by simp))).trans C,h5,dK (k:=0) (s:=([60,61],fun a b=>aJ a b 0)) rfl a2.out hs⟩
    case measure=>simp[intOf]
   ·rw[hs]at M;have d:=HR.out;rw[gg (k:=0) (s:=([60,61],fun a b=>aJ a b 0)) rfl a2.out hs]at d
    simp only at d
    have V:=hid d;clear d;go_upto_region 5 with(go_at_call 115;refine M.out.mono ?_;rintro e m ⟨rfl,C,h5⟩);have h5':Ps B W0 rb ts a c z m (n0+1):=h5;have t:=hid ((a3.out.trans (J.out.mono (by simp))).trans C);have a6:=hid ((J.out.mono (by simp):Kept [rb] wr wa).trans C);have T:=(a4.out.kept J.out (by simp)).kept C (by simp;omega);have I:=(ag.out.kept J.out (by simp)).kept C (by simp;omega);have Q:=a1.out.kept C (by simp;omega);have s0:∀w',Kept [rb] m w'->w'.cell? ⟨g,1,none⟩=some (.func (.func 258) #[] #[]):=fun w' k=>(Q.kept k (by simp;omega)).cell 1;have s1:∀w',Kept [rb] m w'->w'.cell? ⟨w.heap.size,0,none⟩=some (.string ⟨sm.name.toArray⟩):=fun w' k=>(I.kept k (by simp;omega)).cell 0;have s2:∀w',Kept [rb] m w'->w'.cell? ⟨w.heap.size,1,none⟩=some (.int .i64 sm.off):=fun w' k=>(I.kept k (by simp;omega)).cell 1;have u:=hid (eS (h5'.step (Kept.refl [] m).drew));have a0:=hid T;clear T I Q h5 h5' C y0 M a1 J;refine ar [9] (fun w'=>Kept [rb] m w') (by kernel_rfl) (Kept.refl _ _).drew (fun hH=>?_);refine ah [8,9] (i:=0) (v:=?tv0k0) rfl (by kernel_rfl) (by kernel_rfl) (by kernel_rfl) (by kernel_rfl) (fun _ _ _ h=>h) (Or.inl ⟨by rfl,?ty0k0⟩) hH ?tr0k0
    case ty0k0=>intro w' l;(try dsimp only at l);go_simp;first|done|with_reducible rfl
    simp only[Act.put,List.setIfInBounds_toArray,List.set_cons_zero,List.set_cons_succ];refine ah [2,6,8,9] (i:=1) (v:=?tv1k0) rfl (by kernel_rfl) (by kernel_rfl) (by kernel_rfl) (by kernel_rfl) (fun _ _ _ h=>h) (Or.inl ⟨by rfl,?ty1k0⟩) hH ?tr1k0
    case ty1k0=>intro w' l;(try dsimp only at l);go_simp;first|done|with_reducible rfl
    simp only[Act.put,List.setIfInBounds_toArray,List.set_cons_zero,List.set_cons_succ];refine ah [6,8,9] (i:=2) (v:=?tv2k0) rfl (by kernel_rfl) (by kernel_rfl) (by kernel_rfl) (by kernel_rfl) (fun _ _ _ h=>h) (Or.inl ⟨by rfl,?ty2k0⟩) hH ?tr2k0
    case ty2k0=>intro w' l;(try dsimp only at l);go_simp;first|done|with_reducible rfl
    simp only[Act.put,List.setIfInBounds_toArray,List.set_cons_zero,List.set_cons_succ];refine ah [6,8,9] (i:=3) (v:=?tv3k0) rfl (by kernel_rfl) (by kernel_rfl) (by kernel_rfl) (by kernel_rfl) (fun _ _ _ h=>h) (Or.inl ⟨by rfl,?ty3k0⟩) hH ?tr3k0
    case ty3k0=>intro w' l;(try dsimp only at l);go_simp;first|done|with_reducible rfl
    simp only[Act.put,List.setIfInBounds_toArray,List.set_cons_zero,List.set_cons_succ];refine ah [5,6,8,9] (i:=4) (v:=?tv4k0) rfl (by kernel_rfl) (by kernel_rfl) (by kernel_rfl) (by kernel_rfl) (fun _ _ _ h=>h) (Or.inl ⟨by rfl,?ty4k0⟩) hH ?tr4k0
    case ty4k0=>intro w' l;(try dsimp only at l);go_simp;first|done|with_reducible rfl
    simp only[Act.put,List.setIfInBounds_toArray,List.set_cons_zero,List.set_cons_succ];refine ah [8,9] (i:=7) (v:=?tv7k0) rfl (by kernel_rfl) (by kernel_rfl) (by kernel_rfl) (by kernel_rfl) (fun _ _ _ h=>h) (Or.inl ⟨by rfl,?ty7k0⟩) hH ?tr7k0
    case ty7k0=>intro w' l;(try dsimp only at l);go_simp;first|done|with_reducible rfl
    simp only[Act.put,List.setIfInBounds_toArray,List.set_cons_zero,List.set_cons_succ];refine ai (rs:=[5]) (by kernel_rfl) (by simp) ?_;refine ae.cons rfl (fun K hK=>?_) ae.nil;go_simp
    cases hsum:sumP ts (n0+1)with
    |error er =>
     have d:=V.out;rw[hsum]at d u;simp only[bnd]at d;subst d;refine u.out.mono ?_
     unfold SumE
     rintro e F ⟨⟨p,rfl⟩,k6⟩;exact⟨rfl,⟨p,rfl⟩,(E.out.trans t.out).drew.trans k6⟩
    |ok y =>
    obtain⟨b,j⟩:=y;have d:=V.out;rw[hsum]at d u;simp only[bnd]at d;have a9:=hid d;clear d;refine u.out.mono ?_
    unfold SumE
    rintro e F ⟨rfl,k6,h6,a5,aq⟩;have L:Kept [rb] m F:=(Kept.refl _ _).drew.trans k6;have H6:=hid h6;have Z:=hid ((a0.out.kept L (by simp;omega)).lt);refine hK.out _ _ L (fun hH=>?_);clear hK K k6 h6
    (try simp only[Act.put,List.setIfInBounds_toArray,List.set_cons_zero,List.set_cons_succ])
    have n:∀ {p:Addr} {v:Value},wr.cell? p=some v->p.block≠rb->F.cell? p=some v:=fun h hne=>((a6.out.trans L).cell (World.block_lt_of_cell? wr _ h) (by simpa using hne)).trans h;have X:=hid (uq sm b F hsm a5);obtain⟨p,hp⟩:∃p,aJ sm b 0=p:=⟨_,rfl⟩;rw[hp]at X;have d:=a9.out;rw[hp]at d;have a8:=hid d;clear d n hp;refine ai (rs:=[6]) (by kernel_rfl) (by simp) ?_;refine ae.cons rfl (fun K hK=>?_) ae.nil;go_simp;refine X.out.mono ?_;rintro e w7 ⟨v,rfl,k7,cs,rfl,r⟩;have K7:Kept [rb] m w7:=L.trans (k7.mono (by simp))
    have ao:w.heap.size<=F.heap.size:=by have:=L.size;have:=t.out.size;have:=E.out.size;omega
    have h7:=H6.out.step k7;have A:=hid (bW pos hpos _ p cs w7 (Nat.le_refl _) h7 r.get);obtain⟨pk,pl,pr,pc,G⟩:=p;obtain⟨pa,O,rfl,_⟩:=r.get.rows;have a7:=hid r;have H7:=hid h7;refine hK.out _ _ K7 (fun hH=>?_);clear hK K k7 r h7 L
    (try simp only[Act.put,List.setIfInBounds_toArray,List.set_cons_zero,List.set_cons_succ])
    refine ai (rs:=[8]) (by kernel_rfl) (by simp) ?_;refine ae.cons rfl (fun K hK=>?_) ae.nil;go_simp;have d:=a8.out
    unfold chk at d
    cases hrg:aW (.node pk pl pr pc G)
    ·rw[hrg]at d A;simp only[Bool.false_eq_true,if_false]at d;subst d;refine A.out.mono ?_
     unfold RngE
     rintro e D ⟨⟨q,rfl⟩,P⟩;exact⟨rfl,⟨q,rfl⟩,((E.out.trans t.out).trans K7).trans (P.mono (by simp))⟩
    ·rw[hrg]at d A;simp only[if_true]at d;subst d;refine A.out.mono ?_
     unfold RngE
     rintro e D ⟨rfl,P⟩;have K8:Kept [rb] m D:=K7.trans (P.mono (by simp));refine hK.out _ _ K8 (fun hH=>?_);clear hK K
     (try simp only[Act.put,List.setIfInBounds_toArray,List.set_cons_zero,List.set_cons_succ])
     have f:=a0.out.kept K8 (by simp;omega);have c0:D.cell? ⟨w.heap.size+1,0,none⟩=some (.int .i64 0):=f.cell 0;have c1:D.cell? ⟨w.heap.size+1,1,none⟩=some (.string ⟨#[]⟩):=f.cell 1;have c2:D.cell? ⟨w.heap.size+1,2,none⟩=some (.string ⟨#[]⟩):=f.cell 2;have c3:D.cell? ⟨w.heap.size+1,3,none⟩=some (.int .i64 0):=f.cell 3;have c4:D.cell? ⟨w.heap.size+1,4,none⟩=some (.slice none 0 0):=f.cell 4;have f0:=f.frozen 0;have f1:=f.frozen 1;have f2:=f.frozen 2;have f3:=f.frozen 3;have f4:=f.frozen 4;have aa:=hid f;have ab:Hid (w.heap.size+2<=F.heap.size):=hid (by have:=Z.out;omega);have Y:=hid P;have U:=hid ((E.out.trans t.out).trans K8);clear f P K8 K7 s0 s1 s2;refine ai (rs:=[9]) (by kernel_rfl) (by simp) ?_;refine ae.last rfl (by kernel_rfl) (fun K hK=>?_);go_simp;refine hK.out _ _ ?_;clear hK K
     (try simp only[Act.put,List.setIfInBounds_toArray,List.set_cons_zero,List.set_cons_succ])
     refine ak (by kernel_rfl) ?_ _;go_wp2_with fail;refine cU (((((aa.out.set_ 0 _).set_ 1 _).set_ 2 _).set_ 3 _).set_ 4 _) rfl rfl ?_;have kF:=(((((Kept.refl [w.heap.size+1] D).setCell (p:=⟨w.heap.size+1,0,none⟩) (Or.inl (by simp)) (.int .i64 pk)).setCell (p:=⟨w.heap.size+1,1,none⟩) (Or.inl (by simp)) (.string ⟨pl.toArray⟩)).setCell (p:=⟨w.heap.size+1,2,none⟩) (Or.inl (by simp)) (.string ⟨pr.toArray⟩)).setCell (p:=⟨w.heap.size+1,3,none⟩) (Or.inl (by simp)) (.int .i64 pc)).setCell (p:=⟨w.heap.size+1,4,none⟩) (Or.inl (by simp)) (.slice pa G.length O);refine⟨_,rfl,U.out.fresh kF (fun y hy=>by rw[List.mem_singleton]at hy;omega),(H7.out.step Y.out).far kF (fun y hy=>by rw[List.mem_singleton]at hy;omega),?_⟩;exact⟨[.int .i64 pk,.string ⟨pl.toArray⟩,.string ⟨pr.toArray⟩,.int .i64 pc,.slice pa G.length O],rfl,((a7.out.step (X':=List.range F.heap.size) Y.out (fun y hy _=>by simp at hy) (fun y hy=>Or.inl hy)).step (X':=List.range w.heap.size) kF (fun y hy _=>by rw[List.mem_singleton]at hy;have:=U.out.size;exact List.mem_range.2 (by have:=ab.out;omega)) (fun y hy=>Or.inl (List.mem_range.2 (by have:=List.mem_range.1 hy;omega))))⟩
  ·have c0:wr.cell? ⟨H+4,2,none⟩=some (.string ⟨#[60]⟩):=N.out.cell 2;have c1:wr.cell? ⟨H+4,3,none⟩=some (.func (.func 259) #[] #[]):=N.out.cell 3;go_upto_region 4 with(fail);obtain⟨g,hg⟩:∃g,wr.heap.size=g:=⟨_,rfl⟩;obtain⟨wa,o⟩:∃x,wr.alloc (.cells #[.string ⟨#[60]⟩,.func (.func 259) #[] #[]] 283)=x:=⟨_,rfl⟩;rw[o,hg];have kA:Kept [] wr wa:=o▸(Kept.refl _ _).alloc _;have bA:Blk wa g 283 #[.string ⟨#[60]⟩,.func (.func 259) #[] #[]]:=hg▸o▸Blk.new _ _ _
   have ap:w.heap.size+2<=g:=by have:=a4.out.lt;omega
   have y0:wa.cell? ⟨g,0,none⟩=some (.string ⟨#[60]⟩):=bA.cell 0;have M:=hid (aQ (ac.out.step kA) [60]);have J:=hid kA;have a1:=hid bA;clear o kA bA c0 c1 hg
   cases hs:aI ts [60] n0
   ·rw[hs]at M;go_wp2_with (go_at_call 115;refine M.out.mono ?_;rintro e m ⟨rfl,C,h5⟩)
    go_roundw
    case rel=>exact⟨2,rfl,by decide,by decide,(a3.out.trans (J.out.mono (by simp))).trans C,h5,dK (k:=1) (s:=([60],fun a b=>aJ a b 1)) rfl a2.out hs⟩
    case measure=>simp[intOf]
   ·rw[hs]at M;have d:=HR.out;rw[gg (k:=1) (s:=([60],fun a b=>aJ a b 1)) rfl a2.out hs]at d
    simp only at d
    have V:=hid d;clear d;go_upto_region 5 with(go_at_call 115;refine M.out.mono ?_;rintro e m ⟨rfl,C,h5⟩);have h5':Ps B W0 rb ts a c z m (n0+1):=h5;have t:=hid ((a3.out.trans (J.out.mono (by simp))).trans C);have a6:=hid ((J.out.mono (by simp):Kept [rb] wr wa).trans C);have T:=(a4.out.kept J.out (by simp)).kept C (by simp;omega);have I:=(ag.out.kept J.out (by simp)).kept C (by simp;omega);have Q:=a1.out.kept C (by simp;omega);have s0:∀w',Kept [rb] m w'->w'.cell? ⟨g,1,none⟩=some (.func (.func 259) #[] #[]):=fun w' k=>(Q.kept k (by simp;omega)).cell 1;have s1:∀w',Kept [rb] m w'->w'.cell? ⟨w.heap.size,0,none⟩=some (.string ⟨sm.name.toArray⟩):=fun w' k=>(I.kept k (by simp;omega)).cell 0;have s2:∀w',Kept [rb] m w'->w'.cell? ⟨w.heap.size,1,none⟩=some (.int .i64 sm.off):=fun w' k=>(I.kept k (by simp;omega)).cell 1;have u:=hid (eS (h5'.step (Kept.refl [] m).drew));have a0:=hid T;clear T I Q h5 h5' C y0 M a1 J;refine ar [9] (fun w'=>Kept [rb] m w') (by kernel_rfl) (Kept.refl _ _).drew (fun hH=>?_);refine ah [8,9] (i:=0) (v:=?tv0k1) rfl (by kernel_rfl) (by kernel_rfl) (by kernel_rfl) (by kernel_rfl) (fun _ _ _ h=>h) (Or.inl ⟨by rfl,?ty0k1⟩) hH ?tr0k1
    case ty0k1=>intro w' l;(try dsimp only at l);go_simp;first|done|with_reducible rfl
    simp only[Act.put,List.setIfInBounds_toArray,List.set_cons_zero,List.set_cons_succ];refine ah [2,6,8,9] (i:=1) (v:=?tv1k1) rfl (by kernel_rfl) (by kernel_rfl) (by kernel_rfl) (by kernel_rfl) (fun _ _ _ h=>h) (Or.inl ⟨by rfl,?ty1k1⟩) hH ?tr1k1
    case ty1k1=>intro w' l;(try dsimp only at l);go_simp;first|done|with_reducible rfl
    simp only[Act.put,List.setIfInBounds_toArray,List.set_cons_zero,List.set_cons_succ];refine ah [6,8,9] (i:=2) (v:=?tv2k1) rfl (by kernel_rfl) (by kernel_rfl) (by kernel_rfl) (by kernel_rfl) (fun _ _ _ h=>h) (Or.inl ⟨by rfl,?ty2k1⟩) hH ?tr2k1
    case ty2k1=>intro w' l;(try dsimp only at l);go_simp;first|done|with_reducible rfl
    simp only[Act.put,List.setIfInBounds_toArray,List.set_cons_zero,List.set_cons_succ];refine ah [6,8,9] (i:=3) (v:=?tv3k1) rfl (by kernel_rfl) (by kernel_rfl) (by kernel_rfl) (by kernel_rfl) (fun _ _ _ h=>h) (Or.inl ⟨by rfl,?ty3k1⟩) hH ?tr3k1
    case ty3k1=>intro w' l;(try dsimp only at l);go_simp;first|done|with_reducible rfl
    simp only[Act.put,List.setIfInBounds_toArray,List.set_cons_zero,List.set_cons_succ];refine ah [5,6,8,9] (i:=4) (v:=?tv4k1) rfl (by kernel_rfl) (by kernel_rfl) (by kernel_rfl) (by kernel_rfl) (fun _ _ _ h=>h) (Or.inl ⟨by rfl,?ty4k1⟩) hH ?tr4k1
    case ty4k1=>intro w' l;(try dsimp only at l);go_simp;first|done|with_reducible rfl
    simp only[Act.put,List.setIfInBounds_toArray,List.set_cons_zero,List.set_cons_succ];refine ah [8,9] (i:=7) (v:=?tv7k1) rfl (by kernel_rfl) (by kernel_rfl) (by kernel_rfl) (by kernel_rfl) (fun _ _ _ h=>h) (Or.inl ⟨by rfl,?ty7k1⟩) hH ?tr7k1
    case ty7k1=>intro w' l;(try dsimp only at l);go_simp;first|done|with_reducible rfl
    simp only[Act.put,List.setIfInBounds_toArray,List.set_cons_zero,List.set_cons_succ];refine ai (rs:=[5]) (by kernel_rfl) (by simp) ?_;refine ae.cons rfl (fun K hK=>?_) ae.nil;go_simp
    cases hsum:sumP ts (n0+1)with
    |error er =>
     have d:=V.out;rw[hsum]at d u;simp only[bnd]at d;subst d;refine u.out.mono ?_
     unfold SumE
     rintro e F ⟨⟨p,rfl⟩,k6⟩;exact⟨rfl,⟨p,rfl⟩,(E.out.trans t.out).drew.trans k6⟩
    |ok y =>
    obtain⟨b,j⟩:=y;have d:=V.out;rw[hsum]at d u;simp only[bnd]at d;have a9:=hid d;clear d;refine u.out.mono ?_
    unfold SumE
    rintro e F ⟨rfl,k6,h6,a5,aq⟩;have L:Kept [rb] m F:=(Kept.refl _ _).drew.trans k6;have H6:=hid h6;have Z:=hid ((a0.out.kept L (by simp;omega)).lt);refine hK.out _ _ L (fun hH=>?_);clear hK K k6 h6
    (try simp only[Act.put,List.setIfInBounds_toArray,List.set_cons_zero,List.set_cons_succ])
    have n:∀ {p:Addr} {v:Value},wr.cell? p=some v->p.block≠rb->F.cell? p=some v:=fun h hne=>((a6.out.trans L).cell (World.block_lt_of_cell? wr _ h) (by simpa using hne)).trans h;have X:=hid (ul sm b F hsm a5);obtain⟨p,hp⟩:∃p,aJ sm b 1=p:=⟨_,rfl⟩;rw[hp]at X;have d:=a9.out;rw[hp]at d;have a8:=hid d;clear d n hp;refine ai (rs:=[6]) (by kernel_rfl) (by simp) ?_;refine ae.cons rfl (fun K hK=>?_) ae.nil;go_simp;refine X.out.mono ?_;rintro e w7 ⟨v,rfl,k7,cs,rfl,r⟩;have K7:Kept [rb] m w7:=L.trans (k7.mono (by simp))
    have ao:w.heap.size<=F.heap.size:=by have:=L.size;have:=t.out.size;have:=E.out.size;omega
    have h7:=H6.out.step k7;have A:=hid (bW pos hpos _ p cs w7 (Nat.le_refl _) h7 r.get);obtain⟨pk,pl,pr,pc,G⟩:=p;obtain⟨pa,O,rfl,_⟩:=r.get.rows;have a7:=hid r;have H7:=hid h7;refine hK.out _ _ K7 (fun hH=>?_);clear hK K k7 r h7 L
    (try simp only[Act.put,List.setIfInBounds_toArray,List.set_cons_zero,List.set_cons_succ])
    refine ai (rs:=[8]) (by kernel_rfl) (by simp) ?_;refine ae.cons rfl (fun K hK=>?_) ae.nil;go_simp;have d:=a8.out
    unfold chk at d
    cases hrg:aW (.node pk pl pr pc G)
    ·rw[hrg]at d A;simp only[Bool.false_eq_true,if_false]at d;subst d;refine A.out.mono ?_
     unfold RngE
     rintro e D ⟨⟨q,rfl⟩,P⟩;exact⟨rfl,⟨q,rfl⟩,((E.out.trans t.out).trans K7).trans (P.mono (by simp))⟩
    ·rw[hrg]at d A;simp only[if_true]at d;subst d;refine A.out.mono ?_
     unfold RngE
     rintro e D ⟨rfl,P⟩;have K8:Kept [rb] m D:=K7.trans (P.mono (by simp));refine hK.out _ _ K8 (fun hH=>?_);clear hK K
     (try simp only[Act.put,List.setIfInBounds_toArray,List.set_cons_zero,List.set_cons_succ])
     have f:=a0.out.kept K8 (by simp;omega);have c0:D.cell? ⟨w.heap.size+1,0,none⟩=some (.int .i64 0):=f.cell 0;have c1:D.cell? ⟨w.heap.size+1,1,none⟩=some (.string ⟨#[]⟩):=f.cell 1;have c2:D.cell? ⟨w.heap.size+1,2,none⟩=some (.string ⟨#[]⟩):=f.cell 2;have c3:D.cell? ⟨w.heap.size+1,3,none⟩=some (.int .i64 0):=f.cell 3;have c4:D.cell? ⟨w.heap.size+1,4,none⟩=some (.slice none 0 0):=f.cell 4;have f0:=f.frozen 0;have f1:=f.frozen 1;have f2:=f.frozen 2;have f3:=f.frozen 3;have f4:=f.frozen 4;have aa:=hid f;have ab:Hid (w.heap.size+2<=F.heap.size):=hid (by have:=Z.out;omega);have Y:=hid P;have U:=hid ((E.out.trans t.out).trans K8);clear f P K8 K7 s0 s1 s2;refine ai (rs:=[9]) (by kernel_rfl) (by simp) ?_;refine ae.last rfl (by kernel_rfl) (fun K hK=>?_);go_simp;refine hK.out _ _ ?_;clear hK K
     (try simp only[Act.put,List.setIfInBounds_toArray,List.set_cons_zero,List.set_cons_succ])
     refine ak (by kernel_rfl) ?_ _;go_wp2_with fail;refine cU (((((aa.out.set_ 0 _).set_ 1 _).set_ 2 _).set_ 3 _).set_ 4 _) rfl rfl ?_;have kF:=(((((Kept.refl [w.heap.size+1] D).setCell (p:=⟨w.heap.size+1,0,none⟩) (Or.inl (by simp)) (.int .i64 pk)).setCell (p:=⟨w.heap.size+1,1,none⟩) (Or.inl (by simp)) (.string ⟨pl.toArray⟩)).setCell (p:=⟨w.heap.size+1,2,none⟩) (Or.inl (by simp)) (.string ⟨pr.toArray⟩)).setCell (p:=⟨w.heap.size+1,3,none⟩) (Or.inl (by simp)) (.int .i64 pc)).setCell (p:=⟨w.heap.size+1,4,none⟩) (Or.inl (by simp)) (.slice pa G.length O);refine⟨_,rfl,U.out.fresh kF (fun y hy=>by rw[List.mem_singleton]at hy;omega),(H7.out.step Y.out).far kF (fun y hy=>by rw[List.mem_singleton]at hy;omega),?_⟩;exact⟨[.int .i64 pk,.string ⟨pl.toArray⟩,.string ⟨pr.toArray⟩,.int .i64 pc,.slice pa G.length O],rfl,((a7.out.step (X':=List.range F.heap.size) Y.out (fun y hy _=>by simp at hy) (fun y hy=>Or.inl hy)).step (X':=List.range w.heap.size) kF (fun y hy _=>by rw[List.mem_singleton]at hy;have:=U.out.size;exact List.mem_range.2 (by have:=ab.out;omega)) (fun y hy=>Or.inl (List.mem_range.2 (by have:=List.mem_range.1 hy;omega))))⟩
  ·have c0:wr.cell? ⟨H+4,4,none⟩=some (.string ⟨#[62,61]⟩):=N.out.cell 4;have c1:wr.cell? ⟨H+4,5,none⟩=some (.func (.func 260) #[] #[]):=N.out.cell 5;go_upto_region 4 with(fail);obtain⟨g,hg⟩:∃g,wr.heap.size=g:=⟨_,rfl⟩;obtain⟨wa,o⟩:∃x,wr.alloc (.cells #[.string ⟨#[62,61]⟩,.func (.func 260) #[] #[]] 283)=x:=⟨_,rfl⟩;rw[o,hg];have kA:Kept [] wr wa:=o▸(Kept.refl _ _).alloc _;have bA:Blk wa g 283 #[.string ⟨#[62,61]⟩,.func (.func 260) #[] #[]]:=hg▸o▸Blk.new _ _ _
   have ap:w.heap.size+2<=g:=by have:=a4.out.lt;omega
   have y0:wa.cell? ⟨g,0,none⟩=some (.string ⟨#[62,61]⟩):=bA.cell 0;have M:=hid (aQ (ac.out.step kA) [62,61]);have J:=hid kA;have a1:=hid bA;clear o kA bA c0 c1 hg
   cases hs:aI ts [62,61] n0
   ·rw[hs]at M;go_wp2_with (go_at_call 115;refine M.out.mono ?_;rintro e m ⟨rfl,C,h5⟩)
    go_roundw
    case rel=>exact⟨3,rfl,by decide,by decide,(a3.out.trans (J.out.mono (by simp))).trans C,h5,dK (k:=2) (s:=([62,61],fun a b=>aJ b a 0)) rfl a2.out hs⟩
    case measure=>simp[intOf]
   ·rw[hs]at M;have d:=HR.out;rw[gg (k:=2) (s:=([62,61],fun a b=>aJ b a 0)) rfl a2.out hs]at d
    simp only at d
    have V:=hid d;clear d;go_upto_region 5 with(go_at_call 115;refine M.out.mono ?_;rintro e m ⟨rfl,C,h5⟩);have h5':Ps B W0 rb ts a c z m (n0+1):=h5;have t:=hid ((a3.out.trans (J.out.mono (by simp))).trans C);have a6:=hid ((J.out.mono (by simp):Kept [rb] wr wa).trans C);have T:=(a4.out.kept J.out (by simp)).kept C (by simp;omega);have I:=(ag.out.kept J.out (by simp)).kept C (by simp;omega);have Q:=a1.out.kept C (by simp;omega);have s0:∀w',Kept [rb] m w'->w'.cell? ⟨g,1,none⟩=some (.func (.func 260) #[] #[]):=fun w' k=>(Q.kept k (by simp;omega)).cell 1;have s1:∀w',Kept [rb] m w'->w'.cell? ⟨w.heap.size,0,none⟩=some (.string ⟨sm.name.toArray⟩):=fun w' k=>(I.kept k (by simp;omega)).cell 0;have s2:∀w',Kept [rb] m w'->w'.cell? ⟨w.heap.size,1,none⟩=some (.int .i64 sm.off):=fun w' k=>(I.kept k (by simp;omega)).cell 1;have u:=hid (eS (h5'.step (Kept.refl [] m).drew));have a0:=hid T;clear T I Q h5 h5' C y0 M a1 J;refine ar [9] (fun w'=>Kept [rb] m w') (by kernel_rfl) (Kept.refl _ _).drew (fun hH=>?_);refine ah [8,9] (i:=0) (v:=?tv0k2) rfl (by kernel_rfl) (by kernel_rfl) (by kernel_rfl) (by kernel_rfl) (fun _ _ _ h=>h) (Or.inl ⟨by rfl,?ty0k2⟩) hH ?tr0k2
    case ty0k2=>intro w' l;(try dsimp only at l);go_simp;first|done|with_reducible rfl
    simp only[Act.put,List.setIfInBounds_toArray,List.set_cons_zero,List.set_cons_succ];refine ah [2,6,8,9] (i:=1) (v:=?tv1k2) rfl (by kernel_rfl) (by kernel_rfl) (by kernel_rfl) (by kernel_rfl) (fun _ _ _ h=>h) (Or.inl ⟨by rfl,?ty1k2⟩) hH ?tr1k2
    case ty1k2=>intro w' l;(try dsimp only at l);go_simp;first|done|with_reducible rfl
    simp only[Act.put,List.setIfInBounds_toArray,List.set_cons_zero,List.set_cons_succ];refine ah [6,8,9] (i:=2) (v:=?tv2k2) rfl (by kernel_rfl) (by kernel_rfl) (by kernel_rfl) (by kernel_rfl) (fun _ _ _ h=>h) (Or.inl ⟨by rfl,?ty2k2⟩) hH ?tr2k2
    case ty2k2=>intro w' l;(try dsimp only at l);go_simp;first|done|with_reducible rfl
    simp only[Act.put,List.setIfInBounds_toArray,List.set_cons_zero,List.set_cons_succ];refine ah [6,8,9] (i:=3) (v:=?tv3k2) rfl (by kernel_rfl) (by kernel_rfl) (by kernel_rfl) (by kernel_rfl) (fun _ _ _ h=>h) (Or.inl ⟨by rfl,?ty3k2⟩) hH ?tr3k2
    case ty3k2=>intro w' l;(try dsimp only at l);go_simp;first|done|with_reducible rfl
    simp only[Act.put,List.setIfInBounds_toArray,List.set_cons_zero,List.set_cons_succ];refine ah [5,6,8,9] (i:=4) (v:=?tv4k2) rfl (by kernel_rfl) (by kernel_rfl) (by kernel_rfl) (by kernel_rfl) (fun _ _ _ h=>h) (Or.inl ⟨by rfl,?ty4k2⟩) hH ?tr4k2
    case ty4k2=>intro w' l;(try dsimp only at l);go_simp;first|done|with_reducible rfl
    simp only[Act.put,List.setIfInBounds_toArray,List.set_cons_zero,List.set_cons_succ];refine ah [8,9] (i:=7) (v:=?tv7k2) rfl (by kernel_rfl) (by kernel_rfl) (by kernel_rfl) (by kernel_rfl) (fun _ _ _ h=>h) (Or.inl ⟨by rfl,?ty7k2⟩) hH ?tr7k2
    case ty7k2=>intro w' l;(try dsimp only at l);go_simp;first|done|with_reducible rfl
    simp only[Act.put,List.setIfInBounds_toArray,List.set_cons_zero,List.set_cons_succ];refine ai (rs:=[5]) (by kernel_rfl) (by simp) ?_;refine ae.cons rfl (fun K hK=>?_) ae.nil;go_simp
    cases hsum:sumP ts (n0+1)with
    |error er =>
     have d:=V.out;rw[hsum]at d u;simp only[bnd]at d;subst d;refine u.out.mono ?_
     unfold SumE
     rintro e F ⟨⟨p,rfl⟩,k6⟩;exact⟨rfl,⟨p,rfl⟩,(E.out.trans t.out).drew.trans k6⟩
    |ok y =>
    obtain⟨b,j⟩:=y;have d:=V.out;rw[hsum]at d u;simp only[bnd]at d;have a9:=hid d;clear d;refine u.out.mono ?_
    unfold SumE
    rintro e F ⟨rfl,k6,h6,a5,aq⟩;have L:Kept [rb] m F:=(Kept.refl _ _).drew.trans k6;have H6:=hid h6;have Z:=hid ((a0.out.kept L (by simp;omega)).lt);refine hK.out _ _ L (fun hH=>?_);clear hK K k6 h6
    (try simp only[Act.put,List.setIfInBounds_toArray,List.set_cons_zero,List.set_cons_succ])
    have n:∀ {p:Addr} {v:Value},wr.cell? p=some v->p.block≠rb->F.cell? p=some v:=fun h hne=>((a6.out.trans L).cell (World.block_lt_of_cell? wr _ h) (by simpa using hne)).trans h;have X:=hid (uj sm b F hsm a5);obtain⟨p,hp⟩:∃p,aJ b sm 0=p:=⟨_,rfl⟩;rw[hp]at X;have d:=a9.out;rw[hp]at d;have a8:=hid d;clear d n hp;refine ai (rs:=[6]) (by kernel_rfl) (by simp) ?_;refine ae.cons rfl (fun K hK=>?_) ae.nil;go_simp;refine X.out.mono ?_;rintro e w7 ⟨v,rfl,k7,cs,rfl,r⟩;have K7:Kept [rb] m w7:=L.trans (k7.mono (by simp))
    have ao:w.heap.size<=F.heap.size:=by have:=L.size;have:=t.out.size;have:=E.out.size;omega
    have h7:=H6.out.step k7;have A:=hid (bW pos hpos _ p cs w7 (Nat.le_refl _) h7 r.get);obtain⟨pk,pl,pr,pc,G⟩:=p;obtain⟨pa,O,rfl,_⟩:=r.get.rows;have a7:=hid r;have H7:=hid h7;refine hK.out _ _ K7 (fun hH=>?_);clear hK K k7 r h7 L
    (try simp only[Act.put,List.setIfInBounds_toArray,List.set_cons_zero,List.set_cons_succ])
    refine ai (rs:=[8]) (by kernel_rfl) (by simp) ?_;refine ae.cons rfl (fun K hK=>?_) ae.nil;go_simp;have d:=a8.out
    unfold chk at d
    cases hrg:aW (.node pk pl pr pc G)
    ·rw[hrg]at d A;simp only[Bool.false_eq_true,if_false]at d;subst d;refine A.out.mono ?_
     unfold RngE
     rintro e D ⟨⟨q,rfl⟩,P⟩;exact⟨rfl,⟨q,rfl⟩,((E.out.trans t.out).trans K7).trans (P.mono (by simp))⟩
    ·rw[hrg]at d A;simp only[if_true]at d;subst d;refine A.out.mono ?_
     unfold RngE
     rintro e D ⟨rfl,P⟩;have K8:Kept [rb] m D:=K7.trans (P.mono (by simp));refine hK.out _ _ K8 (fun hH=>?_);clear hK K
     (try simp only[Act.put,List.setIfInBounds_toArray,List.set_cons_zero,List.set_cons_succ])
     have f:=a0.out.kept K8 (by simp;omega);have c0:D.cell? ⟨w.heap.size+1,0,none⟩=some (.int .i64 0):=f.cell 0;have c1:D.cell? ⟨w.heap.size+1,1,none⟩=some (.string ⟨#[]⟩):=f.cell 1;have c2:D.cell? ⟨w.heap.size+1,2,none⟩=some (.string ⟨#[]⟩):=f.cell 2;have c3:D.cell? ⟨w.heap.size+1,3,none⟩=some (.int .i64 0):=f.cell 3;have c4:D.cell? ⟨w.heap.size+1,4,none⟩=some (.slice none 0 0):=f.cell 4;have f0:=f.frozen 0;have f1:=f.frozen 1;have f2:=f.frozen 2;have f3:=f.frozen 3;have f4:=f.frozen 4;have aa:=hid f;have ab:Hid (w.heap.size+2<=F.heap.size):=hid (by have:=Z.out;omega);have Y:=hid P;have U:=hid ((E.out.trans t.out).trans K8);clear f P K8 K7 s0 s1 s2;refine ai (rs:=[9]) (by kernel_rfl) (by simp) ?_;refine ae.last rfl (by kernel_rfl) (fun K hK=>?_);go_simp;refine hK.out _ _ ?_;clear hK K
     (try simp only[Act.put,List.setIfInBounds_toArray,List.set_cons_zero,List.set_cons_succ])
     refine ak (by kernel_rfl) ?_ _;go_wp2_with fail;refine cU (((((aa.out.set_ 0 _).set_ 1 _).set_ 2 _).set_ 3 _).set_ 4 _) rfl rfl ?_;have kF:=(((((Kept.refl [w.heap.size+1] D).setCell (p:=⟨w.heap.size+1,0,none⟩) (Or.inl (by simp)) (.int .i64 pk)).setCell (p:=⟨w.heap.size+1,1,none⟩) (Or.inl (by simp)) (.string ⟨pl.toArray⟩)).setCell (p:=⟨w.heap.size+1,2,none⟩) (Or.inl (by simp)) (.string ⟨pr.toArray⟩)).setCell (p:=⟨w.heap.size+1,3,none⟩) (Or.inl (by simp)) (.int .i64 pc)).setCell (p:=⟨w.heap.size+1,4,none⟩) (Or.inl (by simp)) (.slice pa G.length O);refine⟨_,rfl,U.out.fresh kF (fun y hy=>by rw[List.mem_singleton]at hy;omega),(H7.out.step Y.out).far kF (fun y hy=>by rw[List.mem_singleton]at hy;omega),?_⟩;exact⟨[.int .i64 pk,.string ⟨pl.toArray⟩,.string ⟨pr.toArray⟩,.int .i64 pc,.slice pa G.length O],rfl,((a7.out.step (X':=List.range F.heap.size) Y.out (fun y hy _=>by simp at hy) (fun y hy=>Or.inl hy)).step (X':=List.range w.heap.size) kF (fun y hy _=>by rw[List.mem_singleton]at hy;have:=U.out.size;exact List.mem_range.2 (by have:=ab.out;omega)) (fun y hy=>Or.inl (List.mem_range.2 (by have:=List.mem_range.1 hy;omega))))⟩
  ·have c0:wr.cell? ⟨H+4,6,none⟩=some (.string ⟨#[62]⟩):=N.out.cell 6;have c1:wr.cell? ⟨H+4,7,none⟩=some (.func (.func 261) #[] #[]):=N.out.cell 7;go_upto_region 4 with(fail);obtain⟨g,hg⟩:∃g,wr.heap.size=g:=⟨_,rfl⟩;obtain⟨wa,o⟩:∃x,wr.alloc (.cells #[.string ⟨#[62]⟩,.func (.func 261) #[] #[]] 283)=x:=⟨_,rfl⟩;rw[o,hg];have kA:Kept [] wr wa:=o▸(Kept.refl _ _).alloc _;have bA:Blk wa g 283 #[.string ⟨#[62]⟩,.func (.func 261) #[] #[]]:=hg▸o▸Blk.new _ _ _
   have ap:w.heap.size+2<=g:=by have:=a4.out.lt;omega
   have y0:wa.cell? ⟨g,0,none⟩=some (.string ⟨#[62]⟩):=bA.cell 0;have M:=hid (aQ (ac.out.step kA) [62]);have J:=hid kA;have a1:=hid bA;clear o kA bA c0 c1 hg
   cases hs:aI ts [62] n0
   ·rw[hs]at M;go_wp2_with (go_at_call 115;refine M.out.mono ?_;rintro e m ⟨rfl,C,h5⟩)
    go_roundw
    case rel=>exact⟨4,rfl,by decide,by decide,(a3.out.trans (J.out.mono (by simp))).trans C,h5,dK (k:=3) (s:=([62],fun a b=>aJ b a 1)) rfl a2.out hs⟩
    case measure=>simp[intOf]
   ·rw[hs]at M;have d:=HR.out;rw[gg (k:=3) (s:=([62],fun a b=>aJ b a 1)) rfl a2.out hs]at d
    simp only at d
    have V:=hid d;clear d;go_upto_region 5 with(go_at_call 115;refine M.out.mono ?_;rintro e m ⟨rfl,C,h5⟩);have h5':Ps B W0 rb ts a c z m (n0+1):=h5;have t:=hid ((a3.out.trans (J.out.mono (by simp))).trans C);have a6:=hid ((J.out.mono (by simp):Kept [rb] wr wa).trans C);have T:=(a4.out.kept J.out (by simp)).kept C (by simp;omega);have I:=(ag.out.kept J.out (by simp)).kept C (by simp;omega);have Q:=a1.out.kept C (by simp;omega);have s0:∀w',Kept [rb] m w'->w'.cell? ⟨g,1,none⟩=some (.func (.func 261) #[] #[]):=fun w' k=>(Q.kept k (by simp;omega)).cell 1;have s1:∀w',Kept [rb] m w'->w'.cell? ⟨w.heap.size,0,none⟩=some (.string ⟨sm.name.toArray⟩):=fun w' k=>(I.kept k (by simp;omega)).cell 0;have s2:∀w',Kept [rb] m w'->w'.cell? ⟨w.heap.size,1,none⟩=some (.int .i64 sm.off):=fun w' k=>(I.kept k (by simp;omega)).cell 1;have u:=hid (eS (h5'.step (Kept.refl [] m).drew));have a0:=hid T;clear T I Q h5 h5' C y0 M a1 J;refine ar [9] (fun w'=>Kept [rb] m w') (by kernel_rfl) (Kept.refl _ _).drew (fun hH=>?_);refine ah [8,9] (i:=0) (v:=?tv0k3) rfl (by kernel_rfl) (by kernel_rfl) (by kernel_rfl) (by kernel_rfl) (fun _ _ _ h=>h) (Or.inl ⟨by rfl,?ty0k3⟩) hH ?tr0k3
    case ty0k3=>intro w' l;(try dsimp only at l);go_simp;first|done|with_reducible rfl
    simp only[Act.put,List.setIfInBounds_toArray,List.set_cons_zero,List.set_cons_succ];refine ah [2,6,8,9] (i:=1) (v:=?tv1k3) rfl (by kernel_rfl) (by kernel_rfl) (by kernel_rfl) (by kernel_rfl) (fun _ _ _ h=>h) (Or.inl ⟨by rfl,?ty1k3⟩) hH ?tr1k3
    case ty1k3=>intro w' l;(try dsimp only at l);go_simp;first|done|with_reducible rfl
    simp only[Act.put,List.setIfInBounds_toArray,List.set_cons_zero,List.set_cons_succ];refine ah [6,8,9] (i:=2) (v:=?tv2k3) rfl (by kernel_rfl) (by kernel_rfl) (by kernel_rfl) (by kernel_rfl) (fun _ _ _ h=>h) (Or.inl ⟨by rfl,?ty2k3⟩) hH ?tr2k3
    case ty2k3=>intro w' l;(try dsimp only at l);go_simp;first|done|with_reducible rfl
    simp only[Act.put,List.setIfInBounds_toArray,List.set_cons_zero,List.set_cons_succ];refine ah [6,8,9] (i:=3) (v:=?tv3k3) rfl (by kernel_rfl) (by kernel_rfl) (by kernel_rfl) (by kernel_rfl) (fun _ _ _ h=>h) (Or.inl ⟨by rfl,?ty3k3⟩) hH ?tr3k3
    case ty3k3=>intro w' l;(try dsimp only at l);go_simp;first|done|with_reducible rfl
    simp only[Act.put,List.setIfInBounds_toArray,List.set_cons_zero,List.set_cons_succ];refine ah [5,6,8,9] (i:=4) (v:=?tv4k3) rfl (by kernel_rfl) (by kernel_rfl) (by kernel_rfl) (by kernel_rfl) (fun _ _ _ h=>h) (Or.inl ⟨by rfl,?ty4k3⟩) hH ?tr4k3
    case ty4k3=>intro w' l;(try dsimp only at l);go_simp;first|done|with_reducible rfl
    simp only[Act.put,List.setIfInBounds_toArray,List.set_cons_zero,List.set_cons_succ];refine ah [8,9] (i:=7) (v:=?tv7k3) rfl (by kernel_rfl) (by kernel_rfl) (by kernel_rfl) (by kernel_rfl) (fun _ _ _ h=>h) (Or.inl ⟨by rfl,?ty7k3⟩) hH ?tr7k3
    case ty7k3=>intro w' l;(try dsimp only at l);go_simp;first|done|with_reducible rfl
    simp only[Act.put,List.setIfInBounds_toArray,List.set_cons_zero,List.set_cons_succ];refine ai (rs:=[5]) (by kernel_rfl) (by simp) ?_;refine ae.cons rfl (fun K hK=>?_) ae.nil;go_simp
    cases hsum:sumP ts (n0+1)with
    |error er =>
     have d:=V.out;rw[hsum]at d u;simp only[bnd]at d;subst d;refine u.out.mono ?_
     unfold SumE
     rintro e F ⟨⟨p,rfl⟩,k6⟩;exact⟨rfl,⟨p,rfl⟩,(E.out.trans t.out).drew.trans k6⟩
    |ok y =>
    obtain⟨b,j⟩:=y;have d:=V.out;rw[hsum]at d u;simp only[bnd]at d;have a9:=hid d;clear d;refine u.out.mono ?_
    unfold SumE
    rintro e F ⟨rfl,k6,h6,a5,aq⟩;have L:Kept [rb] m F:=(Kept.refl _ _).drew.trans k6;have H6:=hid h6;have Z:=hid ((a0.out.kept L (by simp;omega)).lt);refine hK.out _ _ L (fun hH=>?_);clear hK K k6 h6
    (try simp only[Act.put,List.setIfInBounds_toArray,List.set_cons_zero,List.set_cons_succ])
    have n:∀ {p:Addr} {v:Value},wr.cell? p=some v->p.block≠rb->F.cell? p=some v:=fun h hne=>((a6.out.trans L).cell (World.block_lt_of_cell? wr _ h) (by simpa using hne)).trans h;have X:=hid (uf sm b F hsm a5);obtain⟨p,hp⟩:∃p,aJ b sm 1=p:=⟨_,rfl⟩;rw[hp]at X;have d:=a9.out;rw[hp]at d;have a8:=hid d;clear d n hp;refine ai (rs:=[6]) (by kernel_rfl) (by simp) ?_;refine ae.cons rfl (fun K hK=>?_) ae.nil;go_simp;refine X.out.mono ?_;rintro e w7 ⟨v,rfl,k7,cs,rfl,r⟩;have K7:Kept [rb] m w7:=L.trans (k7.mono (by simp))
    have ao:w.heap.size<=F.heap.size:=by have:=L.size;have:=t.out.size;have:=E.out.size;omega
    have h7:=H6.out.step k7;have A:=hid (bW pos hpos _ p cs w7 (Nat.le_refl _) h7 r.get);obtain⟨pk,pl,pr,pc,G⟩:=p;obtain⟨pa,O,rfl,_⟩:=r.get.rows;have a7:=hid r;have H7:=hid h7;refine hK.out _ _ K7 (fun hH=>?_);clear hK K k7 r h7 L
    (try simp only[Act.put,List.setIfInBounds_toArray,List.set_cons_zero,List.set_cons_succ])
    refine ai (rs:=[8]) (by kernel_rfl) (by simp) ?_;refine ae.cons rfl (fun K hK=>?_) ae.nil;go_simp;have d:=a8.out
    unfold chk at d
    cases hrg:aW (.node pk pl pr pc G)
    ·rw[hrg]at d A;simp only[Bool.false_eq_true,if_false]at d;subst d;refine A.out.mono ?_
     unfold RngE
     rintro e D ⟨⟨q,rfl⟩,P⟩;exact⟨rfl,⟨q,rfl⟩,((E.out.trans t.out).trans K7).trans (P.mono (by simp))⟩
    ·rw[hrg]at d A;simp only[if_true]at d;subst d;refine A.out.mono ?_
     unfold RngE
     rintro e D ⟨rfl,P⟩;have K8:Kept [rb] m D:=K7.trans (P.mono (by simp));refine hK.out _ _ K8 (fun hH=>?_);clear hK K
     (try simp only[Act.put,List.setIfInBounds_toArray,List.set_cons_zero,List.set_cons_succ])
     have f:=a0.out.kept K8 (by simp;omega);have c0:D.cell? ⟨w.heap.size+1,0,none⟩=some (.int .i64 0):=f.cell 0;have c1:D.cell? ⟨w.heap.size+1,1,none⟩=some (.string ⟨#[]⟩):=f.cell 1;have c2:D.cell? ⟨w.heap.size+1,2,none⟩=some (.string ⟨#[]⟩):=f.cell 2;have c3:D.cell? ⟨w.heap.size+1,3,none⟩=some (.int .i64 0):=f.cell 3;have c4:D.cell? ⟨w.heap.size+1,4,none⟩=some (.slice none 0 0):=f.cell 4;have f0:=f.frozen 0;have f1:=f.frozen 1;have f2:=f.frozen 2;have f3:=f.frozen 3;have f4:=f.frozen 4;have aa:=hid f;have ab:Hid (w.heap.size+2<=F.heap.size):=hid (by have:=Z.out;omega);have Y:=hid P;have U:=hid ((E.out.trans t.out).trans K8);clear f P K8 K7 s0 s1 s2;refine ai (rs:=[9]) (by kernel_rfl) (by simp) ?_;refine ae.last rfl (by kernel_rfl) (fun K hK=>?_);go_simp;refine hK.out _ _ ?_;clear hK K
     (try simp only[Act.put,List.setIfInBounds_toArray,List.set_cons_zero,List.set_cons_succ])
     refine ak (by kernel_rfl) ?_ _;go_wp2_with fail;refine cU (((((aa.out.set_ 0 _).set_ 1 _).set_ 2 _).set_ 3 _).set_ 4 _) rfl rfl ?_;have kF:=(((((Kept.refl [w.heap.size+1] D).setCell (p:=⟨w.heap.size+1,0,none⟩) (Or.inl (by simp)) (.int .i64 pk)).setCell (p:=⟨w.heap.size+1,1,none⟩) (Or.inl (by simp)) (.string ⟨pl.toArray⟩)).setCell (p:=⟨w.heap.size+1,2,none⟩) (Or.inl (by simp)) (.string ⟨pr.toArray⟩)).setCell (p:=⟨w.heap.size+1,3,none⟩) (Or.inl (by simp)) (.int .i64 pc)).setCell (p:=⟨w.heap.size+1,4,none⟩) (Or.inl (by simp)) (.slice pa G.length O);refine⟨_,rfl,U.out.fresh kF (fun y hy=>by rw[List.mem_singleton]at hy;omega),(H7.out.step Y.out).far kF (fun y hy=>by rw[List.mem_singleton]at hy;omega),?_⟩;exact⟨[.int .i64 pk,.string ⟨pl.toArray⟩,.string ⟨pr.toArray⟩,.int .i64 pc,.slice pa G.length O],rfl,((a7.out.step (X':=List.range F.heap.size) Y.out (fun y hy _=>by simp at hy) (fun y hy=>Or.inl hy)).step (X':=List.range w.heap.size) kF (fun y hy _=>by rw[List.mem_singleton]at hy;have:=U.out.size;exact List.mem_range.2 (by have:=ab.out;omega)) (fun y hy=>Or.inl (List.mem_range.2 (by have:=List.mem_range.1 hy;omega))))⟩
  ·have c0:wr.cell? ⟨H+4,8,none⟩=some (.string ⟨#[61]⟩):=N.out.cell 8;have c1:wr.cell? ⟨H+4,9,none⟩=some (.func (.func 257) #[] #[.pointer (some ⟨H,0,none⟩),.pointer (some ⟨H+1,0,none⟩)]):=N.out.cell 9;go_upto_region 4 with(fail);obtain⟨g,hg⟩:∃g,wr.heap.size=g:=⟨_,rfl⟩;obtain⟨wa,o⟩:∃x,wr.alloc (.cells #[.string ⟨#[61]⟩,.func (.func 257) #[] #[.pointer (some ⟨H,0,none⟩),.pointer (some ⟨H+1,0,none⟩)]] 283)=x:=⟨_,rfl⟩;rw[o,hg];have kA:Kept [] wr wa:=o▸(Kept.refl _ _).alloc _;have bA:Blk wa g 283 #[.string ⟨#[61]⟩,.func (.func 257) #[] #[.pointer (some ⟨H,0,none⟩),.pointer (some ⟨H+1,0,none⟩)]]:=hg▸o▸Blk.new _ _ _
   have ap:w.heap.size+2<=g:=by have:=a4.out.lt;omega
   have y0:wa.cell? ⟨g,0,none⟩=some (.string ⟨#[61]⟩):=bA.cell 0;have M:=hid (aQ (ac.out.step kA) [61]);have J:=hid kA;have a1:=hid bA;clear o kA bA c0 c1 hg
   cases hs:aI ts [61] n0
   ·rw[hs]at M;go_wp2_with (go_at_call 115;refine M.out.mono ?_;rintro e m ⟨rfl,C,h5⟩)
    go_roundw
    case rel=>exact⟨5,rfl,by decide,by decide,(a3.out.trans (J.out.mono (by simp))).trans C,h5,dK (k:=4) (s:=([61],fun a b=>.node 1 [] [] 0 [aJ a b 0,aJ b a 0])) rfl a2.out hs⟩
    case measure=>simp[intOf]
   ·rw[hs]at M;have d:=HR.out;rw[gg (k:=4) (s:=([61],fun a b=>.node 1 [] [] 0 [aJ a b 0,aJ b a 0])) rfl a2.out hs]at d
    simp only at d
    have V:=hid d;clear d;go_upto_region 5 with(go_at_call 115;refine M.out.mono ?_;rintro e m ⟨rfl,C,h5⟩);have h5':Ps B W0 rb ts a c z m (n0+1):=h5;have t:=hid ((a3.out.trans (J.out.mono (by simp))).trans C);have a6:=hid ((J.out.mono (by simp):Kept [rb] wr wa).trans C);have T:=(a4.out.kept J.out (by simp)).kept C (by simp;omega);have I:=(ag.out.kept J.out (by simp)).kept C (by simp;omega);have Q:=a1.out.kept C (by simp;omega);have s0:∀w',Kept [rb] m w'->w'.cell? ⟨g,1,none⟩=some (.func (.func 257) #[] #[.pointer (some ⟨H,0,none⟩),.pointer (some ⟨H+1,0,none⟩)]):=fun w' k=>(Q.kept k (by simp;omega)).cell 1;have s1:∀w',Kept [rb] m w'->w'.cell? ⟨w.heap.size,0,none⟩=some (.string ⟨sm.name.toArray⟩):=fun w' k=>(I.kept k (by simp;omega)).cell 0;have s2:∀w',Kept [rb] m w'->w'.cell? ⟨w.heap.size,1,none⟩=some (.int .i64 sm.off):=fun w' k=>(I.kept k (by simp;omega)).cell 1;have u:=hid (eS (h5'.step (Kept.refl [] m).drew));have a0:=hid T;clear T I Q h5 h5' C y0 M a1 J;refine ar [9] (fun w'=>Kept [rb] m w') (by kernel_rfl) (Kept.refl _ _).drew (fun hH=>?_);refine ah [8,9] (i:=0) (v:=?tv0k4) rfl (by kernel_rfl) (by kernel_rfl) (by kernel_rfl) (by kernel_rfl) (fun _ _ _ h=>h) (Or.inl ⟨by rfl,?ty0k4⟩) hH ?tr0k4
    case ty0k4=>intro w' l;(try dsimp only at l);go_simp;first|done|with_reducible rfl
    simp only[Act.put,List.setIfInBounds_toArray,List.set_cons_zero,List.set_cons_succ];refine ah [2,6,8,9] (i:=1) (v:=?tv1k4) rfl (by kernel_rfl) (by kernel_rfl) (by kernel_rfl) (by kernel_rfl) (fun _ _ _ h=>h) (Or.inl ⟨by rfl,?ty1k4⟩) hH ?tr1k4
    case ty1k4=>intro w' l;(try dsimp only at l);go_simp;first|done|with_reducible rfl
    simp only[Act.put,List.setIfInBounds_toArray,List.set_cons_zero,List.set_cons_succ];refine ah [6,8,9] (i:=2) (v:=?tv2k4) rfl (by kernel_rfl) (by kernel_rfl) (by kernel_rfl) (by kernel_rfl) (fun _ _ _ h=>h) (Or.inl ⟨by rfl,?ty2k4⟩) hH ?tr2k4
    case ty2k4=>intro w' l;(try dsimp only at l);go_simp;first|done|with_reducible rfl
    simp only[Act.put,List.setIfInBounds_toArray,List.set_cons_zero,List.set_cons_succ];refine ah [6,8,9] (i:=3) (v:=?tv3k4) rfl (by kernel_rfl) (by kernel_rfl) (by kernel_rfl) (by kernel_rfl) (fun _ _ _ h=>h) (Or.inl ⟨by rfl,?ty3k4⟩) hH ?tr3k4
    case ty3k4=>intro w' l;(try dsimp only at l);go_simp;first|done|with_reducible rfl
    simp only[Act.put,List.setIfInBounds_toArray,List.set_cons_zero,List.set_cons_succ];refine ah [5,6,8,9] (i:=4) (v:=?tv4k4) rfl (by kernel_rfl) (by kernel_rfl) (by kernel_rfl) (by kernel_rfl) (fun _ _ _ h=>h) (Or.inl ⟨by rfl,?ty4k4⟩) hH ?tr4k4
    case ty4k4=>intro w' l;(try dsimp only at l);go_simp;first|done|with_reducible rfl
    simp only[Act.put,List.setIfInBounds_toArray,List.set_cons_zero,List.set_cons_succ];refine ah [8,9] (i:=7) (v:=?tv7k4) rfl (by kernel_rfl) (by kernel_rfl) (by kernel_rfl) (by kernel_rfl) (fun _ _ _ h=>h) (Or.inl ⟨by rfl,?ty7k4⟩) hH ?tr7k4
    case ty7k4=>intro w' l;(try dsimp only at l);go_simp;first|done|with_reducible rfl
    simp only[Act.put,List.setIfInBounds_toArray,List.set_cons_zero,List.set_cons_succ];refine ai (rs:=[5]) (by kernel_rfl) (by simp) ?_;refine ae.cons rfl (fun K hK=>?_) ae.nil;go_simp
    cases hsum:sumP ts (n0+1)with
    |error er =>
     have d:=V.out;rw[hsum]at d u;simp only[bnd]at d;subst d;refine u.out.mono ?_
     unfold SumE
     rintro e F ⟨⟨p,rfl⟩,k6⟩;exact⟨rfl,⟨p,rfl⟩,(E.out.trans t.out).drew.trans k6⟩
    |ok y =>
    obtain⟨b,j⟩:=y;have d:=V.out;rw[hsum]at d u;simp only[bnd]at d;have a9:=hid d;clear d;refine u.out.mono ?_
    unfold SumE
    rintro e F ⟨rfl,k6,h6,a5,aq⟩;have L:Kept [rb] m F:=(Kept.refl _ _).drew.trans k6;have H6:=hid h6;have Z:=hid ((a0.out.kept L (by simp;omega)).lt);refine hK.out _ _ L (fun hH=>?_);clear hK K k6 h6
    (try simp only[Act.put,List.setIfInBounds_toArray,List.set_cons_zero,List.set_cons_succ])
    have n:∀ {p:Addr} {v:Value},wr.cell? p=some v->p.block≠rb->F.cell? p=some v:=fun h hne=>((a6.out.trans L).cell (World.block_lt_of_cell? wr _ h) (by simpa using hne)).trans h;have X:=hid (nN sm b 1 0 _ _ F hsm a5 (by decide) (n Y0.out (by show H≠rb;omega)) (n Y1.out (by show H+1≠rb;omega)));obtain⟨p,hp⟩:∃p,Pd.node 1 [] [] 0 [aJ sm b 0,aJ b sm 0]=p:=⟨_,rfl⟩;rw[hp]at X;have d:=a9.out;rw[hp]at d;have a8:=hid d;clear d n hp;refine ai (rs:=[6]) (by kernel_rfl) (by simp) ?_;refine ae.cons rfl (fun K hK=>?_) ae.nil;go_simp;refine X.out.mono ?_;rintro e w7 ⟨v,rfl,k7,cs,rfl,r⟩;have K7:Kept [rb] m w7:=L.trans (k7.mono (by simp))
    have ao:w.heap.size<=F.heap.size:=by have:=L.size;have:=t.out.size;have:=E.out.size;omega
    have h7:=H6.out.step k7;have A:=hid (bW pos hpos _ p cs w7 (Nat.le_refl _) h7 r.get);obtain⟨pk,pl,pr,pc,G⟩:=p;obtain⟨pa,O,rfl,_⟩:=r.get.rows;have a7:=hid r;have H7:=hid h7;refine hK.out _ _ K7 (fun hH=>?_);clear hK K k7 r h7 L
    (try simp only[Act.put,List.setIfInBounds_toArray,List.set_cons_zero,List.set_cons_succ])
    refine ai (rs:=[8]) (by kernel_rfl) (by simp) ?_;refine ae.cons rfl (fun K hK=>?_) ae.nil;go_simp;have d:=a8.out
    unfold chk at d
    cases hrg:aW (.node pk pl pr pc G)
    ·rw[hrg]at d A;simp only[Bool.false_eq_true,if_false]at d;subst d;refine A.out.mono ?_
     unfold RngE
     rintro e D ⟨⟨q,rfl⟩,P⟩;exact⟨rfl,⟨q,rfl⟩,((E.out.trans t.out).trans K7).trans (P.mono (by simp))⟩
    ·rw[hrg]at d A;simp only[if_true]at d;subst d;refine A.out.mono ?_
     unfold RngE
     rintro e D ⟨rfl,P⟩;have K8:Kept [rb] m D:=K7.trans (P.mono (by simp));refine hK.out _ _ K8 (fun hH=>?_);clear hK K
     (try simp only[Act.put,List.setIfInBounds_toArray,List.set_cons_zero,List.set_cons_succ])
     have f:=a0.out.kept K8 (by simp;omega);have c0:D.cell? ⟨w.heap.size+1,0,none⟩=some (.int .i64 0):=f.cell 0;have c1:D.cell? ⟨w.heap.size+1,1,none⟩=some (.string ⟨#[]⟩):=f.cell 1;have c2:D.cell? ⟨w.heap.size+1,2,none⟩=some (.string ⟨#[]⟩):=f.cell 2;have c3:D.cell? ⟨w.heap.size+1,3,none⟩=some (.int .i64 0):=f.cell 3;have c4:D.cell? ⟨w.heap.size+1,4,none⟩=some (.slice none 0 0):=f.cell 4;have f0:=f.frozen 0;have f1:=f.frozen 1;have f2:=f.frozen 2;have f3:=f.frozen 3;have f4:=f.frozen 4;have aa:=hid f;have ab:Hid (w.heap.size+2<=F.heap.size):=hid (by have:=Z.out;omega);have Y:=hid P;have U:=hid ((E.out.trans t.out).trans K8);clear f P K8 K7 s0 s1 s2;refine ai (rs:=[9]) (by kernel_rfl) (by simp) ?_;refine ae.last rfl (by kernel_rfl) (fun K hK=>?_);go_simp;refine hK.out _ _ ?_;clear hK K
     (try simp only[Act.put,List.setIfInBounds_toArray,List.set_cons_zero,List.set_cons_succ])
     refine ak (by kernel_rfl) ?_ _;go_wp2_with fail;refine cU (((((aa.out.set_ 0 _).set_ 1 _).set_ 2 _).set_ 3 _).set_ 4 _) rfl rfl ?_;have kF:=(((((Kept.refl [w.heap.size+1] D).setCell (p:=⟨w.heap.size+1,0,none⟩) (Or.inl (by simp)) (.int .i64 pk)).setCell (p:=⟨w.heap.size+1,1,none⟩) (Or.inl (by simp)) (.string ⟨pl.toArray⟩)).setCell (p:=⟨w.heap.size+1,2,none⟩) (Or.inl (by simp)) (.string ⟨pr.toArray⟩)).setCell (p:=⟨w.heap.size+1,3,none⟩) (Or.inl (by simp)) (.int .i64 pc)).setCell (p:=⟨w.heap.size+1,4,none⟩) (Or.inl (by simp)) (.slice pa G.length O);refine⟨_,rfl,U.out.fresh kF (fun y hy=>by rw[List.mem_singleton]at hy;omega),(H7.out.step Y.out).far kF (fun y hy=>by rw[List.mem_singleton]at hy;omega),?_⟩;exact⟨[.int .i64 pk,.string ⟨pl.toArray⟩,.string ⟨pr.toArray⟩,.int .i64 pc,.slice pa G.length O],rfl,((a7.out.step (X':=List.range F.heap.size) Y.out (fun y hy _=>by simp at hy) (fun y hy=>Or.inl hy)).step (X':=List.range w.heap.size) kF (fun y hy _=>by rw[List.mem_singleton]at hy;have:=U.out.size;exact List.mem_range.2 (by have:=ab.out;omega)) (fun y hy=>Or.inl (List.mem_range.2 (by have:=List.mem_range.1 hy;omega))))⟩
  ·have c0:wr.cell? ⟨H+4,10,none⟩=some (.string ⟨#[33,61]⟩):=N.out.cell 10;have c1:wr.cell? ⟨H+4,11,none⟩=some (.func (.func 257) #[] #[.pointer (some ⟨H+2,0,none⟩),.pointer (some ⟨H+3,0,none⟩)]):=N.out.cell 11;go_upto_region 4 with(fail);obtain⟨g,hg⟩:∃g,wr.heap.size=g:=⟨_,rfl⟩;obtain⟨wa,o⟩:∃x,wr.alloc (.cells #[.string ⟨#[33,61]⟩,.func (.func 257) #[] #[.pointer (some ⟨H+2,0,none⟩),.pointer (some ⟨H+3,0,none⟩)]] 283)=x:=⟨_,rfl⟩;rw[o,hg];have kA:Kept [] wr wa:=o▸(Kept.refl _ _).alloc _;have bA:Blk wa g 283 #[.string ⟨#[33,61]⟩,.func (.func 257) #[] #[.pointer (some ⟨H+2,0,none⟩),.pointer (some ⟨H+3,0,none⟩)]]:=hg▸o▸Blk.new _ _ _
   have ap:w.heap.size+2<=g:=by have:=a4.out.lt;omega
   have y0:wa.cell? ⟨g,0,none⟩=some (.string ⟨#[33,61]⟩):=bA.cell 0;have M:=hid (aQ (ac.out.step kA) [33,61]);have J:=hid kA;have a1:=hid bA;clear o kA bA c0 c1 hg
   cases hs:aI ts [33,61] n0
   ·rw[hs]at M;go_wp2_with (go_at_call 115;refine M.out.mono ?_;rintro e m ⟨rfl,C,h5⟩)
    go_roundw
    case rel=>exact⟨6,rfl,by decide,by decide,(a3.out.trans (J.out.mono (by simp))).trans C,h5,dK (k:=5) (s:=([33,61],fun a b=>.node 2 [] [] 0 [aJ a b 1,aJ b a 1])) rfl a2.out hs⟩
    case measure=>simp[intOf]
   ·rw[hs]at M;have d:=HR.out;rw[gg (k:=5) (s:=([33,61],fun a b=>.node 2 [] [] 0 [aJ a b 1,aJ b a 1])) rfl a2.out hs]at d
    simp only at d
    have V:=hid d;clear d;go_upto_region 5 with(go_at_call 115;refine M.out.mono ?_;rintro e m ⟨rfl,C,h5⟩);have h5':Ps B W0 rb ts a c z m (n0+1):=h5;have t:=hid ((a3.out.trans (J.out.mono (by simp))).trans C);have a6:=hid ((J.out.mono (by simp):Kept [rb] wr wa).trans C);have T:=(a4.out.kept J.out (by simp)).kept C (by simp;omega);have I:=(ag.out.kept J.out (by simp)).kept C (by simp;omega);have Q:=a1.out.kept C (by simp;omega);have s0:∀w',Kept [rb] m w'->w'.cell? ⟨g,1,none⟩=some (.func (.func 257) #[] #[.pointer (some ⟨H+2,0,none⟩),.pointer (some ⟨H+3,0,none⟩)]):=fun w' k=>(Q.kept k (by simp;omega)).cell 1;have s1:∀w',Kept [rb] m w'->w'.cell? ⟨w.heap.size,0,none⟩=some (.string ⟨sm.name.toArray⟩):=fun w' k=>(I.kept k (by simp;omega)).cell 0;have s2:∀w',Kept [rb] m w'->w'.cell? ⟨w.heap.size,1,none⟩=some (.int .i64 sm.off):=fun w' k=>(I.kept k (by simp;omega)).cell 1;have u:=hid (eS (h5'.step (Kept.refl [] m).drew));have a0:=hid T;clear T I Q h5 h5' C y0 M a1 J;refine ar [9] (fun w'=>Kept [rb] m w') (by kernel_rfl) (Kept.refl _ _).drew (fun hH=>?_);refine ah [8,9] (i:=0) (v:=?tv0k5) rfl (by kernel_rfl) (by kernel_rfl) (by kernel_rfl) (by kernel_rfl) (fun _ _ _ h=>h) (Or.inl ⟨by rfl,?ty0k5⟩) hH ?tr0k5
    case ty0k5=>intro w' l;(try dsimp only at l);go_simp;first|done|with_reducible rfl
    simp only[Act.put,List.setIfInBounds_toArray,List.set_cons_zero,List.set_cons_succ];refine ah [2,6,8,9] (i:=1) (v:=?tv1k5) rfl (by kernel_rfl) (by kernel_rfl) (by kernel_rfl) (by kernel_rfl) (fun _ _ _ h=>h) (Or.inl ⟨by rfl,?ty1k5⟩) hH ?tr1k5
    case ty1k5=>intro w' l;(try dsimp only at l);go_simp;first|done|with_reducible rfl
    simp only[Act.put,List.setIfInBounds_toArray,List.set_cons_zero,List.set_cons_succ];refine ah [6,8,9] (i:=2) (v:=?tv2k5) rfl (by kernel_rfl) (by kernel_rfl) (by kernel_rfl) (by kernel_rfl) (fun _ _ _ h=>h) (Or.inl ⟨by rfl,?ty2k5⟩) hH ?tr2k5
    case ty2k5=>intro w' l;(try dsimp only at l);go_simp;first|done|with_reducible rfl
    simp only[Act.put,List.setIfInBounds_toArray,List.set_cons_zero,List.set_cons_succ];refine ah [6,8,9] (i:=3) (v:=?tv3k5) rfl (by kernel_rfl) (by kernel_rfl) (by kernel_rfl) (by kernel_rfl) (fun _ _ _ h=>h) (Or.inl ⟨by rfl,?ty3k5⟩) hH ?tr3k5
    case ty3k5=>intro w' l;(try dsimp only at l);go_simp;first|done|with_reducible rfl
    simp only[Act.put,List.setIfInBounds_toArray,List.set_cons_zero,List.set_cons_succ];refine ah [5,6,8,9] (i:=4) (v:=?tv4k5) rfl (by kernel_rfl) (by kernel_rfl) (by kernel_rfl) (by kernel_rfl) (fun _ _ _ h=>h) (Or.inl ⟨by rfl,?ty4k5⟩) hH ?tr4k5
    case ty4k5=>intro w' l;(try dsimp only at l);go_simp;first|done|with_reducible rfl
    simp only[Act.put,List.setIfInBounds_toArray,List.set_cons_zero,List.set_cons_succ];refine ah [8,9] (i:=7) (v:=?tv7k5) rfl (by kernel_rfl) (by kernel_rfl) (by kernel_rfl) (by kernel_rfl) (fun _ _ _ h=>h) (Or.inl ⟨by rfl,?ty7k5⟩) hH ?tr7k5
    case ty7k5=>intro w' l;(try dsimp only at l);go_simp;first|done|with_reducible rfl
    simp only[Act.put,List.setIfInBounds_toArray,List.set_cons_zero,List.set_cons_succ];refine ai (rs:=[5]) (by kernel_rfl) (by simp) ?_;refine ae.cons rfl (fun K hK=>?_) ae.nil;go_simp
    cases hsum:sumP ts (n0+1)with
    |error er =>
     have d:=V.out;rw[hsum]at d u;simp only[bnd]at d;subst d;refine u.out.mono ?_
     unfold SumE
     rintro e F ⟨⟨p,rfl⟩,k6⟩;exact⟨rfl,⟨p,rfl⟩,(E.out.trans t.out).drew.trans k6⟩
    |ok y =>
    obtain⟨b,j⟩:=y;have d:=V.out;rw[hsum]at d u;simp only[bnd]at d;have a9:=hid d;clear d;refine u.out.mono ?_
    unfold SumE
    rintro e F ⟨rfl,k6,h6,a5,aq⟩;have L:Kept [rb] m F:=(Kept.refl _ _).drew.trans k6;have H6:=hid h6;have Z:=hid ((a0.out.kept L (by simp;omega)).lt);refine hK.out _ _ L (fun hH=>?_);clear hK K k6 h6
    (try simp only[Act.put,List.setIfInBounds_toArray,List.set_cons_zero,List.set_cons_succ])
    have n:∀ {p:Addr} {v:Value},wr.cell? p=some v->p.block≠rb->F.cell? p=some v:=fun h hne=>((a6.out.trans L).cell (World.block_lt_of_cell? wr _ h) (by simpa using hne)).trans h;have X:=hid (nN sm b 2 1 _ _ F hsm a5 (by decide) (n Y2.out (by show H+2≠rb;omega)) (n Y3.out (by show H+3≠rb;omega)));obtain⟨p,hp⟩:∃p,Pd.node 2 [] [] 0 [aJ sm b 1,aJ b sm 1]=p:=⟨_,rfl⟩;rw[hp]at X;have d:=a9.out;rw[hp]at d;have a8:=hid d;clear d n hp;refine ai (rs:=[6]) (by kernel_rfl) (by simp) ?_;refine ae.cons rfl (fun K hK=>?_) ae.nil;go_simp;refine X.out.mono ?_;rintro e w7 ⟨v,rfl,k7,cs,rfl,r⟩;have K7:Kept [rb] m w7:=L.trans (k7.mono (by simp))
    have ao:w.heap.size<=F.heap.size:=by have:=L.size;have:=t.out.size;have:=E.out.size;omega
    have h7:=H6.out.step k7;have A:=hid (bW pos hpos _ p cs w7 (Nat.le_refl _) h7 r.get);obtain⟨pk,pl,pr,pc,G⟩:=p;obtain⟨pa,O,rfl,_⟩:=r.get.rows;have a7:=hid r;have H7:=hid h7;refine hK.out _ _ K7 (fun hH=>?_);clear hK K k7 r h7 L
    (try simp only[Act.put,List.setIfInBounds_toArray,List.set_cons_zero,List.set_cons_succ])
    refine ai (rs:=[8]) (by kernel_rfl) (by simp) ?_;refine ae.cons rfl (fun K hK=>?_) ae.nil;go_simp;have d:=a8.out
    unfold chk at d
    cases hrg:aW (.node pk pl pr pc G)
    ·rw[hrg]at d A;simp only[Bool.false_eq_true,if_false]at d;subst d;refine A.out.mono ?_
     unfold RngE
     rintro e D ⟨⟨q,rfl⟩,P⟩;exact⟨rfl,⟨q,rfl⟩,((E.out.trans t.out).trans K7).trans (P.mono (by simp))⟩
    ·rw[hrg]at d A;simp only[if_true]at d;subst d;refine A.out.mono ?_
     unfold RngE
     rintro e D ⟨rfl,P⟩;have K8:Kept [rb] m D:=K7.trans (P.mono (by simp));refine hK.out _ _ K8 (fun hH=>?_);clear hK K
     (try simp only[Act.put,List.setIfInBounds_toArray,List.set_cons_zero,List.set_cons_succ])
     have f:=a0.out.kept K8 (by simp;omega);have c0:D.cell? ⟨w.heap.size+1,0,none⟩=some (.int .i64 0):=f.cell 0;have c1:D.cell? ⟨w.heap.size+1,1,none⟩=some (.string ⟨#[]⟩):=f.cell 1;have c2:D.cell? ⟨w.heap.size+1,2,none⟩=some (.string ⟨#[]⟩):=f.cell 2;have c3:D.cell? ⟨w.heap.size+1,3,none⟩=some (.int .i64 0):=f.cell 3;have c4:D.cell? ⟨w.heap.size+1,4,none⟩=some (.slice none 0 0):=f.cell 4;have f0:=f.frozen 0;have f1:=f.frozen 1;have f2:=f.frozen 2;have f3:=f.frozen 3;have f4:=f.frozen 4;have aa:=hid f;have ab:Hid (w.heap.size+2<=F.heap.size):=hid (by have:=Z.out;omega);have Y:=hid P;have U:=hid ((E.out.trans t.out).trans K8);clear f P K8 K7 s0 s1 s2;refine ai (rs:=[9]) (by kernel_rfl) (by simp) ?_;refine ae.last rfl (by kernel_rfl) (fun K hK=>?_);go_simp;refine hK.out _ _ ?_;clear hK K
     (try simp only[Act.put,List.setIfInBounds_toArray,List.set_cons_zero,List.set_cons_succ])
     refine ak (by kernel_rfl) ?_ _;go_wp2_with fail;refine cU (((((aa.out.set_ 0 _).set_ 1 _).set_ 2 _).set_ 3 _).set_ 4 _) rfl rfl ?_;have kF:=(((((Kept.refl [w.heap.size+1] D).setCell (p:=⟨w.heap.size+1,0,none⟩) (Or.inl (by simp)) (.int .i64 pk)).setCell (p:=⟨w.heap.size+1,1,none⟩) (Or.inl (by simp)) (.string ⟨pl.toArray⟩)).setCell (p:=⟨w.heap.size+1,2,none⟩) (Or.inl (by simp)) (.string ⟨pr.toArray⟩)).setCell (p:=⟨w.heap.size+1,3,none⟩) (Or.inl (by simp)) (.int .i64 pc)).setCell (p:=⟨w.heap.size+1,4,none⟩) (Or.inl (by simp)) (.slice pa G.length O);refine⟨_,rfl,U.out.fresh kF (fun y hy=>by rw[List.mem_singleton]at hy;omega),(H7.out.step Y.out).far kF (fun y hy=>by rw[List.mem_singleton]at hy;omega),?_⟩;exact⟨[.int .i64 pk,.string ⟨pl.toArray⟩,.string ⟨pr.toArray⟩,.int .i64 pc,.slice pa G.length O],rfl,((a7.out.step (X':=List.range F.heap.size) Y.out (fun y hy _=>by simp at hy) (fun y hy=>Or.inl hy)).step (X':=List.range w.heap.size) kF (fun y hy _=>by rw[List.mem_singleton]at hy;have:=U.out.size;exact List.mem_range.2 (by have:=ab.out;omega)) (fun y hy=>Or.inl (List.mem_range.2 (by have:=List.mem_range.1 hy;omega))))⟩
end Go.Proofs.YtpcmamoomaddoaaGreatDoor
