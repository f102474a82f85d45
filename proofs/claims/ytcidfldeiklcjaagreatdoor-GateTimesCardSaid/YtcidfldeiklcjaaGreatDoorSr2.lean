import Derived.Test.YtcidfldeiklcjaaGreatDoorApo
set_option maxRecDepth 100000
set_option maxHeartbeats 32000000
namespace Go.Proofs.YtcidfldeiklcjaaGreatDoor
open Go.RowKit ShaP
open Go.Proofs.Tryz
open Lib(hid)
theorem zb:(prog.info? 145).map (fun i=>(i.zero,i.size,i.bytes))=some (some (.int .u32 0),1,4):=by kernel_rfl
theorem oY(w:World)(x:Value)(T:TypeId):∀j u,[x][j]?=some u->(w.alloc (.cells #[x] T)).cell? ((⟨w.heap.size,0,none⟩:Addr).add j)=some u:=by
 intro j u hu;rw[cP,World.cell?_alloc_new,Nat.zero_add]
 simpa using hu
theorem gy{l:List W}{k:Nat}(h:k < l.length):(wvs l)[k]?=some (wv (l.getD k 0)):=by simp[wvs,h,List.getD]
theorem qV(v:Value)(bs:List UInt8)(w:World)(hv:Row w 1 v 64 (bcs bs)) :
  Calls prog 254 #[v] w fun e w'=>(∃v',e=.returned v'/\w'.ownsRow w.heap.size 145 1 v' 64 (wvs (ay bs 64)))/\Kept [] w w':=by
 obtain⟨O,_⟩:=hv;have hv:Row w 1 v 64 (bcs bs):=⟨O,by assumption⟩
 have O:bs.length=64:=by simpa [bcs]using O
 obtain⟨a,c,rfl,_,cv⟩:=hv.form;obtain⟨ba,oa,rfl,T⟩:=hv.at_ (by omega);have c4:ba < w.heap.size:=World.block_lt_of_cell? w _ (T 0 _ (dG (l:=bs) (k:=0) (by omega)));have a5:∀wr,Kept [] w wr->∀j u,(bcs bs)[j]?=some u->wr.cell? ⟨ba,oa+j,none⟩=some u:=fun wr hk j u hu=>(hk.cell (p:=⟨ba,oa+j,none⟩) c4 (by simp)).trans (T j u hu);have cq:=hid a5;obtain⟨iw,hi,N,M,L⟩:=info_parts zb;clear hv T a5
 go_enter func254,ntmps254
 go_upto_region 3 with(fail)
 go_loopw [3,4] (fun v i wr=>∃k:Nat,k<=16/\i=k/\wr.ownsRow w.heap.size 145 1 v k (wvs (ay bs k))/\Kept [] w wr) (fun _ i _=>64 - (intOf i).toNat)
 case atStart=>exact⟨0,by omega,rfl,World.ownsRow_nil _ _ _ _,kr⟩
 case round =>
  obtain⟨k,hk,rfl,b,o⟩:=hrel;obtain⟨ao,co,rfl⟩:=aG b;have bx:=o.size;have g:=hid b;clear b
  by_cases hlt:k < 16
  ·have U:=cq wr o;have x0:=U _ _ (dG (l:=bs) (k:=4*k) (by omega));have x1:=U _ _ (dG (l:=bs) (k:=4*k+1) (by omega));have x2:=U _ _ (dG (l:=bs) (k:=4*k+2) (by omega));have x3:=U _ _ (dG (l:=bs) (k:=4*k+3) (by omega));have t0:=jB (bs.getD (4*k) 0);have t1:=jB (bs.getD (4*k+1) 0);have t2:=jB (bs.getD (4*k+2) 0);have t3:=jB (bs.getD (4*k+3) 0);have HY:=hid (xx bs k);obtain⟨z0,N⟩:=nm (zx (bs.getD (4*k) 0));obtain⟨z1,M⟩:=nm (zx (bs.getD (4*k+1) 0));obtain⟨z2,L⟩:=nm (zx (bs.getD (4*k+2) 0));obtain⟨z3,b9⟩:=nm (zx (bs.getD (4*k+3) 0));rw[N]at x0 t0 HY;rw[M]at x1 t1 HY;rw[L]at x2 t2 HY;rw[b9]at x3 t3 HY;clear N M L b9 U;go_upto_region 5 with(fail);have ca:=sx t0;have cb:=sy t1;have e8:=we t2;have o1:=or_w (z0 <<< 24) (z1 <<< 16);have o2:=or_w (z0 <<< 24 |||z1 <<< 16) (z2 <<< 8);have o3:=or_w (z0 <<< 24 |||z1 <<< 16 |||z2 <<< 8) z3;rw[<-HY.out]at o3;have lA:=(z0 <<< 24).isLt;have lB:=(z1 <<< 16).isLt;have lC:=(z2 <<< 8).isLt;have wA:=iZ (z0 <<< 24);have wB:=iZ (z1 <<< 16);have wC:=iZ (z2 <<< 8);obtain⟨A,hA⟩:=nm ((z0 <<< 24).toNat);obtain⟨B,hB⟩:=nm ((z1 <<< 16).toNat);obtain⟨C,hC⟩:=nm ((z2 <<< 8).toNat);obtain⟨E,hE⟩:=nm ((z0 <<< 24 |||z1 <<< 16).toNat);obtain⟨F,hF⟩:=nm ((z0 <<< 24 |||z1 <<< 16 |||z2 <<< 8).toNat);obtain⟨G,hG⟩:=nm ((by4 bs k).toNat);obtain⟨Z0,aa⟩:=nm z0.toNat;obtain⟨Z1,a9⟩:=nm z1.toNat;obtain⟨Z2,a7⟩:=nm z2.toNat;obtain⟨Z3,a6⟩:=nm z3.toNat
   rw[hA]at lA wA;rw[hB]at lB wB;rw[hC]at lC wC;rw[aa,hA]at ca;rw[a9,hB]at cb;rw[a7,hC]at e8;rw[hA,hB,hE]at o1;rw[hE,hC,hF]at o2;rw[hF,a6,hG]at o3;rw[aa]at x0 t0;rw[a9]at x1 t1;rw[a7]at x2 t2;rw[a6]at x3 t3;have cm:=hid hG;clear hA hB hC hE hF aa a9 a7 a6 hG;obtain⟨m0,bk⟩:=nm (4*k);obtain⟨m1,bh⟩:=nm (4*k+1);obtain⟨m2,bd⟩:=nm (4*k+2);obtain⟨m3,bc⟩:=nm (4*k+3);rw[bk]at x0;rw[bh]at x1;rw[bd]at x2;rw[bc]at x3
   have i0:IntKind.i64.wrap (4*(k:Int))=(m0:Int):=by rw[IntKind.wrap_i64];omega
   have i1:IntKind.i64.wrap ((m0:Int)+1)=(m1:Int):=by rw[IntKind.wrap_i64];omega
   have i2:IntKind.i64.wrap ((m0:Int)+2)=(m2:Int):=by rw[IntKind.wrap_i64];omega
   have i3:IntKind.i64.wrap ((m0:Int)+3)=(m3:Int):=by rw[IntKind.wrap_i64];omega
   have c0:m0 < 64:=by omega
   have c1:m1 < 64:=by omega
   have c2:m2 < 64:=by omega
   have c3:m3 < 64:=by omega
   have w0:IntKind.u32.wrap (Z0:Int)=(Z0:Int):=by rw[ShaP.kJ];omega
   have w1:IntKind.u32.wrap (Z1:Int)=(Z1:Int):=by rw[ShaP.kJ];omega
   have w2:IntKind.u32.wrap (Z2:Int)=(Z2:Int):=by rw[ShaP.kJ];omega
   have w3:IntKind.u32.wrap (Z3:Int)=(Z3:Int):=by rw[ShaP.kJ];omega
   clear bk bh bd bc
   have n0:(m0:Int) < 64:=by omega
   have n1:(m1:Int) < 64:=by omega
   have n2:(m2:Int) < 64:=by omega
   have n3:(m3:Int) < 64:=by omega
   have nk:(k:Int) < 64:=by omega
   have z:ay bs (k+1)=ay bs k++[by4 bs k]:=by show ay bs k++[_]=_;rw[if_pos hlt]
   have b4:=hid z;clear z
   have NB:(Value.slice ao k co).ownBlock≠some ba:=fun h=>by have:=(g.out.lt ba h).1;omega
   go_region_held3 (fun w'=>w'.cell? ⟨ba,oa+m0,none⟩=some (.int .u8 (Z0:Int))/\w'.cell? ⟨ba,oa+m1,none⟩=some (.int .u8 (Z1:Int))/\w'.cell? ⟨ba,oa+m2,none⟩=some (.int .u8 (Z2:Int))/\w'.cell? ⟨ba,oa+m3,none⟩=some (.int .u8 (Z3:Int)))
    (first
     |go_keep
     |(go_split_ands
       refine⟨?_,?_,?_,?_⟩ <;> (rw[a0.cell_far _ (by simp;omega) (Ne.symm NB)];assumption)))
    ((refine step_append_lies _ (by rfl) _ _ _ (by rfl) w.heap.size 145 iw _ 1 4 underlying258 hi N M L rfl (by omega) _ k (wvs (ay bs k)) (by rfl) ((g.out.alloc _).drew) ⟨wr.heap.size,0,none⟩ 1 1 [.int .u32 (G:Int)] (by rfl) (by rfl) (World.news_of_block (cs:=#[.int .u32 (G:Int)]) (t:=145) (fr:=(0,0)) (heap_alloc_new wr _)) (by simp[Value.oneCell']) (by omega) (by unfold maxLen;omega) (by omega) (by simp;omega) (wr.heap.size+1) (by simp) ?_;intro gg cc w2 d a0 c5 bl))
   go_wp2_with fail
   go_roundw
   case rel=>exact⟨k+1,by omega,by go_num,by rw[b4.out];unfold wvs at d ⊢;rw[List.map_append,List.map_singleton,wv,cm.out];exact d,((o.alloc _).drew).grown a0 (fun x hx=>Or.inr (g.out.lt x hx).1)⟩
   case measure=>simp[intOf];omega
  ·obtain rfl:k=16:=by omega
   rw[show((16:Nat):Int)=16 from rfl];go_upto_region 7 with(fail)
   go_loopw [3,5,6,7,8,9] (fun v i _ _ _ _ wr=>∃k:Nat,16<=k/\k<=64/\i=k/\wr.ownsRow w.heap.size 145 1 v k (wvs (ay bs k))/\Kept [] w wr) (fun _ i _ _ _ _ _=>64 - (intOf i).toNat)
   case atStart=>exact⟨16,by omega,by omega,rfl,g.out,o⟩
   case round =>
    obtain⟨k,ct,hk,rfl,b,o⟩:=hrel;obtain⟨gb,cp,rfl,d6,bm⟩:=b.form (by omega);have bx:=o.size;have g:=hid b
    by_cases hlt:k < 64
    ·have hl:=bg bs k
     have c6:¬k < 16:=by omega
     have f:∀j,j < k->wr.cell? ⟨gb,j,none⟩=some (wv ((ay bs k).getD j 0)):=fun j hj=>by
      have:=b.cells rfl j _ (gy (l:=ay bs k) (k:=j) (by omega));rw[cP,Nat.zero_add]at this;exact this
     have z:ay bs (k+1)=ay bs k++[more (ay bs k)]:=by show ay bs k++[_]=_;rw[if_neg c6]
     have J:=f (k - 15) (by omega);have y2:=f (k - 2) (by omega);have I:=f (k - 16) (by omega);have y7:=f (k - 7) (by omega)
     have hm:more (ay bs k)=(ay bs k).getD (k - 16) 0+sig0 ((ay bs k).getD (k - 15) 0)+(ay bs k).getD (k - 7) 0+sig1 ((ay bs k).getD (k - 2) 0):=by unfold more;rw[hl]
     obtain⟨p,hp⟩:=nm ((ay bs k).getD (k - 15) 0);obtain⟨q,hq⟩:=nm ((ay bs k).getD (k - 2) 0);obtain⟨r,hr⟩:=nm ((ay bs k).getD (k - 16) 0);obtain⟨s,hs⟩:=nm ((ay bs k).getD (k - 7) 0);rw[hp,hq,hr,hs]at hm;rw[hp]at J;rw[hq]at y2;rw[hr]at I;rw[hs]at y7;rw[hm]at z;have b4:=hid z;obtain⟨b0,c9⟩:=nm (k - 15);obtain⟨g2,h2⟩:=nm (k - 2);obtain⟨n,h16'⟩:∃m,k - 16=m:=⟨_,rfl⟩;obtain⟨g7,h7⟩:=nm (k - 7);rw[c9]at J;rw[h2]at y2;rw[h16']at I;rw[h7]at y7
     have d4:IntKind.i64.wrap ((k:Int) - 15)=(b0:Int):=by rw[IntKind.wrap_i64];omega
     have i2:IntKind.i64.wrap ((k:Int) - 2)=(g2:Int):=by rw[IntKind.wrap_i64];omega
     have d3:IntKind.i64.wrap ((k:Int) - 16)=(n:Int):=by rw[IntKind.wrap_i64];omega
     have i7:IntKind.i64.wrap ((k:Int) - 7)=(g7:Int):=by rw[IntKind.wrap_i64];omega
     have bv:(k:Int) - 15=(b0:Int):=by omega
     have j2:(k:Int) - 2=(g2:Int):=by omega
     have bt:(k:Int) - 16=(n:Int):=by omega
     have j7:(k:Int) - 7=(g7:Int):=by omega
     have d2:(b0:Int) < (k:Int):=by omega
     have n2:(g2:Int) < (k:Int):=by omega
     have d1:(n:Int) < (k:Int):=by omega
     have n7:(g7:Int) < (k:Int):=by omega
     have nk:(k:Int) < 64:=by omega
     have x1:=ck (rotr p 7) (rotr p 18);have x2:=ck (rotr p 7 ^^^ rotr p 18) (p >>> 3);have x3:=ck (rotr q 17) (rotr q 19);have x4:=ck (rotr q 17 ^^^ rotr q 19) (q >>> 10);have s3:=vv p;have bq:=sm q;have a1:=cn r (sig0 p);have a2:=cn (r+sig0 p) s;have a3:=cn (r+sig0 p+s) (sig1 q);have E0:Hid (rotr p 7 ^^^ rotr p 18 ^^^ p >>> 3=sig0 p):=rfl;have E1:Hid (rotr q 17 ^^^ rotr q 19 ^^^ q >>> 10=sig1 q):=rfl;rw[E0.out]at x2;rw[E1.out]at x4;have R7:Hid (∀w,Calls prog 256 #[wv p,.int .i64 7] w fun e w'=>e=.returned (wv (rotr p 7))/\Kept [] w w'):=fun w=>cz p 7 w (by omega) (by omega);have b2:Hid (∀w,Calls prog 256 #[wv p,.int .i64 18] w fun e w'=>e=.returned (wv (rotr p 18))/\Kept [] w w'):=fun w=>cz p 18 w (by omega) (by omega);have b3:Hid (∀w,Calls prog 256 #[wv q,.int .i64 17] w fun e w'=>e=.returned (wv (rotr q 17))/\Kept [] w w'):=fun w=>cz q 17 w (by omega) (by omega);have b1:Hid (∀w,Calls prog 256 #[wv q,.int .i64 19] w fun e w'=>e=.returned (wv (rotr q 19))/\Kept [] w w'):=fun w=>cz q 19 w (by omega) (by omega)
     unfold wv at J y2 I y7 R7 b2 b3 b1
     clear E0 E1;obtain⟨P,hP⟩:=nm ((p).toNat);obtain⟨Q,hQ⟩:=nm ((q).toNat);obtain⟨R,hR⟩:=nm ((r).toNat);obtain⟨S,hS⟩:=nm ((s).toNat);obtain⟨A7,av⟩:=nm ((rotr p 7).toNat);obtain⟨da,Y⟩:=nm ((rotr p 18).toNat);obtain⟨db,Z⟩:=nm ((rotr q 17).toNat);obtain⟨d9,X⟩:=nm ((rotr q 19).toNat);obtain⟨X0,ad⟩:=nm ((rotr p 7 ^^^ rotr p 18).toNat);obtain⟨X1,ac⟩:=nm ((rotr q 17 ^^^ rotr q 19).toNat);obtain⟨Y3,ab⟩:=nm ((p >>> 3).toNat);obtain⟨d8,V⟩:=nm ((q >>> 10).toNat);obtain⟨G0,ap⟩:=nm ((sig0 p).toNat);obtain⟨G1,an⟩:=nm ((sig1 q).toNat);obtain⟨T1,am⟩:=nm ((r+sig0 p).toNat);obtain⟨T2,al⟩:=nm ((r+sig0 p+s).toNat);obtain⟨T3,ah⟩:=nm ((r+sig0 p+s+sig1 q).toNat);rw[hP]at J;rw[hQ]at y2;rw[hR]at I;rw[hS]at y7;rw[hP,av]at R7;rw[hP,Y]at b2;rw[hQ,Z]at b3;rw[hQ,X]at b1;rw[av,Y,ad]at x1;rw[ad,ab,ap]at x2;rw[Z,X,ac]at x3;rw[ac,V,an]at x4;rw[hP,ab]at s3;rw[hQ,V]at bq;rw[hR,ap,am]at a1;rw[am,hS,al]at a2;rw[al,an,ah]at a3;have cd:=hid ah;clear hP hQ hR hS av Y Z X ad ac ab V ap an am al ah;clear f z b hm;go_upto_region 11 with(fail)
     go_upto_region 13 with(first
      |(go_at_call 256;((with_reducible refine(R7.out _).mono ?_));rintro e w7 ⟨rfl,k7⟩)
      |(go_at_call 256;((with_reducible refine(b2.out _).mono ?_));rintro e cx ⟨rfl,b6⟩)
      |(go_at_call 256;((with_reducible refine(b3.out _).mono ?_));rintro e cy ⟨rfl,b7⟩)
      |(go_at_call 256;((with_reducible refine(b1.out _).mono ?_));rintro e y ⟨rfl,b5⟩))
     have D:Kept [] wr y:=((k7.trans b6).trans b7).trans b5;have a4:=af g.out D (by simp);have bo:wr.cell? ⟨gb,n,none⟩=y.cell? ⟨gb,n,none⟩:=(D.cell (p:=⟨gb,n,none⟩) bm (by simp)).symm;have L7:wr.cell? ⟨gb,g7,none⟩=y.cell? ⟨gb,g7,none⟩:=(D.cell (p:=⟨gb,g7,none⟩) bm (by simp)).symm;rw[bo]at I;rw[L7]at y7;have cg:=hid a4;have cl:=hid (o.trans D);have d5:=D.size
     have cu:gb < y.heap.size:=by omega
     have d7:n < k:=by omega
     have c7:g7 < k:=by omega
     have d0:(0:Int)<=(n:Int):=Int.natCast_nonneg _;have o7:(0:Int)<=(g7:Int):=Int.natCast_nonneg _;clear bt j7 bv j2 bo L7 J y2 D a4 k7 b6 b7 b5
     go_region_held3 (fun w'=>w'.cell? ⟨gb,n,none⟩=some (.int .u32 (R:Int))/\w'.cell? ⟨gb,g7,none⟩=some (.int .u32 (S:Int)))
      (first
       |go_keep
       |(go_split_ands
         refine⟨?_,?_⟩ <;> (rw[bb _ (by omega)];assumption)))
      ((refine jh (by rfl) _ _ _ (by rfl) w.heap.size 145 iw _ 4 underlying258 hi N M L rfl gb k cp (wvs (ay bs k)) (by rfl) ((cg.alloc _).drew) ⟨y.heap.size,0,none⟩ 1 1 [.int .u32 (T3:Int)] (by rfl) (by rfl) (World.news_of_block (cs:=#[.int .u32 (T3:Int)]) (t:=145) (fr:=(0,0)) (heap_alloc_new y _)) (by simp[Value.oneCell']) (by omega) (by unfold maxLen;omega) (by omega) (by simp;omega) (y.heap.size+1) (by simp) ?_;intro gg cc w2 d a0 c5 bl bb))
     go_wp2_with fail
     go_roundw
     case rel=>exact⟨k+1,by omega,by omega,by go_num,by rw[b4.out];unfold wvs at d ⊢;rw[List.map_append,List.map_singleton,wv,cd.out];exact d,((cl.out.alloc _).drew).grown a0 (fun x hx=>Or.inr (by simp at hx;omega))⟩
     case measure=>simp[intOf];omega
    ·obtain rfl:k=64:=by omega
     go_wp2_with fail;go_ret;exact⟨⟨_,rfl,b⟩,o⟩
structure St8 (w:World) (B:Nat) (l:List W):Prop where
 lt:B < w.heap.size
 cell:∀j,j < 8->w.cell? ⟨B,j,none⟩=some (wv (l.getD j 0))
 fz:∀j,j < 8->w.frozen? ⟨B,j,none⟩=false
theorem St8.of_own{w:World}{base B cp:Nat}{T:TypeId}{l:List W}(h:w.ownsRow base T 1 (.slice (some ⟨B,0,none⟩) 8 cp) 8 (wvs l))(hl:l.length=8):St8 w B l:=by
 refine⟨(h.lt B rfl).2,fun j hj=>?_,fun j hj=>?_⟩
 ·have:=h.cells rfl j _ (gy (l:=l) (k:=j) (by omega));rw[cP,Nat.zero_add]at this;exact this
 ·rcases h.2 with⟨h0,_⟩|⟨g,cap,cur,hv,_,hg,_⟩
  ·cases h0
  injection hv with e1 _ e3;injection e1 with e1;injection e1 with e1 _ _;subst e1
  simp[World.frozen?,hg]
theorem St8.of_blk{w:World}{B:Nat}{T:TypeId}{l:List W}(h:Blk w B T (wvs l).toArray)(hl:l.length=8):St8 w B l := ⟨h.lt,fun j hj=>(h.cell j).trans (jZ (by omega)),fun j _=>h.frozen j⟩
theorem St8.kept{S:List Nat}{w w':World}{B:Nat}{l:List W}(h:St8 w B l)(k:Kept S w w')(hB:B∉S):St8 w' B l := ⟨Nat.lt_of_lt_of_le h.lt k.size,fun j hj=>(k.cell (p:=⟨B,j,none⟩) h.lt hB).trans (h.cell j hj),fun j hj=>(k.frozen (p:=⟨B,j,none⟩) h.lt hB).trans (h.fz j hj)⟩
theorem St8.row{w:World}{B cp:Nat}{l:List W}(h:St8 w B l)(hl:l.length=8)(hc:8<=cp):Row w 1 (.slice (some ⟨B,0,none⟩) 8 cp) 8 (wvs l):=by
 refine⟨by simp[wvs,hl],by omega,_,_,rfl,hc,fun _=>⟨B,0,rfl,fun k u hu=>?_⟩⟩
 have hk:k < 8:=by
  have:=(List.getElem?_eq_some_iff.1 hu).1
  simpa [wvs,hl]using this
 rw[gy (l:=l) (k:=k) (by omega)]at hu;rw[Nat.zero_add,h.cell k hk];exact hu
theorem tW(s h:S8)(i:Nat)(hi:i < 8):(mixL s h i).getD i 0=s.list.getD i 0:=by
 rcases(by omega:i=0\/i=1\/i=2\/i=3\/i=4\/i=5\/i=6\/i=7)with rfl|rfl|rfl|rfl|rfl|rfl|rfl|rfl <;> rfl
theorem tV(s h:S8)(i j:Nat)(hi:i < 8)(hj:j < 8):(mixL s h (i+1)).getD j 0=if j=i then s.list.getD i 0+h.list.getD i 0 else(mixL s h i).getD j 0:=by
 simp only[mixL,List.getD,List.getElem?_map,List.getElem?_range hj,Option.map_some,Option.getD_some]
 by_cases e:j=i
 ·subst e;simp
 ·rw[if_neg e]
  by_cases h2:j < i
  ·rw[if_pos h2,if_pos (by omega)]
  ·rw[if_neg h2,if_neg (by omega)]
theorem St8.set_{w:World}{B i:Nat}{s h:S8}(hs:St8 w B (mixL s h i))(hi:i < 8):St8 (w.setCell ⟨B,i,none⟩ (wv (s.list.getD i 0+h.list.getD i 0))) B (mixL s h (i+1)):=by
 refine⟨by simpa using hs.lt,fun j hj=>?_,fun j hj=>by rw[World.frozen?_setCell];exact hs.fz j hj⟩;rw[tV s h i j hi hj]
 by_cases e:j=i
 ·subst e;rw[if_pos rfl,World.cell?_setCell_same _ _ _ (hs.cell j hj)]
 ·rw[if_neg e,World.cell?_setCell_other _ _ _ _ (fun h=>e (by injection h with _ h2 _;exact h2.symm))];exact hs.cell j hj
theorem wD:kTab.length=64:=by kernel_rfl
theorem S8.len(s:S8):s.list.length=8:=rfl
theorem rj(hv v:Value)(h:S8)(bs:List UInt8)(w:World)(hh:Row w 1 hv 8 (wvs h.list))(hvv:Row w 1 v 64 (bcs bs)) :
  Calls prog 242 #[hv,v] w fun e w'=>∃B cp,e=.returned (.slice (some ⟨B,0,none⟩) 8 cp)/\8<=cp/\w.heap.size<=B/\St8 w' B (ShaP.mix h bs).list/\Kept [] w w':=by
 obtain⟨ah,d1,rfl,_,d8⟩:=hh.form;obtain⟨bh,oh,rfl,ad⟩:=hh.at_ (by omega);have ac:bh < w.heap.size:=World.block_lt_of_cell? w _ (ad 0 _ (gy (l:=h.list) (k:=0) (by rw[S8.len];omega)));have co:Hid (∀wr,Kept [] w wr->∀j,j < 8->wr.cell? ⟨bh,oh+j,none⟩=some (wv (h.list.getD j 0))):=fun wr hk j hj=>(hk.cell (p:=⟨bh,oh+j,none⟩) ac (by simp)).trans (ad j _ (gy (l:=h.list) (k:=j) (by rw[S8.len];omega)));have HR:=hid hvv;obtain⟨iw,hi,cu,ct,cs⟩:=info_parts zb;clear hh hvv ad
 go_enter func242,ntmps242
 go_upto_region 1 with(fail);go_wp2_with (go_at_call 254;refine(qV v bs _ HR).mono ?_);rintro e w1 ⟨⟨v5,rfl,o5⟩,k1⟩;obtain⟨b5,c5,rfl,d9,a9⟩:=o5.form (by omega);go_wp2_with (go_at_call 255;refine(xD _).mono ?_);rintro e G ⟨rfl,a6⟩;have k2:Kept [] w1 G:=a6▸kr.alloc _;have z6:Blk G w1.heap.size 145 (wvs kTab).toArray:=a6▸Blk.new _ _ _
 have z5:∀j,j < 64->G.cell? ⟨b5,j,none⟩=some (wv ((ay bs 64).getD j 0)):=fun j hj=>by
  have:=o5.cells rfl j _ (gy (l:=ay bs 64) (k:=j) (by rw[bg];omega));rw[cP,Nat.zero_add]at this;exact(k2.cell (p:=⟨b5,j,none⟩) a9 (by simp)).trans this
 generalize cy:w1.heap.size=b6 at z6 ⊢
 have d6:b6 < G.heap.size:=z6.lt;have hl5':b5 < G.heap.size:=Nat.lt_of_lt_of_le a9 k2.size;have K2:=hid (k1.trans k2);have Z5:=hid z5;have Z6:=hid z6;have c9:w.heap.size<=G.heap.size:=(k1.trans k2).size;clear z5 z6 k1 k2 a6 cy o5 a9;have cm:=hid (co G K2)
 have cg:Hid (∀ob j u,(wvs h.list)[j]?=some u->(G.alloc ob).cell? ((⟨bh,oh,none⟩:Addr).add j)=some u):=fun ob j u hu=>by
  have hj:j < 8:=by have:=(List.getElem?_eq_some_iff.1 hu).1;simpa [wvs,S8.len]using this
  rw[gy (l:=h.list) (k:=j) (by rw[S8.len];omega)]at hu;rw[cP];exact((((Kept.refl [] G).alloc ob).cell (p:=⟨bh,oh+j,none⟩) (Nat.lt_of_lt_of_le ac c9) (by simp)).trans (cm.out j hj)).trans hu
 go_upto_region 4 with(at_builtin;refine wpList_append_grows _ rfl _ _ _ rfl 145 iw (.int .u32 0) 1 4 underlying258 hi cu ct cs rfl (by decide) (some ⟨G.heap.size,0,none⟩) 0 0 [] rfl (by simp) rfl (by intro b _ j u hu;simp at hu) ⟨bh,oh,none⟩ 8 d1 (wvs h.list) rfl rfl (cg.out _) (by intro u hu;exact(by simp only[wvs,List.mem_map]at hu;obtain⟨y,_,rfl⟩:=hu;rfl)) (by omega) (by unfold maxLen;omega) (by omega) ?_;intro v7 R o7 g7);rw[List.nil_append,Nat.zero_add]at o7;rw[World.size_alloc]at o7;obtain⟨B7,cd,rfl,db,d5⟩:=o7.form (by omega);have c7:=St8.of_own o7 (S8.len h)
 have cb:8<=cd:=by
  have:=(Row.of_own o7 (by omega)).form;obtain⟨a,c,hvv,_,h2⟩:=this;injection hvv with _ _ e3;omega
 have k3:Kept [] G R:=(kr.alloc _).grown g7 (fun k h=>by cases h);have d2:=hid c7;have K3:=hid k3;clear c7 k3 o7 g7 cg cm;go_upto_region 5 with(fail)
 go_loopw [7,8,9,10,11,12,13] (fun v7 v8 _ _ _ _ _ wr=>∃(k B cp:Nat),k<=64/\v8=k/\v7=.slice (some ⟨B,0,none⟩) 8 cp/\8<=cp/\w.heap.size<=B/\St8 wr B (cF h (ay bs 64) k).list/\Kept [] G wr) (fun _ v8 _ _ _ _ _ _=>64 - (intOf v8).toNat)
 case atStart=>exact⟨0,B7,cd,by omega,rfl,rfl,cb,by omega,d2.out,K3.out⟩
 case round =>
  obtain⟨k,B,cp,hk,rfl,rfl,cx,hB,m,D⟩:=hrel
  by_cases hlt:k < 64
  ·have hn:(cF h (ay bs 64) (k+1))=ShaP.step (cF h (ay bs 64) k) (kTab.getD k 0) ((ay bs 64).getD k 0):=rfl;have xk:wr.cell? ⟨b6,k,none⟩=some (wv (kTab.getD k 0)):=((Z6.out.kept D (by simp)).cell k).trans (jZ (by rw[wD];omega));have xw:wr.cell? ⟨b5,k,none⟩=some (wv ((ay bs 64).getD k 0)):=(D.cell (p:=⟨b5,k,none⟩) hl5' (by simp)).trans (Z5.out k hlt);obtain⟨s,hs⟩:=nm (cF h (ay bs 64) k);obtain⟨t,ab⟩:=nm (kTab.getD k 0);obtain⟨A,I⟩:=nm ((ay bs 64).getD k 0);rw[hs,ab,I]at hn;rw[hs]at m;rw[ab]at xk;rw[I]at xw;have x0:wr.cell? ⟨B,0,none⟩=some (wv s.a):=m.cell 0 (by omega);have x1:wr.cell? ⟨B,1,none⟩=some (wv s.b):=m.cell 1 (by omega);have Z:wr.cell? ⟨B,2,none⟩=some (wv s.c):=m.cell 2 (by omega);have x3:wr.cell? ⟨B,3,none⟩=some (wv s.d):=m.cell 3 (by omega);have x4:wr.cell? ⟨B,4,none⟩=some (wv s.e):=m.cell 4 (by omega);have x5:wr.cell? ⟨B,5,none⟩=some (wv s.f):=m.cell 5 (by omega);have x6:wr.cell? ⟨B,6,none⟩=some (wv s.g):=m.cell 6 (by omega);have x7:wr.cell? ⟨B,7,none⟩=some (wv s.h):=m.cell 7 (by omega)
   have HN:Hid (wvs (cF h (ay bs 64) (k+1)).list=[wv (tmp s t A+(rotr s.a 2 ^^^ rotr s.a 13 ^^^ rotr s.a 22)+maj s.a s.b s.c),wv s.a,wv s.b,wv s.c,wv (s.d+tmp s t A),wv s.e,wv s.f,wv s.g]):=by rw[hn];rfl
   clear hs ab I hn m;have f1:=ck (rotr s.e 6) (rotr s.e 11);have f2:=ck (rotr s.e 6 ^^^ rotr s.e 11) (rotr s.e 25);have f3:=jO s.e s.f;have f4:bits .xor .u32 (if IntKind.u32.signed=true then -1 else IntKind.u32.max) (s.e.toNat:Int)=((~~~s.e).toNat:Int):=not_w s.e;have f5:=jO (~~~s.e) s.g;have cc:=ck (s.e &&& s.f) (~~~s.e &&& s.g);have c1:(s.e &&& s.f) ^^^ (~~~s.e &&& s.g)=ch s.e s.f s.g:=rfl;rw[c1]at cc;have f6:=cn s.h (rotr s.e 6 ^^^ rotr s.e 11 ^^^ rotr s.e 25);have f7:=cn (s.h+(rotr s.e 6 ^^^ rotr s.e 11 ^^^ rotr s.e 25)) (ch s.e s.f s.g);have f8:=cn (s.h+(rotr s.e 6 ^^^ rotr s.e 11 ^^^ rotr s.e 25)+ch s.e s.f s.g) t;have f9:=cn (s.h+(rotr s.e 6 ^^^ rotr s.e 11 ^^^ rotr s.e 25)+ch s.e s.f s.g+t) A;have ft:s.h+(rotr s.e 6 ^^^ rotr s.e 11 ^^^ rotr s.e 25)+ch s.e s.f s.g+t+A=tmp s t A:=rfl;rw[ft]at f9;have g1:=ck (rotr s.a 2) (rotr s.a 13);have g2:=ck (rotr s.a 2 ^^^ rotr s.a 13) (rotr s.a 22);have g3:=jO s.a s.b;have g4:=jO s.a s.c;have g5:=ck (s.a &&& s.b) (s.a &&& s.c);have d0:=jO s.b s.c;have g6:=ck ((s.a &&& s.b) ^^^ (s.a &&& s.c)) (s.b &&& s.c);have c2:(s.a &&& s.b) ^^^ (s.a &&& s.c) ^^^ (s.b &&& s.c)=maj s.a s.b s.c:=rfl;rw[c2]at g6;have g7:=cn (tmp s t A) (rotr s.a 2 ^^^ rotr s.a 13 ^^^ rotr s.a 22);have g8:=cn (tmp s t A+(rotr s.a 2 ^^^ rotr s.a 13 ^^^ rotr s.a 22)) (maj s.a s.b s.c);have g9:=cn s.d (tmp s t A);clear ft c1 c2;have R6:Hid (∀w,Calls prog 256 #[wv s.e,.int .i64 6] w fun e w'=>e=.returned (wv (rotr s.e 6))/\Kept [] w w'):=fun w=>cz s.e 6 w (by omega) (by omega)
   have c6:Hid (∀w,Calls prog 256 #[wv s.e,.int .i64 11] w fun e w'=>e=.returned (wv (rotr s.e 11))/\Kept [] w w'):=fun w=>cz s.e 11 w (by omega) (by omega);have c0:Hid (∀w,Calls prog 256 #[wv s.e,.int .i64 25] w fun e w'=>e=.returned (wv (rotr s.e 25))/\Kept [] w w'):=fun w=>cz s.e 25 w (by omega) (by omega);have R2:Hid (∀w,Calls prog 256 #[wv s.a,.int .i64 2] w fun e w'=>e=.returned (wv (rotr s.a 2))/\Kept [] w w'):=fun w=>cz s.a 2 w (by omega) (by omega);have c4:Hid (∀w,Calls prog 256 #[wv s.a,.int .i64 13] w fun e w'=>e=.returned (wv (rotr s.a 13))/\Kept [] w w'):=fun w=>cz s.a 13 w (by omega) (by omega);have c3:Hid (∀w,Calls prog 256 #[wv s.a,.int .i64 22] w fun e w'=>e=.returned (wv (rotr s.a 22))/\Kept [] w w'):=fun w=>cz s.a 22 w (by omega) (by omega)
   unfold wv at x0 x1 Z x3 x4 x5 x6 x7 xk xw HN R6 c6 c0 R2 c4 c3
   obtain⟨VA,r⟩:=nm ((s.a).toNat);obtain⟨VB,M⟩:=nm ((s.b).toNat);obtain⟨VC,L⟩:=nm ((s.c).toNat);obtain⟨VD,b2⟩:=nm ((s.d).toNat);obtain⟨VE,o⟩:=nm ((s.e).toNat);obtain⟨VF,V⟩:=nm ((s.f).toNat);obtain⟨VG,U⟩:=nm ((s.g).toNat);obtain⟨VH,b1⟩:=nm ((s.h).toNat);obtain⟨KK,bk⟩:=nm ((t).toNat);obtain⟨WW,b0⟩:=nm ((A).toNat);obtain⟨E6,bm⟩:=nm ((rotr s.e 6).toNat);obtain⟨dd,O⟩:=nm ((rotr s.e 11).toNat);obtain⟨dc,N⟩:=nm ((rotr s.e 25).toNat);obtain⟨X1,av⟩:=nm ((rotr s.e 6 ^^^ rotr s.e 11).toNat);obtain⟨X2,ap⟩:=nm ((rotr s.e 6 ^^^ rotr s.e 11 ^^^ rotr s.e 25).toNat);obtain⟨EF,bl⟩:=nm ((s.e &&& s.f).toNat);obtain⟨NE,ba⟩:=nm ((~~~s.e).toNat);obtain⟨NG,b9⟩:=nm ((~~~s.e &&& s.g).toNat);obtain⟨CH,bo⟩:=nm ((ch s.e s.f s.g).toNat);obtain⟨U1,b7⟩:=nm ((s.h+(rotr s.e 6 ^^^ rotr s.e 11 ^^^ rotr s.e 25)).toNat);obtain⟨U2,b4⟩:=nm ((s.h+(rotr s.e 6 ^^^ rotr s.e 11 ^^^ rotr s.e 25)+ch s.e s.f s.g).toNat);obtain⟨U3,b3⟩:=nm ((s.h+(rotr s.e 6 ^^^ rotr s.e 11 ^^^ rotr s.e 25)+ch s.e s.f s.g+t).toNat);obtain⟨TT,X⟩:=nm ((tmp s t A).toNat);obtain⟨A2,bx⟩:=nm ((rotr s.a 2).toNat);obtain⟨dg,Q⟩:=nm ((rotr s.a 13).toNat);obtain⟨de,P⟩:=nm ((rotr s.a 22).toNat);obtain⟨Y1,an⟩:=nm ((rotr s.a 2 ^^^ rotr s.a 13).toNat);obtain⟨Y2,am⟩:=nm ((rotr s.a 2 ^^^ rotr s.a 13 ^^^ rotr s.a 22).toNat);obtain⟨AB,bv⟩:=nm ((s.a &&& s.b).toNat);obtain⟨AC,bt⟩:=nm ((s.a &&& s.c).toNat);obtain⟨XM,ao⟩:=nm (((s.a &&& s.b) ^^^ (s.a &&& s.c)).toNat);obtain⟨BC,bq⟩:=nm ((s.b &&& s.c).toNat)
   obtain⟨MJ,bd⟩:=nm ((maj s.a s.b s.c).toNat);obtain⟨Z1,al⟩:=nm ((tmp s t A+(rotr s.a 2 ^^^ rotr s.a 13 ^^^ rotr s.a 22)).toNat);obtain⟨NA,bc⟩:=nm ((tmp s t A+(rotr s.a 2 ^^^ rotr s.a 13 ^^^ rotr s.a 22)+maj s.a s.b s.c).toNat);obtain⟨ND,bb⟩:=nm ((s.d+tmp s t A).toNat);rw[bm,O,av]at f1;rw[av,N,ap]at f2;rw[o,V,bl]at f3;rw[o,ba]at f4;rw[ba,U,b9]at f5;rw[bl,b9,bo]at cc;rw[b1,ap,b7]at f6;rw[b7,bo,b4]at f7;rw[b4,bk,b3]at f8;rw[b3,b0,X]at f9;rw[bx,Q,an]at g1;rw[an,P,am]at g2;rw[r,M,bv]at g3;rw[r,L,bt]at g4;rw[bv,bt,ao]at g5;rw[M,L,bq]at d0;rw[ao,bq,bd]at g6;rw[X,am,al]at g7;rw[al,bd,bc]at g8;rw[b2,X,bb]at g9;rw[o,bm]at R6;rw[o,O]at c6;rw[o,N]at c0;rw[r,bx]at R2;rw[r,Q]at c4;rw[r,P]at c3;rw[r]at x0;rw[M]at x1;rw[L]at Z;rw[b2]at x3;rw[o]at x4;rw[V]at x5;rw[U]at x6;rw[b1]at x7;rw[bk]at xk;rw[b0]at xw;rw[bc,r,M,L,bb,o,V,U]at HN;clear r M L b2 o V U b1 bk b0 bm O N av ap bl ba b9 bo b7 b4 b3 X bx Q P an am bv bt ao bq bd al bc bb;have X0':Hid (∀w',Kept [] wr w'->_):=Kept.cellOf x0;have X1':Hid (∀w',Kept [] wr w'->_):=Kept.cellOf x1;have X2':Hid (∀w',Kept [] wr w'->_):=Kept.cellOf Z;have X3':Hid (∀w',Kept [] wr w'->_):=Kept.cellOf x3;have X4':Hid (∀w',Kept [] wr w'->_):=Kept.cellOf x4;have X5':Hid (∀w',Kept [] wr w'->_):=Kept.cellOf x5
   have X6':Hid (∀w',Kept [] wr w'->_):=Kept.cellOf x6;have X7':Hid (∀w',Kept [] wr w'->_):=Kept.cellOf x7;have XK':Hid (∀w',Kept [] wr w'->_):=Kept.cellOf xk;have XW':Hid (∀w',Kept [] wr w'->_):=Kept.cellOf xw;clear x0 x1 Z x3 x4 x5 x6 x7 xk xw
   have nk:(k:Int) < 64:=by omega
   go_upto_region 7 with(fail);have y4:=X4'.out
   go_region_held3 (fun w'=>Kept [] wr w') (first|assumption|exact kr.drew|exact Kept.alloc (by assumption) _)
    (first
     |(go_at_call 256;with_reducible refine(ai (W:=wr) (by assumption) (R6.out _)).mono ?_;rintro e R ⟨rfl,F⟩)
     |(go_at_call 256;with_reducible refine(ai (W:=wr) (by assumption) (c6.out _)).mono ?_;rintro e R ⟨rfl,F⟩)
     |(go_at_call 256;with_reducible refine(ai (W:=wr) (by assumption) (c0.out _)).mono ?_;rintro e R ⟨rfl,F⟩))
   clear y4;go_upto_region 8 with(fail);have z3:=F;have y4:=X4'.out _ F;have y5:=X5'.out _ F;have y6:=X6'.out _ F
   go_quiet ((fail))
   go_upto_region 9 with(fail);clear y4 y5 y6;obtain⟨w8,a5⟩:=nm (R.drewN nq);have z8:Kept [] wr w8:=a5▸z3.drewN _;rw[a5];clear a5;have y7:=X7'.out _ z8;have yk:=XK'.out _ z8;have yw:=XW'.out _ z8
   go_quiet ((fail))
   go_upto_region 10 with(fail);clear y7 yk yw;obtain⟨w9,a4⟩:=nm (w8.drewN nq);have z9:Kept [] wr w9:=a4▸z8.drewN _;rw[a4];clear a4;have d4:Kept [] wr w9.drew:=z9.drew;have y0:=X0'.out
   go_region_held3 (fun w'=>Kept [] wr w') (first|assumption|exact kr.drew|exact Kept.alloc (by assumption) _)
    (first
     |(go_at_call 256;with_reducible refine(ai (W:=wr) (by assumption) (R2.out _)).mono ?_;rintro e R ⟨rfl,E⟩)
     |(go_at_call 256;with_reducible refine(ai (W:=wr) (by assumption) (c4.out _)).mono ?_;rintro e R ⟨rfl,E⟩)
     |(go_at_call 256;with_reducible refine(ai (W:=wr) (by assumption) (c3.out _)).mono ?_;rintro e R ⟨rfl,E⟩))
   clear y0;go_upto_region 11 with(fail);have cq:=E;have y0:=X0'.out _ E;have y1:=X1'.out _ E;have y2:=X2'.out _ E
   go_quiet ((fail))
   go_upto_region 12 with(fail);clear y0 y1 y2;obtain⟨C,J⟩:=nm (R.drewN nq);have n:Kept [] wr C:=J▸cq.drewN _;rw[J];clear J;have y0:=X0'.out _ n;have y1:=X1'.out _ n;have y2:=X2'.out _ n;have y3:=X3'.out _ n;have y4:=X4'.out _ n;have y5:=X5'.out _ n;have y6:=X6'.out _ n
   have HB:Hid (St8 ((C.alloc (.cells #[.int .u32 NA,.int .u32 VA,.int .u32 VB,.int .u32 VC,.int .u32 ND,.int .u32 VE,.int .u32 VF,.int .u32 VG] 145)).drew) C.heap.size (cF h (ay bs 64) (k+1)).list) :=
    (St8.of_blk (T:=145) (by rw[HN.out];exact Blk.new _ _ _) (S8.len _)).kept (Kept.refl [] _).drew (by simp)
   have HK:=hid (D.trans ((n.alloc (.cells #[.int .u32 NA,.int .u32 VA,.int .u32 VB,.int .u32 VC,.int .u32 ND,.int .u32 VE,.int .u32 VF,.int .u32 VG] 145)).drew));have a7:w.heap.size<=C.heap.size:=Nat.le_trans c9 (D.trans n).size
   go_still_tail 28,(by kernel_rfl)
   change wpList _ _ _ _ _ C.drew
   go_wp2_with fail
   go_roundw
   case rel=>exact⟨k+1,C.heap.size,8,by omega,by go_num,rfl,by omega,a7,HB.out,HK.out⟩
   case measure=>simp[intOf];omega
  ·obtain rfl:k=64:=by omega
   generalize hs:cF h (ay bs 64) 64=s at m
   have a3:ShaP.mix h bs=plus s h:=by rw[<-hs];rfl
   have a0:St8 wr B (mixL s h 0):=m;have HF:=hid a3;have cl:=hid a0;have d3:=hid D;clear hs m a0 a3 D;rw[show((64:Nat):Int)=64 from rfl];go_upto_region 14 with(fail);have k0:Kept [] w wr:=K2.trans d3;have da:B < wr.heap.size:=cl.lt;have ca:=k0.size;have K0:=hid k0;clear k0;obtain⟨wo,cv⟩:∃wo:World,wo=wr:=⟨_,rfl⟩;subst cv
   go_loopw [14] (fun vi wq=>∃i:Nat,i<=8/\vi=i/\St8 wq B (mixL s h i)/\Kept [B] wo wq) (fun vi _=>8 - (intOf vi).toNat)
   case atStart=>exact⟨0,by omega,rfl,cl.out,kr⟩
   case round =>
    obtain⟨i,d7,rfl,hb,aa⟩:=hrel
    by_cases hlt:i < 8
    ·have x1:wr.cell? ⟨B,i,none⟩=some (wv (s.list.getD i 0)):=(hb.cell i hlt).trans (by rw[tW s h i hlt]);have Z:wr.cell? ⟨bh,oh+i,none⟩=some (wv (h.list.getD i 0)):=(aa.cell (p:=⟨bh,oh+i,none⟩) (Nat.lt_of_lt_of_le ac ca) (by simp;omega)).trans (co.out wo K0.out i hlt);have fz:=hb.fz i hlt;have a2:=hb.set_ hlt;have z:=hid a2;have Y:=hid (aa.setCell (p:=⟨B,i,none⟩) (Or.inl (by simp)) (wv (s.list.getD i 0+h.list.getD i 0)));have a1:=cn (s.list.getD i 0) (h.list.getD i 0);obtain⟨p,hp⟩:=nm (s.list.getD i 0);obtain⟨q,hq⟩:=nm (h.list.getD i 0);rw[hp,hq]at a1 z Y;rw[hp]at x1;rw[hq]at Z
     unfold wv at x1 Z z Y
     obtain⟨PP,hP⟩:=nm p.toNat;obtain⟨QQ,hQ⟩:=nm q.toNat;obtain⟨T,hT⟩:=nm ((p+q).toNat);rw[hP,hQ,hT]at a1;rw[hP]at x1;rw[hQ]at Z;rw[hT]at z Y
     have ni:(i:Int) < 8:=by omega
     clear hp hq hP hQ hT a2 hb;go_upto_region 16 with(fail)
     go_still_tail 12,(by kernel_rfl)
     change wpList _ _ _ _ _ wr.drew
     go_wp2_with fail
     go_roundw
     case rel=>exact⟨i+1,by omega,by go_num,z.out.kept (Kept.refl [] _).drew (by simp),Y.out.drew⟩
     case measure=>simp[intOf];omega
    ·obtain rfl:i=8:=by omega
     rw[qa]at hb;go_wp2_with fail;go_ret;exact⟨B,cp,rfl,cx,hB,by rw[HF.out];exact hb,K0.out.then_ aa (fun x hx hm=>by simp at hm;omega)⟩
end Go.Proofs.YtcidfldeiklcjaaGreatDoor
