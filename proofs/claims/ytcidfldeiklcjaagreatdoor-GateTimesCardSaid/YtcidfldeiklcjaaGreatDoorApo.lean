import Derived.Test.YtcidfldeiklcjaaGreatDoorSh1
import Derived.ArgAppend
import Derived.Lib.ConvBytes
set_option maxRecDepth 100000
set_option maxHeartbeats 32000000
namespace Go.Proofs.YtcidfldeiklcjaaGreatDoor
open Go.RowKit ShaP
open Go.Proofs.Tryz
open Lib(hid)
def bcs(l:List UInt8):List Value:=l.map fun c=>.int .u8 (c.toNat:Int)
theorem dG{l:List UInt8}{k:Nat}(h:k < l.length):(bcs l)[k]?=some (.int .u8 ((zx (l.getD k 0)).toNat:Int)):=by
 rw[oW]
 simp[bcs,h,List.getD]
theorem jB(c:UInt8):(zx c).toNat < 256:=by rw[oW];exact c.toNat_lt
def cV(bs:List UInt8)(k:Nat):Array Value:=(wvs (ay bs k)++List.replicate (64 - k) (Value.int .u32 0)).toArray
theorem eS(bs:List UInt8)(k j:Nat)(h:j < k):(cV bs k)[j]?=some (wv ((ay bs k).getD j 0)):=by
 have hl:=bg bs k
 simp[cV,wvs,List.getElem?_append,hl,h,List.getD]
theorem lh(bs:List UInt8)(k:Nat)(h:k < 64):(cV bs k)[k]?=some (Value.int .u32 0):=by
 have hl:=bg bs k
 simp[cV,wvs,List.getElem?_append,hl,List.getElem?_replicate]
 omega
theorem ld(bs:List UInt8)(k:Nat)(h:k < 64):(cV bs k).setIfInBounds k (wv (if k < 16 then by4 bs k else more (ay bs k)))=cV bs (k+1):=by
 have hl:=bg bs k;obtain⟨j,hj⟩:∃j,64 - k=j+1:=⟨63 - k,by omega⟩
 unfold cV
 rw[hj,show 64 - (k+1)=j by omega,List.replicate_succ]
 show(_:Array Value)=(wvs (ay bs k++[_])++_).toArray
 simp only[List.setIfInBounds_toArray]
 congr 1
 have e:(wvs (ay bs k)).length=k:=by simp[wvs,hl]
 rw[List.set_append_right _ _ (by omega),e,Nat.sub_self,List.set_cons_zero]
 simp[wvs]
theorem nX(v:Value)(bs:List UInt8)(w:World)(hv:Row w 1 v 64 (bcs bs)) :
  Calls prog 183 #[v] w fun e w'=>e=.returned (.agg (wvs (ay bs 64)).toArray)/\Kept [] w w':=by
 obtain⟨j,_⟩:=hv;have hv:Row w 1 v 64 (bcs bs):=⟨j,by assumption⟩
 have j:bs.length=64:=by simpa [bcs]using j
 obtain⟨a,c,rfl,_,bh⟩:=hv.form;have HV:=hid hv;obtain⟨W,hW⟩:=nm (w.alloc (.cells (cV bs 0) 219));have HW:=hid hW;clear hv
 go_enter func183,ntmps183
 go_upto_region 2 with(fail)
 go_loopw [3,4,5,6,7,8] (fun _ _ _ _ _ i wr=>∃k:Nat,k<=64/\i=k/\Blk wr w.heap.size 219 (cV bs k)/\Kept [] w wr) (fun _ _ _ _ _ i _=>64 - (intOf i).toNat)
 case atStart=>exact⟨0,by omega,rfl,by show(World.alloc _ _).heap[_]?=_;rw[heap_alloc_new];kernel_rfl,kr.alloc _⟩
 case round =>
  obtain⟨k,hk,rfl,f,L⟩:=hrel;have HB:=hid f
  by_cases hlt:k < 64
  ·by_cases h16:k < 16
   ·obtain⟨ba,oa,rfl,n⟩:=(HV.out.kept L).at_ (by omega);have fz:=f.frozen k;have x0:=n _ _ (dG (l:=bs) (k:=4*k) (by omega));have x1:=n _ _ (dG (l:=bs) (k:=4*k+1) (by omega));have x2:=n _ _ (dG (l:=bs) (k:=4*k+2) (by omega));have x3:=n _ _ (dG (l:=bs) (k:=4*k+3) (by omega));have xk:wr.cell? ⟨w.heap.size,k,none⟩=(cV bs k)[k]?:=f.cell k;have t0:=jB (bs.getD (4*k) 0);have t1:=jB (bs.getD (4*k+1) 0);have t2:=jB (bs.getD (4*k+2) 0);have t3:=jB (bs.getD (4*k+3) 0);have HY:=hid (xx bs k);obtain⟨U,b1⟩:=nm (zx (bs.getD (4*k) 0));obtain⟨T,b0⟩:=nm (zx (bs.getD (4*k+1) 0));obtain⟨z2,av⟩:=nm (zx (bs.getD (4*k+2) 0));obtain⟨z3,ap⟩:=nm (zx (bs.getD (4*k+3) 0));rw[b1]at x0 t0 HY;rw[b0]at x1 t1 HY;rw[av]at x2 t2 HY;rw[ap]at x3 t3 HY;clear b1 b0 av ap n f;go_upto_region 5 with(fail);have bb:=sx t0;have bc:=sy t1;have e8:=we t2;have o1:=or_w (U <<< 24) (T <<< 16);have o2:=or_w (U <<< 24 |||T <<< 16) (z2 <<< 8);have o3:=or_w (U <<< 24 |||T <<< 16 |||z2 <<< 8) z3;rw[<-HY.out]at o3;have D:=ld bs k hlt;rw[if_pos h16]at D;have b:=HB.set_ k (wv (by4 bs k));rw[D]at b;have d:=hid b;have b6:=L.setCell (p:=⟨w.heap.size,k,none⟩) (Or.inr (Nat.le_refl _)) (wv (by4 bs k));have g:=hid b6;rw[lh bs k hlt]at xk;obtain⟨A,hA⟩:=nm ((U <<< 24).toNat);obtain⟨B,hB⟩:=nm ((T <<< 16).toNat);obtain⟨C,hC⟩:=nm ((z2 <<< 8).toNat);obtain⟨E,hE⟩:=nm ((U <<< 24 |||T <<< 16).toNat)
    obtain⟨F,hF⟩:=nm ((U <<< 24 |||T <<< 16 |||z2 <<< 8).toNat);obtain⟨G,hG⟩:=nm ((by4 bs k).toNat);obtain⟨Z0,a0⟩:=nm U.toNat;obtain⟨Z1,Z⟩:=nm T.toNat;obtain⟨Z2,Y⟩:=nm z2.toNat;obtain⟨Z3,X⟩:=nm z3.toNat
    unfold wv at d g
    rw[a0,hA]at bb;rw[Z,hB]at bc;rw[Y,hC]at e8;rw[hA,hB,hE]at o1;rw[hE,hC,hF]at o2;rw[hF,X,hG]at o3;rw[hG]at d g;rw[a0]at x0 t0;rw[Z]at x1 t1;rw[Y]at x2 t2;rw[X]at x3 t3;clear hA hB hC hE hF hG a0 Z Y X b b6 D;obtain⟨m0,b5⟩:=nm (4*k);obtain⟨m1,b4⟩:=nm (4*k+1);obtain⟨m2,b3⟩:=nm (4*k+2);obtain⟨m3,b2⟩:=nm (4*k+3);rw[b5]at x0;rw[b4]at x1;rw[b3]at x2;rw[b2]at x3
    have i0:IntKind.i64.wrap (4*(k:Int))=(m0:Int):=by rw[IntKind.wrap_i64];omega
    have i1:IntKind.i64.wrap ((m0:Int)+1)=(m1:Int):=by rw[IntKind.wrap_i64];omega
    have i2:IntKind.i64.wrap ((m0:Int)+2)=(m2:Int):=by rw[IntKind.wrap_i64];omega
    have i3:IntKind.i64.wrap ((m0:Int)+3)=(m3:Int):=by rw[IntKind.wrap_i64];omega
    have c0:m0 < 64:=by omega
    have c1:m1 < 64:=by omega
    have c2:m2 < 64:=by omega
    have c3:m3 < 64:=by omega
    have w0:IntKind.u32.wrap (Z0:Int)=(Z0:Int):=by rw[ShaP.kJ];omega
    have w1:IntKind.u32.wrap (Z1:Int)=(Z1:Int):=by rw[ShaP.kJ];omega
    have w2:IntKind.u32.wrap (Z2:Int)=(Z2:Int):=by rw[ShaP.kJ];omega
    have w3:IntKind.u32.wrap (Z3:Int)=(Z3:Int):=by rw[ShaP.kJ];omega
    clear b5 b4 b3 b2
    have n0:(m0:Int) < 64:=by omega
    have n1:(m1:Int) < 64:=by omega
    have n2:(m2:Int) < 64:=by omega
    have n3:(m3:Int) < 64:=by omega
    have nk:(k:Int) < 64:=by omega
    go_still_tail 35,(by kernel_rfl)
    change wpList _ _ _ _ _ wr.drew
    go_wp2_with fail
    go_roundw
    case rel=>exact⟨k+1,by omega,by go_num,d.out.drew,g.out.drew⟩
    case measure=>simp[intOf];omega
   ·have bd:16<=k:=by omega
    have hl:=bg bs k;have fz:=f.frozen k;have xk:wr.cell? ⟨w.heap.size,k,none⟩=(cV bs k)[k]?:=f.cell k;rw[lh bs k hlt]at xk;have J:wr.cell? ⟨w.heap.size,k - 15,none⟩=_:=(f.cell (k - 15)).trans (eS bs k (k - 15) (by omega));have y2:wr.cell? ⟨w.heap.size,k - 2,none⟩=_:=(f.cell (k - 2)).trans (eS bs k (k - 2) (by omega));have I:wr.cell? ⟨w.heap.size,k - 16,none⟩=_:=(f.cell (k - 16)).trans (eS bs k (k - 16) (by omega));have y7:wr.cell? ⟨w.heap.size,k - 7,none⟩=_:=(f.cell (k - 7)).trans (eS bs k (k - 7) (by omega));have D:=ld bs k hlt;rw[if_neg h16]at D
    have hm:more (ay bs k)=(ay bs k).getD (k - 16) 0+sig0 ((ay bs k).getD (k - 15) 0)+(ay bs k).getD (k - 7) 0+sig1 ((ay bs k).getD (k - 2) 0):=by unfold more;rw[hl]
    obtain⟨p,hp⟩:=nm ((ay bs k).getD (k - 15) 0);obtain⟨q,hq⟩:=nm ((ay bs k).getD (k - 2) 0);obtain⟨r,hr⟩:=nm ((ay bs k).getD (k - 16) 0);obtain⟨s,hs⟩:=nm ((ay bs k).getD (k - 7) 0);rw[hp,hq,hr,hs]at hm;rw[hp]at J;rw[hq]at y2;rw[hr]at I;rw[hs]at y7;rw[hm]at D;obtain⟨ah,b7⟩:=nm (k - 15);obtain⟨g2,h2⟩:=nm (k - 2);obtain⟨ad,h16'⟩:∃m,k - 16=m:=⟨_,rfl⟩;obtain⟨g7,h7⟩:=nm (k - 7);rw[b7]at J;rw[h2]at y2;rw[h16']at I;rw[h7]at y7
    have bt:IntKind.i64.wrap ((k:Int) - 15)=(ah:Int):=by rw[IntKind.wrap_i64];omega
    have i2:IntKind.i64.wrap ((k:Int) - 2)=(g2:Int):=by rw[IntKind.wrap_i64];omega
    have bq:IntKind.i64.wrap ((k:Int) - 16)=(ad:Int):=by rw[IntKind.wrap_i64];omega
    have i7:IntKind.i64.wrap ((k:Int) - 7)=(g7:Int):=by rw[IntKind.wrap_i64];omega
    have bo:(k:Int) - 15=(ah:Int):=by omega
    have j2:(k:Int) - 2=(g2:Int):=by omega
    have bm:(k:Int) - 16=(ad:Int):=by omega
    have j7:(k:Int) - 7=(g7:Int):=by omega
    have bl:(ah:Int) < 64:=by omega
    have n2:(g2:Int) < 64:=by omega
    have bk:(ad:Int) < 64:=by omega
    have n7:(g7:Int) < 64:=by omega
    have nk:(k:Int) < 64:=by omega
    have x1:=ck (rotr p 7) (rotr p 18);have x2:=ck (rotr p 7 ^^^ rotr p 18) (p >>> 3);have x3:=ck (rotr q 17) (rotr q 19);have x4:=ck (rotr q 17 ^^^ rotr q 19) (q >>> 10);have s3:=vv p;have b9:=sm q;have a1:=cn r (sig0 p);have a2:=cn (r+sig0 p) s;have a3:=cn (r+sig0 p+s) (sig1 q);have E0:Hid (rotr p 7 ^^^ rotr p 18 ^^^ p >>> 3=sig0 p):=rfl;have E1:Hid (rotr q 17 ^^^ rotr q 19 ^^^ q >>> 10=sig1 q):=rfl;rw[E0.out]at x2;rw[E1.out]at x4;have b:=HB.set_ k (wv (r+sig0 p+s+sig1 q));rw[D]at b;have d:=hid b;have g:=hid (L.setCell (p:=⟨w.heap.size,k,none⟩) (Or.inr (Nat.le_refl _)) (wv (r+sig0 p+s+sig1 q)));have R7:=hid (rot7 p);have am:=hid (rot18 p);have an:=hid (rot17 q);have al:=hid (rot19 q)
    unfold wv at J y2 I y7 R7 am an al d g
    clear E0 E1;obtain⟨P,hP⟩:=nm ((p).toNat);obtain⟨Q,hQ⟩:=nm ((q).toNat);obtain⟨R,hR⟩:=nm ((r).toNat);obtain⟨S,hS⟩:=nm ((s).toNat);obtain⟨A7,ac⟩:=nm ((rotr p 7).toNat);obtain⟨c4,u⟩:=nm ((rotr p 18).toNat);obtain⟨c5,z⟩:=nm ((rotr q 17).toNat);obtain⟨bx,t⟩:=nm ((rotr q 19).toNat);obtain⟨X0,a6⟩:=nm ((rotr p 7 ^^^ rotr p 18).toNat);obtain⟨X1,a5⟩:=nm ((rotr q 17 ^^^ rotr q 19).toNat);obtain⟨Y3,a4⟩:=nm ((p >>> 3).toNat);obtain⟨bv,o⟩:=nm ((q >>> 10).toNat);obtain⟨G0,ab⟩:=nm ((sig0 p).toNat);obtain⟨G1,aa⟩:=nm ((sig1 q).toNat);obtain⟨T1,a9⟩:=nm ((r+sig0 p).toNat);obtain⟨T2,a7⟩:=nm ((r+sig0 p+s).toNat);obtain⟨T3,M⟩:=nm ((r+sig0 p+s+sig1 q).toNat);rw[hP]at J;rw[hQ]at y2;rw[hR]at I;rw[hS]at y7;rw[hP,ac]at R7;rw[hP,u]at am;rw[hQ,z]at an;rw[hQ,t]at al;rw[ac,u,a6]at x1;rw[a6,a4,ab]at x2;rw[z,t,a5]at x3;rw[a5,o,aa]at x4;rw[hP,a4]at s3;rw[hQ,o]at b9;rw[hR,ab,a9]at a1;rw[a9,hS,a7]at a2;rw[a7,aa,M]at a3;rw[M]at d;rw[M]at g;clear hP hQ hR hS ac u z t a6 a5 a4 o ab aa a9 a7 M;clear hp hq hr hs hm D b7 h2 h16' h7 b f hl;go_upto_region 6 with(fail)
    go_region
    go_upto_region 9 with(first
     |(go_at_call 185;((with_reducible refine(R7.out _).mono ?_);rintro e w2 ⟨rfl,rfl⟩))
     |(go_at_call 185;((with_reducible refine(am.out _).mono ?_);rintro e w2 ⟨rfl,rfl⟩))
     |(go_at_call 185;((with_reducible refine(an.out _).mono ?_);rintro e w2 ⟨rfl,rfl⟩))
     |(go_at_call 185;((with_reducible refine(al.out _).mono ?_);rintro e w2 ⟨rfl,rfl⟩)))
    go_region
    go_wp2_with fail
    go_roundw
    case rel=>exact⟨k+1,by omega,by go_num,d.out.drew.drew,g.out.drew.drew⟩
    case measure=>simp[intOf];omega
  ·obtain rfl:k=64:=by omega
   have O:cV bs 64=(wvs (ay bs 64)).toArray:=by simp[cV]
   rw[O]at f
   have V:((wvs (ay bs 64)).toArray).size=64:=by simp[wvs,bg]
   have h:((wvs (ay bs 64)).toArray).all (·.oneCell')=true:=by
    rw[Array.all_eq_true_iff_forall_mem];intro x hx
    simp[wvs]at hx
    obtain⟨y,_,rfl⟩:=hx
    rfl
   generalize hA:(wvs (ay bs 64)).toArray=A at f V h
   have HA:=hid hA
   have N:(prog.info? 219).map (·.size)=some A.size:=by rw[lT,V]
   have HI:=hid N;have D:=hid h;have ao:=hid f;clear hA O f V h N HB
   go_wp2_with (first
    |(refine wpList_load_row rfl _ _ rfl w.heap.size rfl 219 A (0,0) _ ao underlying219 rfl HI ?_)
    |(refine wpList_store_row rfl _ _ _ rfl w.heap.size A rfl rfl 219 A ao HI rfl D ?_))
   refine bodyPost_ret (v:=.agg A) (results_cell_row results183 _ _ w.heap.size 219 A (0,0) _ rfl (ao.out.setRow) underlying219 rfl HI.out) rfl ⟨by rw[HA.out],?_⟩;exact L.setRow (Or.inr (Nat.le_refl _)) _
theorem jZ{l:List W}{k:Nat}(h:k < l.length):(wvs l).toArray[k]?=some (wv (l.getD k 0)):=by simp[wvs,h,List.getD]
abbrev bU:Array Value:=#[.int .u32 0,.int .u32 0,.int .u32 0,.int .u32 0,.int .u32 0,.int .u32 0,.int .u32 0,.int .u32 0,.int .u32 0,.int .u32 0,.int .u32 0,.int .u32 0,.int .u32 0,.int .u32 0,.int .u32 0,.int .u32 0,.int .u32 0,.int .u32 0,.int .u32 0,.int .u32 0,.int .u32 0,.int .u32 0,.int .u32 0,.int .u32 0,.int .u32 0,.int .u32 0,.int .u32 0,.int .u32 0,.int .u32 0,.int .u32 0,.int .u32 0,.int .u32 0,.int .u32 0,.int .u32 0,.int .u32 0,.int .u32 0,.int .u32 0,.int .u32 0,.int .u32 0,.int .u32 0,.int .u32 0,.int .u32 0,.int .u32 0,.int .u32 0,.int .u32 0,.int .u32 0,.int .u32 0,.int .u32 0,.int .u32 0,.int .u32 0,.int .u32 0,.int .u32 0,.int .u32 0,.int .u32 0,.int .u32 0,.int .u32 0,.int .u32 0,.int .u32 0,.int .u32 0,.int .u32 0,.int .u32 0,.int .u32 0,.int .u32 0,.int .u32 0]
theorem arr8(x0 x1 x2 x3 x4 x5 x6 x7 a0 a1 a2 a3 a4 a5 a6 a7:Value):((((((((#[x0,x1,x2,x3,x4,x5,x6,x7].setIfInBounds 0 a0).setIfInBounds 1 a1).setIfInBounds 2 a2).setIfInBounds 3 a3).setIfInBounds 4 a4).setIfInBounds 5 a5).setIfInBounds 6 a6).setIfInBounds 7 a7)=#[a0,a1,a2,a3,a4,a5,a6,a7]:=by
 simp only[List.setIfInBounds_toArray,List.set_cons_zero,List.set_cons_succ]
theorem set8{w:World}{b:Nat}{T:TypeId}{x0 x1 x2 x3 x4 x5 x6 x7:Value}(h:Blk w b T #[x0,x1,x2,x3,x4,x5,x6,x7])(a0 a1 a2 a3 a4 a5 a6 a7:Value) :
  Blk ((((((((w.setCell ⟨b,0,none⟩ a0).setCell ⟨b,1,none⟩ a1).setCell ⟨b,2,none⟩ a2).setCell ⟨b,3,none⟩ a3).setCell ⟨b,4,none⟩ a4).setCell ⟨b,5,none⟩ a5).setCell ⟨b,6,none⟩ a6).setCell ⟨b,7,none⟩ a7) b T #[a0,a1,a2,a3,a4,a5,a6,a7]:=by
 have h1:=h.set_ 0 a0;have h2:=h1.set_ 1 a1;have h3:=h2.set_ 2 a2;have h4:=h3.set_ 3 a3;have h5:=h4.set_ 4 a4;have h6:=h5.set_ 5 a5;have h7:=h6.set_ 6 a6;have h8:=h7.set_ 7 a7;rw[arr8]at h8;exact h8
theorem kset8{w w0:World}{S:List Nat}{b:Nat}(h:Kept S w0 w)(hb:b∈S)(a0 a1 a2 a3 a4 a5 a6 a7:Value) :
  Kept S w0 ((((((((w.setCell ⟨b,0,none⟩ a0).setCell ⟨b,1,none⟩ a1).setCell ⟨b,2,none⟩ a2).setCell ⟨b,3,none⟩ a3).setCell ⟨b,4,none⟩ a4).setCell ⟨b,5,none⟩ a5).setCell ⟨b,6,none⟩ a6).setCell ⟨b,7,none⟩ a7) :=
 (((((((h.setCell (Or.inl hb) a0).setCell (Or.inl hb) a1).setCell (Or.inl hb) a2).setCell (Or.inl hb) a3).setCell (Or.inl hb) a4).setCell (Or.inl hb) a5).setCell (Or.inl hb) a6).setCell (Or.inl hb) a7
def mixL(s h:S8)(i:Nat):List W:=(List.range 8).map fun j=>if j < i then s.list.getD j 0+h.list.getD j 0 else s.list.getD j 0
theorem tU(s h:S8):mixL s h 0=s.list:=rfl
theorem qa(s h:S8):mixL s h 8=(plus s h).list:=rfl
theorem wh(s h:S8)(i:Nat)(hi:i < 8):(wvs (mixL s h i)).toArray[i]?=some (wv (s.list.getD i 0)):=by
 rcases(by omega:i=0\/i=1\/i=2\/i=3\/i=4\/i=5\/i=6\/i=7)with rfl|rfl|rfl|rfl|rfl|rfl|rfl|rfl <;> rfl
theorem wy(h:S8)(i:Nat)(hi:i < 8):(wvs h.list).toArray[i]?=some (wv (h.list.getD i 0)):=by
 rcases(by omega:i=0\/i=1\/i=2\/i=3\/i=4\/i=5\/i=6\/i=7)with rfl|rfl|rfl|rfl|rfl|rfl|rfl|rfl <;> rfl
theorem wg(s h:S8)(i:Nat)(hi:i < 8):(wvs (mixL s h i)).toArray.setIfInBounds i (wv (s.list.getD i 0+h.list.getD i 0))=(wvs (mixL s h (i+1))).toArray:=by
 rcases(by omega:i=0\/i=1\/i=2\/i=3\/i=4\/i=5\/i=6\/i=7)with rfl|rfl|rfl|rfl|rfl|rfl|rfl|rfl <;> rfl
theorem fJ(l:List W):((wvs l).toArray).all (·.oneCell')=true:=by
 rw[Array.all_eq_true_iff_forall_mem];intro x hx
 simp[wvs]at hx
 obtain⟨y,_,rfl⟩:=hx
 rfl
theorem yv(v:Value)(h:S8)(bs:List UInt8)(w:World)(hv:Row w 1 v 64 (bcs bs)) :
  Calls prog 144 #[.agg (wvs h.list).toArray,v] w fun e w'=>e=.returned (.agg (wvs (ShaP.mix h bs).list).toArray)/\Kept [] w w':=by
 obtain⟨W0,D⟩:=nm ((w.alloc (.cells (wvs h.list).toArray 190)).alloc (.cells #[.int .u32 0,.int .u32 0,.int .u32 0,.int .u32 0,.int .u32 0,.int .u32 0,.int .u32 0,.int .u32 0] 190));have a3:=kb (S:=[]) D;have SC:=hid (nX v bs W0 (hv.kept a3));have cu:=hid D;have b0:Blk W0 w.heap.size 190 (wvs h.list).toArray:=D▸(Blk.new w _ _).alloc _
 have b1:Blk W0 (w.heap.size+1) 190 #[.int .u32 0,.int .u32 0,.int .u32 0,.int .u32 0,.int .u32 0,.int .u32 0,.int .u32 0,.int .u32 0]:=by
  have:=Blk.new (w.alloc (.cells (wvs h.list).toArray 190)) 190 #[.int .u32 0,.int .u32 0,.int .u32 0,.int .u32 0,.int .u32 0,.int .u32 0,.int .u32 0,.int .u32 0];rw[World.size_alloc]at this;exact D▸this
 have B0:=hid b0;have B1:=hid b1;clear D b0 b1
 go_enter func144,ntmps144
 go_upto_region 1 with(fail);rw[cu.out];go_wp2_with (go_at_call 183;refine SC.mono ?_);rintro e w1 ⟨rfl,k1⟩;go_wp2_with (go_at_call 184;refine(th _).mono ?_);rintro e l ⟨rfl,k2⟩;replace k2:=k1.trans k2
 have a9:((wvs (ay bs 64)).toArray).size=64:=by simp[wvs,bg]
 have a7:((wvs kTab).toArray).size=64:=by kernel_rfl
 have c9:(prog.info? 219).map (·.size)=some ((wvs (ay bs 64)).toArray).size:=by rw[a9,lT]
 have c6:(prog.info? 219).map (·.size)=some ((wvs kTab).toArray).size:=by rw[a7,lT]
 have cm:=hid c9;have cl:=hid c6;have cg:=hid a9;have cc:=hid a7;clear a9 a7 c9 c6;have co:=B0.out.kept k2 (by simp);obtain⟨AS,Y⟩:=nm ((wvs (ay bs 64)).toArray);obtain⟨AK,Z⟩:=nm ((wvs kTab).toArray);have OS:=hid (fJ (ay bs 64));have OK:=hid (fJ kTab);rw[Y]at cm cg OS;rw[Z]at cl cc OK;simp only[Y,Z];have cx:=hid Y;have cy:=hid Z;clear Y Z;have Z0:Hid (Blk ((l.alloc (.cells bU 219)).alloc (.cells bU 219)) l.heap.size 219 bU):=(Blk.new l _ _).alloc _
 have Z1:Hid (Blk ((l.alloc (.cells bU 219)).alloc (.cells bU 219)) (l.heap.size+1) 219 bU):=by
  have:=Blk.new (l.alloc (.cells bU 219)) 219 bU;rw[World.size_alloc]at this;exact this
 have a0:Hid (Kept [] l ((((l.alloc (.cells bU 219)).alloc (.cells bU 219)).setRow l.heap.size AS).setRow (l.heap.size+1) AK)) :=
  (((kr.alloc _).alloc _).setRow (Or.inr (Nat.le_refl _)) _).setRow (Or.inr (by omega)) _
 have Z3:Hid (Blk ((((l.alloc (.cells bU 219)).alloc (.cells bU 219)).setRow l.heap.size AS).setRow (l.heap.size+1) AK) (l.heap.size+1) 219 AK) :=
  Blk.setRow ((setRow_other _ _ _ _ (by omega)).trans Z1.out)
 have Z4:Hid (Blk ((((l.alloc (.cells bU 219)).alloc (.cells bU 219)).setRow l.heap.size AS).setRow (l.heap.size+1) AK) l.heap.size 219 AS) :=
  (setRow_other _ _ _ _ (by omega)).trans (Blk.setRow Z0.out)
 go_upto_region 2 with(first
  |(refine wpList_store_row rfl _ _ _ rfl l.heap.size AS rfl rfl 219 bU Z0.out cm.out (by rw[cg.out];rfl) OS.out ?_)
  |(refine wpList_store_row rfl _ _ _ rfl (l.heap.size+1) AK rfl rfl 219 bU ((setRow_other _ _ _ _ (by omega)).trans Z1.out) cl.out (by rw[cc.out];rfl) OK.out ?_))
 generalize cs:((((l.alloc (.cells bU 219)).alloc (.cells bU 219)).setRow l.heap.size AS).setRow (l.heap.size+1) AK)=W3 at a0 Z3 Z4 ⊢
 have k3:Kept [] w W3:=a3.trans (k2.trans a0);have c0:Blk W3 w.heap.size 190 (wvs h.list).toArray:=co.kept a0.out (by simp);have C0:=hid c0;have C1:=hid ((B1.out.kept k2 (by simp)).kept a0.out (by simp));clear co cs c0 Z0 Z1
 have i8:(prog.info? 190).map (·.size)=some 8:=by kernel_rfl
 have I8:=hid i8;have c1:=hid (Blk.new W3 190 #[.int .u32 0,.int .u32 0,.int .u32 0,.int .u32 0,.int .u32 0,.int .u32 0,.int .u32 0,.int .u32 0]);have OH:=hid (fJ h.list);clear i8
 go_upto_region 4 with(first
  |(refine wpList_load_row rfl _ _ rfl w.heap.size rfl 190 (wvs h.list).toArray (0,0) _ C0.out underlying190 rfl I8.out ?_)
  |(refine wpList_store_row rfl _ _ _ rfl W3.heap.size (wvs h.list).toArray rfl rfl 190 _ c1 I8.out rfl OH ?_))
 obtain⟨W4,R⟩:=nm (((W3.alloc (.cells #[.int .u32 0,.int .u32 0,.int .u32 0,.int .u32 0,.int .u32 0,.int .u32 0,.int .u32 0,.int .u32 0] 190)).setRow W3.heap.size (wvs h.list).toArray));rw[R];have k4:Kept [] W3 W4:=R▸((kr.alloc _).setRow (Or.inr (Nat.le_refl _)) _);have c7:Blk W4 W3.heap.size 190 (wvs h.list).toArray:=R▸Blk.setRow c1.out;have c5:w.heap.size < W3.heap.size:=C0.out.lt;have c4:w.heap.size+1 < W3.heap.size:=C1.out.lt;have c3:l.heap.size < W3.heap.size:=Z4.out.lt;have c2:l.heap.size+1 < W3.heap.size:=Z3.out.lt;have D0:=hid (C0.out.kept k4 (by simp));have D1:=hid (C1.out.kept k4 (by simp));have D5:=hid (Z4.out.kept k4 (by simp));have D6:=hid (Z3.out.kept k4 (by simp))
 generalize hB:W3.heap.size=B at c7 c5 c4 c3 c2 ⊢
 have C7:=hid c7
 have ct:w.heap.size<=B:=by omega
 obtain⟨b0,ac⟩:=nm w.heap.size;obtain⟨b5,ab⟩:=nm l.heap.size;rw[ac]at D0 D1 c5 c4 ct;rw[ab]at D5 D6 c3 c2;rw[ac,ab];have d9:=hid ac;have d8:=hid ab;have K4:=hid (k3.trans k4);clear R c7 C0 C1 Z3 Z4 hB c1
 go_loopw [18] (fun vi wr=>∃k:Nat,k<=64/\vi=k/\Blk wr B 190 (wvs (cF h (ay bs 64) k).list).toArray/\Kept [B] W4 wr) (fun vi _=>64 - (intOf vi).toNat)
 case atStart=>exact⟨0,by omega,rfl,C7.out,kr⟩
 case round =>
  obtain⟨k,hk,rfl,o,N⟩:=hrel
  by_cases hlt:k < 64
  ·have hn:(cF h (ay bs 64) (k+1))=ShaP.step (cF h (ay bs 64) k) (kTab.getD k 0) ((ay bs 64).getD k 0):=rfl
   have xk:wr.cell? ⟨b5+1,k,none⟩=some (wv (kTab.getD k 0)):=by
    have:=(D6.out.kept N (by simp;omega)).cell k;rw[<-cy.out,jZ (by have:kTab.length=64:=(by kernel_rfl);omega)]at this;exact this
   have xw:wr.cell? ⟨b5,k,none⟩=some (wv ((ay bs 64).getD k 0)):=by
    have:=(D5.out.kept N (by simp;omega)).cell k;rw[<-cx.out,jZ (by rw[bg];omega)]at this;exact this
   obtain⟨s,hs⟩:=nm (cF h (ay bs 64) k);obtain⟨r,aa⟩:=nm (kTab.getD k 0);obtain⟨y,a5⟩:=nm ((ay bs 64).getD k 0);rw[hs,aa,a5]at hn;rw[hs]at o;rw[aa]at xk;rw[a5]at xw;obtain⟨x0,x1,x2,x3,x4,x5,x6,x7⟩:=bc8 o rfl
   have HN:Hid (wvs (cF h (ay bs 64) (k+1)).list=[wv (tmp s r y+(rotr s.a 2 ^^^ rotr s.a 13 ^^^ rotr s.a 22)+maj s.a s.b s.c),wv s.a,wv s.b,wv s.c,wv (s.d+tmp s r y),wv s.e,wv s.f,wv s.g]):=by rw[hn];rfl
   have ca:Blk wr B 190 #[wv s.a,wv s.b,wv s.c,wv s.d,wv s.e,wv s.f,wv s.g,wv s.h]:=o;have HB:=hid ca;clear hs aa a5 hn o ca;have f1:=ck (rotr s.e 6) (rotr s.e 11);have f2:=ck (rotr s.e 6 ^^^ rotr s.e 11) (rotr s.e 25);have f3:=ck s.f s.g;have f4:=jO s.e (s.f ^^^ s.g);have f5:=ck s.g (s.e &&& (s.f ^^^ s.g));rw[ch_eq]at f5;have f6:=cn s.h (rotr s.e 6 ^^^ rotr s.e 11 ^^^ rotr s.e 25);have f7:=cn (s.h+(rotr s.e 6 ^^^ rotr s.e 11 ^^^ rotr s.e 25)) (ch s.e s.f s.g);have f8:=cn (s.h+(rotr s.e 6 ^^^ rotr s.e 11 ^^^ rotr s.e 25)+ch s.e s.f s.g) r;have f9:=cn (s.h+(rotr s.e 6 ^^^ rotr s.e 11 ^^^ rotr s.e 25)+ch s.e s.f s.g+r) y;have ft:s.h+(rotr s.e 6 ^^^ rotr s.e 11 ^^^ rotr s.e 25)+ch s.e s.f s.g+r+y=tmp s r y:=rfl;rw[ft]at f9;clear ft;have g1:=ck (rotr s.a 2) (rotr s.a 13);have g2:=ck (rotr s.a 2 ^^^ rotr s.a 13) (rotr s.a 22);have g3:=jO s.a s.b;have g4:=or_w s.a s.b;have g5:=jO s.c (s.a |||s.b);have g6:=or_w (s.a &&& s.b) (s.c &&& (s.a |||s.b));rw[zI]at g6;have g7:=cn (tmp s r y) (rotr s.a 2 ^^^ rotr s.a 13 ^^^ rotr s.a 22);have g8:=cn (tmp s r y+(rotr s.a 2 ^^^ rotr s.a 13 ^^^ rotr s.a 22)) (maj s.a s.b s.c);have g9:=cn s.d (tmp s r y);have R6:=hid (rot6 s.e);have bx:=hid (rot11 s.e);have bq:=hid (rot25 s.e);have R2:=hid (rot2 s.a);have bv:=hid (rot13 s.a);have bt:=hid (rot22 s.a)
   unfold wv at x0 x1 x2 x3 x4 x5 x6 x7 xk xw HN R6 bx bq R2 bv bt
   obtain⟨VA,n⟩:=nm ((s.a).toNat);obtain⟨VB,F⟩:=nm ((s.b).toNat);obtain⟨VC,V⟩:=nm ((s.c).toNat);obtain⟨VD,av⟩:=nm ((s.d).toNat);obtain⟨VE,t⟩:=nm ((s.e).toNat);obtain⟨VF,U⟩:=nm ((s.f).toNat);obtain⟨VG,E⟩:=nm ((s.g).toNat);obtain⟨VH,ap⟩:=nm ((s.h).toNat);obtain⟨KK,ba⟩:=nm ((r).toNat);obtain⟨WW,ao⟩:=nm ((y).toNat);obtain⟨E6,bd⟩:=nm ((rotr s.e 6).toNat);obtain⟨db,I⟩:=nm ((rotr s.e 11).toNat);obtain⟨da,G⟩:=nm ((rotr s.e 25).toNat);obtain⟨X1,an⟩:=nm ((rotr s.e 6 ^^^ rotr s.e 11).toNat);obtain⟨X2,am⟩:=nm ((rotr s.e 6 ^^^ rotr s.e 11 ^^^ rotr s.e 25).toNat);obtain⟨FG,bb⟩:=nm ((s.f ^^^ s.g).toNat);obtain⟨EF,bc⟩:=nm ((s.e &&& (s.f ^^^ s.g)).toNat);obtain⟨CH,bh⟩:=nm ((ch s.e s.f s.g).toNat);obtain⟨U1,b4⟩:=nm ((s.h+(rotr s.e 6 ^^^ rotr s.e 11 ^^^ rotr s.e 25)).toNat);obtain⟨U2,b3⟩:=nm ((s.h+(rotr s.e 6 ^^^ rotr s.e 11 ^^^ rotr s.e 25)+ch s.e s.f s.g).toNat);obtain⟨U3,b2⟩:=nm ((s.h+(rotr s.e 6 ^^^ rotr s.e 11 ^^^ rotr s.e 25)+ch s.e s.f s.g+r).toNat);obtain⟨TT,X⟩:=nm ((tmp s r y).toNat);obtain⟨A2,bo⟩:=nm ((rotr s.a 2).toNat);obtain⟨dd,L⟩:=nm ((rotr s.a 13).toNat);obtain⟨dc,J⟩:=nm ((rotr s.a 22).toNat);obtain⟨Y1,al⟩:=nm ((rotr s.a 2 ^^^ rotr s.a 13).toNat);obtain⟨Y2,ah⟩:=nm ((rotr s.a 2 ^^^ rotr s.a 13 ^^^ rotr s.a 22).toNat);obtain⟨AB,bm⟩:=nm ((s.a &&& s.b).toNat);obtain⟨AO,bl⟩:=nm ((s.a |||s.b).toNat);obtain⟨CA,bk⟩:=nm ((s.c &&& (s.a |||s.b)).toNat);obtain⟨MJ,b9⟩:=nm ((maj s.a s.b s.c).toNat);obtain⟨Z1,ad⟩:=nm ((tmp s r y+(rotr s.a 2 ^^^ rotr s.a 13 ^^^ rotr s.a 22)).toNat)
   obtain⟨NA,b7⟩:=nm ((tmp s r y+(rotr s.a 2 ^^^ rotr s.a 13 ^^^ rotr s.a 22)+maj s.a s.b s.c).toNat);obtain⟨ND,b6⟩:=nm ((s.d+tmp s r y).toNat);rw[bd,I,an]at f1;rw[an,G,am]at f2;rw[U,E,bb]at f3;rw[t,bb,bc]at f4;rw[E,bc,bh]at f5;rw[ap,am,b4]at f6;rw[b4,bh,b3]at f7;rw[b3,ba,b2]at f8;rw[b2,ao,X]at f9;rw[bo,L,al]at g1;rw[al,J,ah]at g2;rw[n,F,bm]at g3;rw[n,F,bl]at g4;rw[V,bl,bk]at g5;rw[bm,bk,b9]at g6;rw[X,ah,ad]at g7;rw[ad,b9,b7]at g8;rw[av,X,b6]at g9;rw[t,bd]at R6;rw[t,I]at bx;rw[t,G]at bq;rw[n,bo]at R2;rw[n,L]at bv;rw[n,J]at bt;rw[n]at x0;rw[F]at x1;rw[V]at x2;rw[av]at x3;rw[t]at x4;rw[U]at x5;rw[E]at x6;rw[ap]at x7;rw[ba]at xk;rw[ao]at xw;rw[b7,n,F,V,b6,t,U,E]at HN;clear n F V av t U E ap ba ao bd I G an am bb bc bh b4 b3 b2 X bo L J al ah bm bl bk b9 ad b7 b6;have X0:=hid (Kept.cellOf x0);have X1:=hid (Kept.cellOf x1);have X2:=hid (Kept.cellOf x2);have X3:=hid (Kept.cellOf x3);have X4:=hid (Kept.cellOf x4);have X5:=hid (Kept.cellOf x5);have X6:=hid (Kept.cellOf x6);have X7:=hid (Kept.cellOf x7);have XK:=hid (Kept.cellOf xk);have XW:=hid (Kept.cellOf xw);clear x0 x1 x2 x3 x4 x5 x6 x7 xk xw;go_upto_region 6 with(fail);have y4:=X4.out
   go_region_held3 (fun w'=>Kept [] wr w') (first|assumption|exact kr.drew|exact Kept.alloc (by assumption) _)
    (first
     |(go_at_call 185;with_reducible refine(ai (W:=wr) (by assumption) ((R6.out _).mono fun _ _ h=>⟨h.1,h.2▸kr⟩)).mono ?_;rintro e w3 ⟨rfl,j⟩)
     |(go_at_call 185;with_reducible refine(ai (W:=wr) (by assumption) ((bx.out _).mono fun _ _ h=>⟨h.1,h.2▸kr⟩)).mono ?_;rintro e w3 ⟨rfl,j⟩)
     |(go_at_call 185;with_reducible refine(ai (W:=wr) (by assumption) ((bq.out _).mono fun _ _ h=>⟨h.1,h.2▸kr⟩)).mono ?_;rintro e w3 ⟨rfl,j⟩))
   clear y4;go_upto_region 7 with(fail);have z3:=j;have y0:=X0.out _ j;have y1:=X1.out _ j;have y2:=X2.out _ j;have y3:=X3.out _ j;have y4:=X4.out _ j;have y5:=X5.out _ j;have y6:=X6.out _ j;have y7:=X7.out _ j;have yk:=XK _ j;have yw:=XW _ j
   have nk:(k:Int) < 64:=by omega
   go_quiet ((fail))
   go_upto_region 8 with(fail);clear y0 y1 y2 y3 y4 y5 y6 y7 yk yw;obtain⟨w8,a6⟩:=nm (w3.drewN nq);have z5:Kept [] wr w8:=a6▸z3.drewN _;rw[a6];clear a6;have z6:Kept [] wr w8.drew:=z5.drew;have y0:=X0.out
   go_region_held3 (fun w'=>Kept [] wr w') (first|assumption|exact kr.drew|exact Kept.alloc (by assumption) _)
    (first
     |(go_at_call 185;with_reducible refine(ai (W:=wr) (by assumption) ((R2.out _).mono fun _ _ h=>⟨h.1,h.2▸kr⟩)).mono ?_;rintro e w3 ⟨rfl,m⟩)
     |(go_at_call 185;with_reducible refine(ai (W:=wr) (by assumption) ((bv.out _).mono fun _ _ h=>⟨h.1,h.2▸kr⟩)).mono ?_;rintro e w3 ⟨rfl,m⟩)
     |(go_at_call 185;with_reducible refine(ai (W:=wr) (by assumption) ((bt.out _).mono fun _ _ h=>⟨h.1,h.2▸kr⟩)).mono ?_;rintro e w3 ⟨rfl,m⟩))
   clear y0;go_upto_region 9 with(fail);have z4:=m;have y0:=X0.out _ m;have y1:=X1.out _ m;have y2:=X2.out _ m;have y3:=X3.out _ m;have y4:=X4.out _ m;have y5:=X5.out _ m;have y6:=X6.out _ m;have y7:=X7.out _ m;have cp:=hid (HB.out.kept z4 (by simp));obtain⟨d7,d6,d5,d4,d3,d2,d1,d0⟩:=bf8 cp;go_wp2_with fail
   go_roundw
   case rel=>exact⟨k+1,by omega,by go_num,by rw[HN.out];exact set8 cp.out _ _ _ _ _ _ _ _,kset8 (N.then_ (S':=[]) z4 (by simp)) (by simp) _ _ _ _ _ _ _ _⟩
   case measure=>simp[intOf];omega
  ·obtain rfl:k=64:=by omega
   obtain⟨s,hs⟩:=nm (cF h (ay bs 64) 64);rw[hs,<-tU s h]at o
   have a4:ShaP.mix h bs=plus s h:=by rw[<-hs];rfl
   have HF:=hid a4;have HB:=hid o;clear hs o a4;go_wp2_with fail
   go_loopw [13,104] (fun _ vi wq=>∃i:Nat,i<=8/\vi=i/\Blk wq B 190 (wvs (mixL s h i)).toArray/\Kept [B] W4 wq) (fun _ vi _=>8 - (intOf vi).toNat)
   case atStart=>exact⟨0,by omega,rfl,HB.out,N⟩
   case round =>
    obtain⟨i,hi,rfl,o,O⟩:=hrel
    by_cases hlt:i < 8
    ·have x1:wr.cell? ⟨B,i,none⟩=some (wv (s.list.getD i 0)):=(o.cell i).trans (wh s h i hlt);have x2:wr.cell? ⟨b0,i,none⟩=some (wv (h.list.getD i 0)):=((D0.out.kept O (by simp;omega)).cell i).trans (wy h i hlt);have fz:=o.frozen i;have z:=o.set_ i (wv (s.list.getD i 0+h.list.getD i 0));rw[wg s h i hlt]at z;have u:=hid z;have a2:=hid (O.setCell (p:=⟨B,i,none⟩) (Or.inl (by simp)) (wv (s.list.getD i 0+h.list.getD i 0)));have a1:=cn (s.list.getD i 0) (h.list.getD i 0);obtain⟨p,hp⟩:=nm (s.list.getD i 0);obtain⟨q,hq⟩:=nm (h.list.getD i 0);rw[hp,hq]at a1 u a2;rw[hp]at x1;rw[hq]at x2
     unfold wv at x1 x2 u a2
     obtain⟨P,hP⟩:=nm p.toNat;obtain⟨Q,hQ⟩:=nm q.toNat;obtain⟨T,hT⟩:=nm ((p+q).toNat);rw[hP,hQ,hT]at a1;rw[hP]at x1;rw[hQ]at x2;rw[hT]at u a2
     have ni:(i:Int) < 8:=by omega
     clear hp hq hP hQ hT z o;go_upto_region 15 with(fail)
     go_still_tail 8,(by kernel_rfl)
     change wpList _ _ _ _ _ wr.drew
     go_wp2_with fail
     go_roundw
     case rel =>
      refine⟨_,_,_,_,_,_,_,_,_,_,_,_,_,⟨i+1,?_,?_,u.drew,a2.drew⟩,rfl⟩
      ·omega
      ·go_num
     case measure=>simp[intOf];omega
    ·obtain rfl:i=8:=by omega
     rw[qa]at o;have cb:=D1.out.kept O (by simp;omega);have C:=fJ (plus s h).list;have M:((wvs (plus s h).list).toArray).size=8:=rfl
     generalize hA:(wvs (plus s h).list).toArray=A at o C M
     have HA:=hid hA;have cv:=hid o;have cq:=hid cb;have HS:=hid C
     have HI:Hid ((prog.info? 190).map (·.size)=some A.size):=by rw[M];exact I8.out
     have cd:=hid M;clear hA o C M cb
     go_wp2_with (first
      |(refine wpList_load_row rfl _ _ rfl B rfl 190 A (0,0) _ cv underlying190 rfl HI ?_)
      |(refine wpList_store_row rfl _ _ _ rfl (b0+1) A rfl rfl 190 _ cq.out HI.out (by rw[cd.out];rfl) HS.out ?_))
     refine bodyPost_ret (v:=.agg A) (results_cell_row results144 _ _ (b0+1) 190 A (0,0) _ rfl (cq.out.setRow) underlying190 rfl HI.out) rfl ⟨by rw[HF.out,HA.out],?_⟩;exact(K4.out.then_ O (fun x hx hm=>by simp at hm;omega)).setRow (Or.inr (by omega)) _
end Go.Proofs.YtcidfldeiklcjaaGreatDoor
namespace Go.Proofs.YtcidfldeiklcjaaGreatDoor
open Go.RowKit ShaP
theorem fW:(Tryz.prog.info? 5).map (fun i=>(i.zero,i.size,i.bytes))=some (some (.int .u8 0),1,1):=by kernel_rfl
structure Ap (w:World) (base:Nat) (v:Value) (l:List UInt8):Prop where
 form:∃b cap,v=.slice (some ⟨b,0,none⟩) l.length cap/\base<=b/\b < w.heap.size/\l.length<=cap/\cap<=maxLen /\
  (∀j (h:j < l.length),w.cell? ⟨b,j,none⟩=some (.int .u8 (l[j].toNat:Int)))/\(∀j,j < cap->(w.cell? ⟨b,j,none⟩).isSome=true/\w.frozen? ⟨b,j,none⟩=false)
def bval(c:UInt8):Value:=.int .u8 (c.toNat:Int)
theorem Ap.of_own{w:World}{base:Nat}{v:Value}{l:List UInt8}(h:w.ownsRow base 5 1 v l.length (l.map bval))(hl:0 < l.length):Ap w base v l:=by
 rcases h.2 with⟨h1,h2⟩|⟨g,cap,cur,hv,hB,hg,hnc,hcm,hcs,hx⟩
 ·omega
 ·have hlt:g < w.heap.size:=(Array.getElem?_eq_some_iff.1 hg).1;refine⟨g,cap,hv,hB,hlt,hnc,hcm,?_,?_⟩
  ·intro j hj
   have:cur.toList[j]?=some (bval l[j]):=by
    have h4:(cur.toList.take (l.length*1))[j]?=(l.map bval)[j]?:=by rw[hx]
    rw[List.getElem?_take_of_lt (by omega)]at h4;rw[h4]
    simp[hj]
   simp[World.cell?,hg]
   simpa [bval]using this
  ·intro j hj
   constructor
   ·simp[World.cell?,hg]
    omega
   ·simp[World.frozen?,hg]
theorem Ap.conv(w:World)(s:List UInt8)(hs:s.length<=100000000):Ap (Lib.bytesWorld w 5 ⟨s.toArray⟩) w.heap.size (.slice (some ⟨w.heap.size,0,none⟩) s.length (grownCap w s.length 0 5)) s:=by
 have c:=grownCap_ge w s.length 0 5;have d:=grownCap_le_maxLen w s.length 0 5 (by unfold maxLen;omega);have a:=Lib.bytesWorld_at_new w 5 ⟨s.toArray⟩
 have e:(Lib.bytesCells w 5 ⟨s.toArray⟩).size=grownCap w s.length 0 5:=by
  simp[Lib.bytesCells,ByteArray.size]
  omega
 refine⟨w.heap.size,_,rfl,Nat.le_refl _,by rw[Lib.bytesWorld_size];omega,c,d,?_,?_⟩
 ·intro j b;have:=Lib.bytesWorld_cell w 5 ⟨s.toArray⟩ j (by simpa [ByteArray.size]using b);rw[this]
  simp[List.getD,b]
 ·intro j b
  constructor
  ·simp[World.cell?,a]
   omega
  ·simp[World.frozen?,a]
   omega
theorem Ap.kept{w w':World}{base:Nat}{v:Value}{l:List UInt8}(h:Ap w base v l)(k:Kept [] w w'):Ap w' base v l:=by
 obtain⟨b,cap,h1,h2,h3,h4,h5,h6,h7⟩:=h.form;refine⟨b,cap,h1,h2,Nat.lt_of_lt_of_le h3 k.size,h4,h5,fun j hj=>?_,fun j hj=>?_⟩
 ·rw[k.cell (p:=⟨b,j,none⟩) h3 (by simp)];exact h6 j hj
 ·rw[k.cell (p:=⟨b,j,none⟩) h3 (by simp),k.frozen (p:=⟨b,j,none⟩) h3 (by simp)];exact h7 j hj
theorem Ap.alloc{w:World}{base:Nat}{v:Value}{l:List UInt8}(h:Ap w base v l)(o:Obj):Ap (w.alloc o) base v l:=h.kept (kr.alloc o)
theorem fF(w:World)(c:UInt8)(T:TypeId):(w.alloc (.cells #[bval c] T)).cell? ⟨w.heap.size,0,none⟩=some (bval c):=by
 rw[World.cell?_alloc_new]
 rfl
theorem Below.of_grown_none{w w':World}{base:Nat}(h:w.grownBy w' none)(hb:base<=w.heap.size):Below base w w' := ⟨h.os,h.tape,h.output,h.size,fun k hk=>h.block k (by omega) (by simp)⟩
theorem ez{w:World}{ops:Array Oper}{rest:List Oper}{o:Oper}{a:Act}{Q:Exit->Act->World->Prop}
  (hg:o.guard=none) (s x:Operand) (hop:o.op=Op.call { callee:=Callee.builtin Builtin.append,args:=#[s,x],argTypes:=#[144,144] })
  (base:Nat) (v:Value) (l:List UInt8) (hs:a.eval s=v) (hA:Ap w base v l) (ad:Addr) (c:UInt8) (hx:a.eval x=.slice (some ad) 1 1) (hc:w.cell? ad=some (bval c))
  (hl:l.length<=1000000000) (hb:base<=w.heap.size)
  (hK:∀v' w',Ap w' base v' (l++[c])->Below base w w'->wpList Tryz.prog ops Q rest (a.put o.dst v') w'):wpList Tryz.prog ops Q (o::rest) a w:=by
 obtain⟨i,L,A,z,y⟩:=info_parts fW;obtain⟨b,t,I,r,E,J,D,f,d⟩:=hA.form
 have m:∀j u,[bval c][j]?=some u->w.cell? (ad.add j)=some u:=by
  intro j u k
  cases j with
  |zero =>
   have:ad.add 0=ad:=by unfold Addr.add;split <;> simp_all
   rw[this,hc];exact k
  |succ j=>simp at k
 refine wpList_append_arg w hg s x 144 hop 5 i (.int .u8 0) 1 1 Tryz.underlying144 L A z y rfl (by decide) b 0 l.length t (l.map bval) (hs.trans I) (by simp) ?_ ad 1 1 [bval c] hx rfl m (by intro u k;obtain rfl:=ms k;rfl) ?_ (by unfold maxLen;omega) (by omega) ?_ ?_
 ·intro j u k;rw[Nat.zero_add]
  by_cases g:j < l.length
  ·rw[f j g]
   simpa [g,bval]using k
  ·rw[List.getElem?_eq_none (by simpa using g)]at k
   cases k
 ·intro F j g;simp at g;subst g;have:=d l.length (by omega)
  simpa using this
 ·intro F
  have e:w.setCells b (0+l.length*1) [bval c]=w.setCell ⟨b,l.length,none⟩ (bval c):=by simp[World.setCells]
  rw[e];refine hK _ _ ⟨b,t,by simp,r,by simpa [World.setCell]using E,by simp;omega,D,?_,?_⟩ ((Below.refl _ _).setCell (p:=⟨b,l.length,none⟩) r _)
  ·intro j g;have M:=(d l.length (by omega)).1
   by_cases hjl:j < l.length
   ·have n:(⟨b,l.length,none⟩:Addr)≠⟨b,j,none⟩:=by intro h;injection h;omega
    rw[show(w.setCell ⟨b,l.length,none⟩ (bval c)).cell? ⟨b,j,none⟩=w.cell? ⟨b,j,none⟩from World.cell?_setCell_other (h:=n) ..,f j hjl]
    simp[hjl]
   ·have B:j=l.length:=by simp at g;omega
    subst B;rw[World.cell?_setCell_same' _ _ _ M]
    simp[bval]
  ·intro j g;obtain⟨G,N⟩:=d j g;refine⟨?_,by rw[World.frozen?_setCell];exact N⟩
   by_cases hjl:j=l.length
   ·subst hjl;rw[World.cell?_setCell_same' _ _ _ G]
    rfl
   ·have n:(⟨b,l.length,none⟩:Addr)≠⟨b,j,none⟩:=by intro h;injection h;omega
    rw[show(w.setCell ⟨b,l.length,none⟩ (bval c)).cell? ⟨b,j,none⟩=w.cell? ⟨b,j,none⟩from World.cell?_setCell_other (h:=n) ..];exact G
 ·intro F v' w' q C;refine hK _ _ ?_ (Below.of_grown_none C hb)
  have hown':w'.ownsRow base 5 1 v' (l++[c]).length ((l++[c]).map bval):=by
   have:=gY q hb
   simpa using this
  exact Ap.of_own hown' (by simp)
end Go.Proofs.YtcidfldeiklcjaaGreatDoor
namespace Go.Proofs.YtcidfldeiklcjaaGreatDoor
open Go.RowKit
theorem jT{P:Program}(w:World)(t ty:TypeId)(base:Nat)(e:TypeId)(i:TypeInfo)(z:Value)(bytes:Nat)(ht:P.underlying t=some (.slice e))(hi:P.info? e=some i)(hz:i.zero=some z)
  (hsize:i.size=1) (hby:i.bytes=bytes) (hzs:z.cells.size=1)
  (gb n cp:Nat) (xs:List Value) (hown:w.ownsRow base e 1 (.slice (some ⟨gb,0,none⟩) n cp) n xs)
  (ad:Addr) (m c:Nat) (news:List Value) (hl:news.length=m) (hnews:∀j u,news[j]?=some u->w.cell? (ad.add j)=some u) (h1:∀u∈news,u.oneCell'=true)
  (hm:0 < m) (h63:n+m<=maxLen) (hbytes:(n+m)*bytes<=140737488355328) (hbase:base<=w.heap.size) (H:Nat) (hH:w.heap.size=H) :
  ∃g cap w',(Builtin.append_ #[t,t] ty #[.slice (some ⟨gb,0,none⟩) n cp,.slice (some ad) m c]).run P w=.ok (.slice (some ⟨g,0,none⟩) (n+m) cap) w' /\
   w'.ownsRow base e 1 (.slice (some ⟨g,0,none⟩) (n+m) cap) (n+m) (xs++news)/\w.grownBy w' (some gb)/\(gb=g\/g=H)/\g < w'.heap.size/\∀j,j < n->w'.cell? ⟨gb,j,none⟩=w.cell? ⟨gb,j,none⟩:=by
 obtain⟨g,cap,w',b,s,r,d,q⟩:=run_append_lies (P:=P) w t ty base e i z 1 bytes ht hi hz hsize hby hzs (by omega) _ n xs hown ad m c news (by omega) hnews h1 hm h63 hbytes hbase H hH;refine⟨g,cap,w',b,s,r,?_,q,?_⟩
 ·rcases d with d|d
  ·exact .inl (by simpa [Value.ownBlock]using d)
  ·exact .inr d
 intro j y
 have l:xs.length=n:=by have:=hown.1;omega
 have f:gb < w.heap.size:=(hown.lt gb rfl).2
 by_cases hroom:n+m<=cp
 ·rcases hown.2 with⟨v,_⟩|⟨g',cap',x,h,_,hg',_,_,p,_⟩
  ·cases v
  injection h with e1 _ e3;injection e1 with e1;injection e1 with e1 _ _;subst e1 e3
  have a:=run_append_room_cells (P:=P) w t ty e i ht hi gb 0 n cp ad m c news (by rw[hsize];omega) hnews h1 hroom
   (fun k hk=>by simp[World.cell?,hg',hsize];omega) (fun k hk=>by simp[World.frozen?,hg'])
  rw[a]at b;injection b with _ hw;rw[<-hw];exact World.cell?_setCells_out gb news _ w ⟨gb,j,none⟩ (fun _ _=>by simp[hsize];omega)
 ·obtain⟨v'',w'',a,_,o⟩:=run_append_arg_grows (P:=P) w t ty e i z 1 bytes ht hi hz hsize hby hzs (by omega) ⟨gb,0,none⟩ n cp xs (by omega) (hown.cells rfl) ad m c news (by omega) hnews (by omega) h63 hbytes;rw[a]at b;injection b with _ hw;rw[<-hw];exact World.cell?_of_block (o.block gb f (by simp))
theorem jh{P:Program}{w:World}{ops:Array Oper}{o:Oper}{a:Act}{K:Act->World->Prop}{Q:Exit->Act->World->Prop}{E:Prop}(hgd:o.guard=none)(s x:Operand)(t:TypeId)
  (ho:o.op=.call { callee:=.builtin .append,args:=#[s,x],argTypes:=#[t,t] })
  (base:Nat) (e:TypeId) (i:TypeInfo) (z:Value) (bytes:Nat) (ht:P.underlying t=some (.slice e)) (hi:P.info? e=some i) (hz:i.zero=some z)
  (hsize:i.size=1) (hby:i.bytes=bytes) (hzs:z.cells.size=1)
  (gb n cp:Nat) (xs:List Value) (hs:a.eval s=.slice (some ⟨gb,0,none⟩) n cp) (hown:w.ownsRow base e 1 (.slice (some ⟨gb,0,none⟩) n cp) n xs)
  (ad:Addr) (m c:Nat) (news:List Value) (hx:a.eval x=.slice (some ad) m c) (hl:news.length=m) (hnews:∀j u,news[j]?=some u->w.cell? (ad.add j)=some u) (h1:∀u∈news,u.oneCell'=true)
  (hm:0 < m) (h63:n+m<=maxLen) (hbytes:(n+m)*bytes<=140737488355328) (hbase:base<=w.heap.size) (H:Nat) (hH:w.heap.size=H)
  (h:∀g cap w',w'.ownsRow base e 1 (.slice (some ⟨g,0,none⟩) (n+m) cap) (n+m) (xs++news)->w.grownBy w' (some gb)->(gb=g\/g=H)->g < w'.heap.size->(∀j,j < n->w'.cell? ⟨gb,j,none⟩=w.cell? ⟨gb,j,none⟩)->K (a.put o.dst (.slice (some ⟨g,0,none⟩) (n+m) cap)) w') :
  if Region.wanted o (yielded ops a.tmps)=true then Oper.wp P o a w K Q else E:=by
 have b:Region.wanted o (yielded ops a.tmps)=true:=by simp[Region.wanted,hgd]
 rw[if_pos b];obtain⟨g,cap,w',d,q,p,l,k,f⟩:=jT (P:=P) w t o.type base e i z bytes ht hi hz hsize hby hzs gb n cp xs hown ad m c news hl hnews h1 hm h63 hbytes hbase H hH
 unfold Oper.wp execOp
 simp only[ho,resolve,invoke,builtin,Sem.run_bind,Sem.run_pure,Result.andThen_ok,List.map_toArray,List.map_cons,List.map_nil,hs,hx,d];exact h g cap w' q p l k f
end Go.Proofs.YtcidfldeiklcjaaGreatDoor
