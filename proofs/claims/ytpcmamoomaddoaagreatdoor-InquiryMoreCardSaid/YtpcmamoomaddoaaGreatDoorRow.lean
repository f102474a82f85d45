import Derived.Test.YtpcmamoomaddoaaGreatDoorPos
set_option maxRecDepth 100000
set_option maxHeartbeats 32000000
namespace Go.Proofs.YtpcmamoomaddoaaGreatDoor
open Go.RowKit Go.Maps
open Lib(hid)
/-- whether a member is eligible for a use, by the table of what holds -/
def fI(H:List (List Bool))(c:Crw)(x:Sn)(k:Nat):Bool :=
 canB H x.q.toNat k&&(decide (((c.ms[k]?).map (·.rev)).getD 0=-1) ||decide (x.asof<=((c.ms[k]?).map (·.rev)).getD 0))&&(decide (x.hold=-1) ||decide (x.hold=(k:Int)))
def fH(H:List (List Bool))(c:Crw)(x:Sn):List Bool:=(List.range c.ms.length).map (fI H c x)
def fi(H:List (List Bool))(c:Crw)(x:Sn)(n j:Nat):List Bool:=(List.range j).map (fI H c x)++List.replicate (n - j) false
section
variable {H:List (List Bool)} {c:Crw} {x:Sn} {n j:Nat}
theorem tE(h:j < n):(aB (fi H c x n j)).toArray[j]?=some (.bool false):=by
 rw[List.getElem?_toArray]
 unfold aB fi
 rw[List.getElem?_map,List.getElem?_append_right (by simp),List.length_map,List.length_range,Nat.sub_self,List.getElem?_replicate,if_pos (by omega)]
 rfl
theorem tD(h:j < n):(aB (fi H c x n j)).toArray.setIfInBounds j (.bool (fI H c x j))=(aB (fi H c x n (j+1))).toArray:=by
 rw[List.setIfInBounds_toArray]
 unfold aB
 rw[<-List.map_set];refine congrArg _ (congrArg _ ?_)
 unfold fi
 rw[List.set_append_right _ _ (by simp),show n - j=n - (j+1)+1 by omega,List.replicate_succ,List.range_succ]
 simp
end
theorem vZ{W0:World}{kb:Nat}{c:Crw}{H:List (List Bool)}{vq vm vu vh vc:Value}(hkb:Blk W0 kb 199 #[vq,vm,vu,vh,vc])(hms:aj MbR 3 W0 vm c.ms)(hh:aj fK 1 W0 vh H)
  (hn:c.ms.length<=64) (hlen:∀l∈H,l.length=c.ms.length) (hHl:H.length<=1000) {cs:List Value} {x:Sn} (hx:SnR W0 cs x) (hq0:0<=x.q) (hq:x.q < (H.length:Int)) :
  Calls Tryz.prog 144 #[.pointer (some ⟨kb,0,none⟩),.agg cs.toArray] W0 fun e w'=>Kept [] W0 w'/\∃b,e=.returned (.slice (some ⟨b,0,none⟩) c.ms.length c.ms.length)/\W0.heap.size<=b/\Blk w' b 4 (aB (fH H c x)).toArray:=by
 obtain⟨ma,mc,rfl,_,_⟩:=aj.form hms;obtain⟨ha,hc,rfl,_,_⟩:=aj.form hh;obtain⟨hl,Z,be,ap⟩:=iH hh;obtain⟨k,B⟩:∃n,c.ms.length=n:=⟨_,rfl⟩;obtain⟨q,Y⟩:∃q:Nat,x.q=(q:Int):=⟨x.q.toNat,by omega⟩;obtain⟨nh,ag⟩:∃n,H.length=n:=⟨_,rfl⟩;subst hx;rw[Y]at hq ⊢;rw[B]at hkb hn ⊢;rw[ag]at hkb Z hHl hq;obtain⟨P,ho,bk,C⟩:=Z.at_ (by omega);subst bk;obtain⟨T,s⟩:∃r,H[q]?=some r:=⟨_,List.getElem?_eq_getElem (by omega)⟩;obtain⟨ru,R,p⟩:=ap q T s
 have U:T.length=k:=by rw[hlen T (List.mem_of_getElem? s)];exact B
 rw[U]at p;obtain⟨ra,rc,rfl,_,_⟩:=p.form;obtain⟨X,hX⟩:∃X,W0.alloc (.cells #[.int .i64 (q:Int),.int .i64 x.win,.int .i64 x.asof,.int .i64 x.hold] 84)=X:=⟨_,rfl⟩;have b0:Blk X W0.heap.size 84 #[.int .i64 (q:Int),.int .i64 x.win,.int .i64 x.asof,.int .i64 x.hold]:=hX▸Blk.new _ _ _;have kX:Kept [] W0 X:=hX▸(Kept.refl _ _).alloc _;have k1:∀w',Kept [] W0 w'->w'.cell? ⟨kb,1,none⟩=some (.slice ma k mc):=Kept.cellOf (B▸hkb.cell 1);have k3:∀w',Kept [] W0 w'->w'.cell? ⟨kb,3,none⟩=some (.slice (some ⟨P,ho,none⟩) nh hc):=Kept.cellOf (hkb.cell 3);have an:=gN k X (by omega);obtain⟨bl,E⟩:∃a:Array Value,(aB (List.replicate k false)).toArray=a:=⟨_,rfl⟩;rw[E]at an;have b6:=hid E;have bv:=hid kX;have HX:=hid hX;have c1:=hid b0;have K1:=hid k1;have K3:=hid k3;have bs:=hid hms;have bo:=hid p;have bp:=hid R;have c0:=hid C;have b2:=hid s;have bq:=hid U;have a8:=hid B;have br:=hid Y;have b8:=k1 X kX;clear hkb hms hh Z be ap hlen B Y ag R p hX b0 kX k1 k3 E C s U
 go_enter Tryz.func144,Tryz.ntmps144
 go_upto_region 1 with(fail);have hX':=HX.out;rw[hX'];clear hX';go_upto_region 2 with(fail);obtain⟨V,hV⟩:∃V,X.alloc (.cells bl 4)=V:=⟨_,rfl⟩;rw[hV];obtain⟨I,N⟩:∃n,X.heap.size=n:=⟨_,rfl⟩;rw[N]
 have b1:Blk V I 4 (aB (fi H c x k 0)).toArray:=by
  rw[show fi H c x k 0=List.replicate k false by simp[fi],b6.out,<-hV,<-N];exact Blk.new _ _ _
 have kV:Kept [] X V:=hV▸(Kept.refl _ _).alloc _;have c2:=hid b1;have b3:=hid (bv.out.trans kV);have b5:=hid (c1.out.kept kV (by simp));have a7:Hid (W0.heap.size < I):=hid (by rw[<-N,<-HX.out,World.size_alloc];omega);have b9:=K1.out V b3.out;clear an hV N b1 kV b8;go_wp2_with fail
 go_loopw [21] (fun i wr=>∃j:Nat,j<=k/\i=.int .i64 (j:Int)/\Kept [I] V wr/\Blk wr I 4 (aB (fi H c x k j)).toArray) (fun i _=>k - (intOf i).toNat)
 case atStart=>exact⟨0,Nat.zero_le _,rfl,Kept.refl _ _,c2.out⟩
 case round =>
  obtain⟨j,hj,rfl,O,a3⟩:=hrel;have b4:=hid O;have b7:=hid a3;have G:=hid (b3.out.fresh O (by have:=a7.out;simp;omega))
  by_cases hlt:j < k
  ·have hlt':(j:Int) < (k:Int):=by omega
   obtain⟨mb,mo,rfl,ao⟩:=bs.out.at_ (by have:=a8.out;omega);obtain⟨m,hm⟩:∃m,c.ms[j]?=some m:=⟨_,List.getElem?_eq_getElem (by have:=a8.out;omega)⟩;obtain⟨cm,p1,p2,p3⟩:=ao j m hm;obtain⟨vb,vt,rfl,av,ab⟩:=p2;obtain⟨ba,bc,rfl,_,_⟩:=aj.form av;obtain⟨ta,tc,rfl,_,bd⟩:=ab.form;have y0:=Kept.cellOf (p3 0 _ (by decide) rfl) _ G.out;have y1:=Kept.cellOf (p3 1 _ (by decide) rfl) _ G.out;have y2:=Kept.cellOf (p3 2 _ (by decide) rfl) _ G.out;simp only[Nat.add_zero,<-Nat.add_assoc]at y0 y1 y2;have bt:=hid hm;clear ao p1 p3 av ab bd hm O a3;go_upto_region 5 with(fail);obtain⟨gm,a2⟩:∃y,wr.heap.size=y:=⟨_,rfl⟩;obtain⟨tn,aa⟩:∃n,m.tickets.length=n:=⟨_,rfl⟩;obtain⟨bn,au⟩:∃n,m.binds.length=n:=⟨_,rfl⟩;rw[aa,au];obtain⟨g,M⟩:∃y,wr.alloc (.cells #[.slice ba bn bc,.slice ta tn tc,.int .i64 m.rev] 74)=y:=⟨_,rfl⟩;have kB:Kept [] wr g:=M▸(Kept.refl _ _).alloc _
   have a4:Blk g gm 74 #[.slice ba bn bc,.slice ta tn tc,.int .i64 m.rev]:=by rw[<-M,<-a2];exact Blk.new _ _ _
   rw[M,a2];have bx:=hid kB;have L:=G.out.trans kB;have aq:=b7.out.kept kB (by simp);have D:=(b5.out.kept b4.out (by have:=a7.out;simp;omega)).kept kB (by simp);have c6:=hid aq;obtain⟨f,A⟩:∃r,m.rev=r:=⟨_,rfl⟩;obtain⟨af,a5⟩:∃r,x.asof=r:=⟨_,rfl⟩;obtain⟨J,a0⟩:∃r,x.hold=r:=⟨_,rfl⟩;rw[A]at a4;rw[a5,a0]at D;obtain⟨Q,F⟩:∃b,canB H q j=b:=⟨_,rfl⟩;obtain⟨rb,ro,ad,ac⟩:=bo.out.at_ (by omega);subst ad;have z2:g.cell? ⟨gm,2,none⟩=some (.int .i64 f):=a4.cell 2;have e0:g.cell? ⟨W0.heap.size,0,none⟩=some (.int .i64 (q:Int)):=D.cell 0;have e2:g.cell? ⟨W0.heap.size,2,none⟩=some (.int .i64 af):=D.cell 2;have e3:g.cell? ⟨W0.heap.size,3,none⟩=some (.int .i64 J):=D.cell 3;have c3:=K3.out g L;have c4:g.cell? ⟨P,ho+q,none⟩=some (.slice (some ⟨rb,ro,none⟩) k rc):=Kept.cellOf (c0.out q _ bp.out) _ L
   have c5:g.cell? ⟨rb,ro+j,none⟩=some (.bool Q):=Kept.cellOf (ac j _ (by
    rw[<-F]
    unfold canB tf aB
    rw[b2.out,List.getElem?_map,Option.getD_some,List.getElem?_eq_getElem (by have:=bq.out;omega)]
    rfl)) _ L
   have hq':(q:Int) < (nh:Int):=hq
   have t:Hid (fI H c x j=(Q&&(decide (f=-1) ||decide (af<=f))&&(decide (J=-1) ||decide (J=(j:Int))))):=hid (by
    unfold fI
    rw[bt.out,br.out,Int.toNat_natCast,F,a5,a0]
    simp[A])
   clear M a2 aa au kB a4 aq D L F ac A a5 a0 y0 y1 y2 b9;have m1:∀w',Kept [] g w'->w'.cell? ⟨kb,3,none⟩=some (.slice (some ⟨P,ho,none⟩) nh hc):=Kept.cellOf c3;have m2:∀w',Kept [] g w'->w'.cell? ⟨gm,2,none⟩=some (.int .i64 f):=Kept.cellOf z2;have m3:∀w',Kept [] g w'->w'.cell? ⟨W0.heap.size,0,none⟩=some (.int .i64 (q:Int)):=Kept.cellOf e0;have m4:∀w',Kept [] g w'->w'.cell? ⟨W0.heap.size,2,none⟩=some (.int .i64 af):=Kept.cellOf e2;have m5:∀w',Kept [] g w'->w'.cell? ⟨W0.heap.size,3,none⟩=some (.int .i64 J):=Kept.cellOf e3;have m6:∀w',Kept [] g w'->w'.cell? ⟨P,ho+q,none⟩=some (.slice (some ⟨rb,ro,none⟩) k rc):=Kept.cellOf c4;have m7:∀w',Kept [] g w'->w'.cell? ⟨rb,ro+j,none⟩=some (.bool Q):=Kept.cellOf c5;clear c3 z2 e0 e2 e3 c4 c5;refine ar [37] (fun w'=>Kept [] g w') (by kernel_rfl) (Kept.refl _ _).drew (fun hH=>?_);obtain⟨w7,a9⟩:∃y,g.drew=y:=⟨_,rfl⟩;rw[a9]at hH ⊢;clear a9;have o:=c6.out.kept hH (by simp)
   have c7:w7.cell? ⟨I,j,none⟩=some (.bool false):=by
    rw[o.cell j];exact tE hlt
   have f7:=o.frozen j
   have u:Hid (∀b:Bool,fI H c x j=b->Kept [I] V (w7.setCell ⟨I,j,none⟩ (.bool b))/\Blk (w7.setCell ⟨I,j,none⟩ (.bool b)) I 4 (aB (fi H c x k (j+1))).toArray):=hid fun b hb=>by
    refine⟨(b4.out.trans ((bx.out.trans hH).mono (by simp))).trans ((Kept.refl _ _).setCell (Or.inl (by simp)) _),?_⟩;have:=o.set_ j (.bool b);rw[<-hb,tD hlt]at this;rw[<-hb];exact this
   have c8:=hid o;clear o;refine ah [37] (i:=0) (v:=?tv0a) rfl (by kernel_rfl) (by kernel_rfl) (by kernel_rfl) (by kernel_rfl) (fun _ _ _ h=>h) (Or.inl ⟨by rfl,?ty0a⟩) hH ?tr0a
   case ty0a=>intro w' d;(try dsimp only at d);go_simp;first|done|with_reducible rfl
   (try simp only[Act.put,List.setIfInBounds_toArray,List.set_cons_zero,List.set_cons_succ])
   refine ah [37] (i:=1) (v:=?tv1a) rfl (by kernel_rfl) (by kernel_rfl) (by kernel_rfl) (by kernel_rfl) (fun _ _ _ h=>h) (Or.inl ⟨by rfl,?ty1a⟩) hH ?tr1a
   case ty1a=>intro w' d;(try dsimp only at d);go_simp;first|done|with_reducible rfl
   (try simp only[Act.put,List.setIfInBounds_toArray,List.set_cons_zero,List.set_cons_succ])
   refine ah [37] (i:=2) (v:=?tv2a) rfl (by kernel_rfl) (by kernel_rfl) (by kernel_rfl) (by kernel_rfl) (fun _ _ _ h=>h) (Or.inl ⟨by rfl,?ty2a⟩) hH ?tr2a
   case ty2a=>intro w' d;(try dsimp only at d);go_simp;first|done|with_reducible rfl
   (try simp only[Act.put,List.setIfInBounds_toArray,List.set_cons_zero,List.set_cons_succ])
   refine ah [37] (i:=3) (v:=?tv3a) rfl (by kernel_rfl) (by kernel_rfl) (by kernel_rfl) (by kernel_rfl) (fun _ _ _ h=>h) (Or.inl ⟨by rfl,?ty3a⟩) hH ?tr3a
   case ty3a=>intro w' d;(try dsimp only at d);go_simp;first|done|with_reducible rfl
   (try simp only[Act.put,List.setIfInBounds_toArray,List.set_cons_zero,List.set_cons_succ])
   refine ah [37] (i:=4) (v:=?tv4a) rfl (by kernel_rfl) (by kernel_rfl) (by kernel_rfl) (by kernel_rfl) (fun _ _ _ h=>h) (Or.inl ⟨by rfl,?ty4a⟩) hH ?tr4a
   case ty4a=>intro w' d;(try dsimp only at d);go_simp;first|done|with_reducible rfl
   (try simp only[Act.put,List.setIfInBounds_toArray,List.set_cons_zero,List.set_cons_succ])
   refine ah [37] (i:=5) (v:=?tv5a) rfl (by kernel_rfl) (by kernel_rfl) (by kernel_rfl) (by kernel_rfl) (fun _ _ _ h=>h) (Or.inl ⟨by rfl,?ty5a⟩) hH ?tr5a
   case ty5a=>intro w' d;(try dsimp only at d);go_simp;first|done|with_reducible rfl
   (try simp only[Act.put,List.setIfInBounds_toArray,List.set_cons_zero,List.set_cons_succ])
   refine ah [37] (i:=6) (v:=?tv6a) rfl (by kernel_rfl) (by kernel_rfl) (by kernel_rfl) (by kernel_rfl) (fun _ _ _ h=>h) (Or.inl ⟨by rfl,?ty6a⟩) hH ?tr6a
   case ty6a=>intro w' d;(try dsimp only at d);go_simp;first|done|with_reducible rfl
   (try simp only[Act.put,List.setIfInBounds_toArray,List.set_cons_zero,List.set_cons_succ])
   refine ah [37] (i:=7) (v:=?tv7a) rfl (by kernel_rfl) (by kernel_rfl) (by kernel_rfl) (by kernel_rfl) (fun _ _ _ h=>h) (Or.inl ⟨by rfl,?ty7a⟩) hH ?tr7a
   case ty7a=>intro w' d;(try dsimp only at d);go_simp;first|done|with_reducible rfl
   (try simp only[Act.put,List.setIfInBounds_toArray,List.set_cons_zero,List.set_cons_succ])
   refine ah [37] (i:=8) (v:=?tv8a) rfl (by kernel_rfl) (by kernel_rfl) (by kernel_rfl) (by kernel_rfl) (fun _ _ _ h=>h) (Or.inl ⟨by rfl,?ty8a⟩) hH ?tr8a
   case ty8a=>intro w' d;(try dsimp only at d);go_simp;first|done|with_reducible rfl
   (try simp only[Act.put,List.setIfInBounds_toArray,List.set_cons_zero,List.set_cons_succ])
   refine ah [37] (i:=9) (v:=?tv9a) rfl (by kernel_rfl) (by kernel_rfl) (by kernel_rfl) (by kernel_rfl) (fun _ _ _ h=>h) (Or.inl ⟨by rfl,?ty9a⟩) hH ?tr9a
   case ty9a=>intro w' d;(try dsimp only at d);go_simp;first|done|with_reducible rfl
   (try simp only[Act.put,List.setIfInBounds_toArray,List.set_cons_zero,List.set_cons_succ])
   refine ah [37] (i:=10) (v:=?tv10a) rfl (by kernel_rfl) (by kernel_rfl) (by kernel_rfl) (by kernel_rfl) (fun _ _ _ h=>h) (Or.inl ⟨by rfl,?ty10a⟩) hH ?tr10a
   case ty10a=>intro w' d;(try dsimp only at d);go_simp;first|done|with_reducible rfl
   (try simp only[Act.put,List.setIfInBounds_toArray,List.set_cons_zero,List.set_cons_succ])
   refine ah [37] (i:=11) (v:=?tv11a) rfl (by kernel_rfl) (by kernel_rfl) (by kernel_rfl) (by kernel_rfl) (fun _ _ _ h=>h) (Or.inl ⟨by rfl,?ty11a⟩) hH ?tr11a
   case ty11a=>intro w' d;(try dsimp only at d);go_simp;first|done|with_reducible rfl
   (try simp only[Act.put,List.setIfInBounds_toArray,List.set_cons_zero,List.set_cons_succ])
   refine ah [37] (i:=12) (v:=?tv12a) rfl (by kernel_rfl) (by kernel_rfl) (by kernel_rfl) (by kernel_rfl) (fun _ _ _ h=>h) (Or.inl ⟨by rfl,?ty12a⟩) hH ?tr12a
   case ty12a=>intro w' d;(try dsimp only at d);go_simp;first|done|with_reducible rfl
   (try simp only[Act.put,List.setIfInBounds_toArray,List.set_cons_zero,List.set_cons_succ])
   refine ah [37] (i:=13) (v:=?tv13a) rfl (by kernel_rfl) (by kernel_rfl) (by kernel_rfl) (by kernel_rfl) (fun _ _ _ h=>h) (Or.inl ⟨by rfl,?ty13a⟩) hH ?tr13a
   case ty13a=>intro w' d;(try dsimp only at d);go_simp;first|done|with_reducible rfl
   (try simp only[Act.put,List.setIfInBounds_toArray,List.set_cons_zero,List.set_cons_succ])
   cases Q with
   |false =>
    refine ah [37] (i:=14) (v:=undef) rfl (by kernel_rfl) (by kernel_rfl) (by kernel_rfl) (by kernel_rfl) (fun _ _ _ h=>h) (Or.inr ⟨by rfl,rfl⟩) hH ?tr14b
    (try simp only[Act.put,List.setIfInBounds_toArray,List.set_cons_zero,List.set_cons_succ])
    refine ah [37] (i:=15) (v:=undef) rfl (by kernel_rfl) (by kernel_rfl) (by kernel_rfl) (by kernel_rfl) (fun _ _ _ h=>h) (Or.inr ⟨by rfl,rfl⟩) hH ?tr15b
    (try simp only[Act.put,List.setIfInBounds_toArray,List.set_cons_zero,List.set_cons_succ])
    refine ah [37] (i:=16) (v:=undef) rfl (by kernel_rfl) (by kernel_rfl) (by kernel_rfl) (by kernel_rfl) (fun _ _ _ h=>h) (Or.inr ⟨by rfl,rfl⟩) hH ?tr16b
    (try simp only[Act.put,List.setIfInBounds_toArray,List.set_cons_zero,List.set_cons_succ])
    refine ah [37] (i:=17) (v:=undef) rfl (by kernel_rfl) (by kernel_rfl) (by kernel_rfl) (by kernel_rfl) (fun _ _ _ h=>h) (Or.inr ⟨by rfl,rfl⟩) hH ?tr17b
    (try simp only[Act.put,List.setIfInBounds_toArray,List.set_cons_zero,List.set_cons_succ])
    refine ah [37] (i:=18) (v:=undef) rfl (by kernel_rfl) (by kernel_rfl) (by kernel_rfl) (by kernel_rfl) (fun _ _ _ h=>h) (Or.inr ⟨by rfl,rfl⟩) hH ?tr18b
    (try simp only[Act.put,List.setIfInBounds_toArray,List.set_cons_zero,List.set_cons_succ])
    refine ah [37] (i:=19) (v:=undef) rfl (by kernel_rfl) (by kernel_rfl) (by kernel_rfl) (by kernel_rfl) (fun _ _ _ h=>h) (Or.inr ⟨by rfl,rfl⟩) hH ?tr19b
    (try simp only[Act.put,List.setIfInBounds_toArray,List.set_cons_zero,List.set_cons_succ])
    refine ah [37] (i:=20) (v:=undef) rfl (by kernel_rfl) (by kernel_rfl) (by kernel_rfl) (by kernel_rfl) (fun _ _ _ h=>h) (Or.inr ⟨by rfl,rfl⟩) hH ?tr20b
    (try simp only[Act.put,List.setIfInBounds_toArray,List.set_cons_zero,List.set_cons_succ])
    refine ah [37] (i:=21) (v:=undef) rfl (by kernel_rfl) (by kernel_rfl) (by kernel_rfl) (by kernel_rfl) (fun _ _ _ h=>h) (Or.inr ⟨by rfl,rfl⟩) hH ?tr21b
    (try simp only[Act.put,List.setIfInBounds_toArray,List.set_cons_zero,List.set_cons_succ])
    refine ah [37] (i:=22) (v:=undef) rfl (by kernel_rfl) (by kernel_rfl) (by kernel_rfl) (by kernel_rfl) (fun _ _ _ h=>h) (Or.inr ⟨by rfl,rfl⟩) hH ?tr22b
    (try simp only[Act.put,List.setIfInBounds_toArray,List.set_cons_zero,List.set_cons_succ])
    refine ah [37] (i:=23) (v:=undef) rfl (by kernel_rfl) (by kernel_rfl) (by kernel_rfl) (by kernel_rfl) (fun _ _ _ h=>h) (Or.inr ⟨by rfl,rfl⟩) hH ?tr23b
    (try simp only[Act.put,List.setIfInBounds_toArray,List.set_cons_zero,List.set_cons_succ])
    refine ah [37] (i:=24) (v:=?tv24b) rfl (by kernel_rfl) (by kernel_rfl) (by kernel_rfl) (by kernel_rfl) (fun _ _ _ h=>h) (Or.inl ⟨by rfl,?ty24b⟩) hH ?tr24b
    case ty24b=>intro w' d;(try dsimp only at d);go_simp;first|done|with_reducible rfl
    (try simp only[Act.put,List.setIfInBounds_toArray,List.set_cons_zero,List.set_cons_succ])
    refine ah [37] (i:=25) (v:=?tv25b) rfl (by kernel_rfl) (by kernel_rfl) (by kernel_rfl) (by kernel_rfl) (fun _ _ _ h=>h) (Or.inl ⟨by rfl,?ty25b⟩) hH ?tr25b
    case ty25b=>intro w' d;(try dsimp only at d);go_simp;first|done|with_reducible rfl
    (try simp only[Act.put,List.setIfInBounds_toArray,List.set_cons_zero,List.set_cons_succ])
    refine ah [37] (i:=26) (v:=undef) rfl (by kernel_rfl) (by kernel_rfl) (by kernel_rfl) (by kernel_rfl) (fun _ _ _ h=>h) (Or.inr ⟨by rfl,rfl⟩) hH ?tr26b
    (try simp only[Act.put,List.setIfInBounds_toArray,List.set_cons_zero,List.set_cons_succ])
    refine ah [37] (i:=27) (v:=undef) rfl (by kernel_rfl) (by kernel_rfl) (by kernel_rfl) (by kernel_rfl) (fun _ _ _ h=>h) (Or.inr ⟨by rfl,rfl⟩) hH ?tr27b
    (try simp only[Act.put,List.setIfInBounds_toArray,List.set_cons_zero,List.set_cons_succ])
    refine ah [37] (i:=28) (v:=undef) rfl (by kernel_rfl) (by kernel_rfl) (by kernel_rfl) (by kernel_rfl) (fun _ _ _ h=>h) (Or.inr ⟨by rfl,rfl⟩) hH ?tr28b
    (try simp only[Act.put,List.setIfInBounds_toArray,List.set_cons_zero,List.set_cons_succ])
    refine ah [37] (i:=29) (v:=undef) rfl (by kernel_rfl) (by kernel_rfl) (by kernel_rfl) (by kernel_rfl) (fun _ _ _ h=>h) (Or.inr ⟨by rfl,rfl⟩) hH ?tr29b
    (try simp only[Act.put,List.setIfInBounds_toArray,List.set_cons_zero,List.set_cons_succ])
    refine ah [37] (i:=30) (v:=undef) rfl (by kernel_rfl) (by kernel_rfl) (by kernel_rfl) (by kernel_rfl) (fun _ _ _ h=>h) (Or.inr ⟨by rfl,rfl⟩) hH ?tr30b
    (try simp only[Act.put,List.setIfInBounds_toArray,List.set_cons_zero,List.set_cons_succ])
    refine ah [37] (i:=31) (v:=undef) rfl (by kernel_rfl) (by kernel_rfl) (by kernel_rfl) (by kernel_rfl) (fun _ _ _ h=>h) (Or.inr ⟨by rfl,rfl⟩) hH ?tr31b
    (try simp only[Act.put,List.setIfInBounds_toArray,List.set_cons_zero,List.set_cons_succ])
    refine ah [37] (i:=32) (v:=undef) rfl (by kernel_rfl) (by kernel_rfl) (by kernel_rfl) (by kernel_rfl) (fun _ _ _ h=>h) (Or.inr ⟨by rfl,rfl⟩) hH ?tr32b
    (try simp only[Act.put,List.setIfInBounds_toArray,List.set_cons_zero,List.set_cons_succ])
    refine ah [37] (i:=33) (v:=undef) rfl (by kernel_rfl) (by kernel_rfl) (by kernel_rfl) (by kernel_rfl) (fun _ _ _ h=>h) (Or.inr ⟨by rfl,rfl⟩) hH ?tr33b
    (try simp only[Act.put,List.setIfInBounds_toArray,List.set_cons_zero,List.set_cons_succ])
    refine ah [37] (i:=34) (v:=undef) rfl (by kernel_rfl) (by kernel_rfl) (by kernel_rfl) (by kernel_rfl) (fun _ _ _ h=>h) (Or.inr ⟨by rfl,rfl⟩) hH ?tr34b
    (try simp only[Act.put,List.setIfInBounds_toArray,List.set_cons_zero,List.set_cons_succ])
    refine ah [37] (i:=35) (v:=?tv35b) rfl (by kernel_rfl) (by kernel_rfl) (by kernel_rfl) (by kernel_rfl) (fun _ _ _ h=>h) (Or.inl ⟨by rfl,?ty35b⟩) hH ?tr35b
    case ty35b=>intro w' d;(try dsimp only at d);go_simp;first|done|with_reducible rfl
    (try simp only[Act.put,List.setIfInBounds_toArray,List.set_cons_zero,List.set_cons_succ])
    refine ah [37] (i:=36) (v:=?tv36b) rfl (by kernel_rfl) (by kernel_rfl) (by kernel_rfl) (by kernel_rfl) (fun _ _ _ h=>h) (Or.inl ⟨by rfl,?ty36b⟩) hH ?tr36b
    case ty36b=>intro w' d;(try dsimp only at d);go_simp;first|done|with_reducible rfl
    (try simp only[Act.put,List.setIfInBounds_toArray,List.set_cons_zero,List.set_cons_succ])
    refine ai (rs:=[37]) (by kernel_rfl) (by simp) ?_;refine ae.last rfl (by kernel_rfl) (fun K hK=>?_);go_simp;refine hK.out _ _ ?_;clear hK K
    (try simp only[Act.put,List.setIfInBounds_toArray,List.set_cons_zero,List.set_cons_succ])
    refine ak (by kernel_rfl) ?_ _;go_wp2_with fail
    go_roundw
    case rel =>
     obtain⟨z,w⟩:=u.out (false) (t.out.trans (by simp));exact⟨j+1,by omega,by go_num,z,w⟩
    case measure=>simp[intOf];omega
   |true =>
    refine ah [37] (i:=14) (v:=?tv14c) rfl (by kernel_rfl) (by kernel_rfl) (by kernel_rfl) (by kernel_rfl) (fun _ _ _ h=>h) (Or.inl ⟨by rfl,?ty14c⟩) hH ?tr14c
    case ty14c=>intro w' d;(try dsimp only at d);go_simp;first|done|with_reducible rfl
    (try simp only[Act.put,List.setIfInBounds_toArray,List.set_cons_zero,List.set_cons_succ])
    refine ah [37] (i:=15) (v:=?tv15c) rfl (by kernel_rfl) (by kernel_rfl) (by kernel_rfl) (by kernel_rfl) (fun _ _ _ h=>h) (Or.inl ⟨by rfl,?ty15c⟩) hH ?tr15c
    case ty15c=>intro w' d;(try dsimp only at d);go_simp;first|done|with_reducible rfl
    (try simp only[Act.put,List.setIfInBounds_toArray,List.set_cons_zero,List.set_cons_succ])
    by_cases hv:f=-1
    ·subst hv;refine ah [37] (i:=16) (v:=?tv16d) rfl (by kernel_rfl) (by kernel_rfl) (by kernel_rfl) (by kernel_rfl) (fun _ _ _ h=>h) (Or.inl ⟨by rfl,?ty16d⟩) hH ?tr16d
     case ty16d=>intro w' d;(try dsimp only at d);go_simp;first|done|with_reducible rfl
     (try simp only[Act.put,List.setIfInBounds_toArray,List.set_cons_zero,List.set_cons_succ])
     refine ah [37] (i:=17) (v:=?tv17d) rfl (by kernel_rfl) (by kernel_rfl) (by kernel_rfl) (by kernel_rfl) (fun _ _ _ h=>h) (Or.inl ⟨by rfl,?ty17d⟩) hH ?tr17d
     case ty17d=>intro w' d;(try dsimp only at d);go_simp;first|done|with_reducible rfl
     (try simp only[Act.put,List.setIfInBounds_toArray,List.set_cons_zero,List.set_cons_succ])
     refine ah [37] (i:=18) (v:=undef) rfl (by kernel_rfl) (by kernel_rfl) (by kernel_rfl) (by kernel_rfl) (fun _ _ _ h=>h) (Or.inr ⟨by rfl,rfl⟩) hH ?tr18d
     (try simp only[Act.put,List.setIfInBounds_toArray,List.set_cons_zero,List.set_cons_succ])
     refine ah [37] (i:=19) (v:=undef) rfl (by kernel_rfl) (by kernel_rfl) (by kernel_rfl) (by kernel_rfl) (fun _ _ _ h=>h) (Or.inr ⟨by rfl,rfl⟩) hH ?tr19d
     (try simp only[Act.put,List.setIfInBounds_toArray,List.set_cons_zero,List.set_cons_succ])
     refine ah [37] (i:=20) (v:=undef) rfl (by kernel_rfl) (by kernel_rfl) (by kernel_rfl) (by kernel_rfl) (fun _ _ _ h=>h) (Or.inr ⟨by rfl,rfl⟩) hH ?tr20d
     (try simp only[Act.put,List.setIfInBounds_toArray,List.set_cons_zero,List.set_cons_succ])
     refine ah [37] (i:=21) (v:=undef) rfl (by kernel_rfl) (by kernel_rfl) (by kernel_rfl) (by kernel_rfl) (fun _ _ _ h=>h) (Or.inr ⟨by rfl,rfl⟩) hH ?tr21d
     (try simp only[Act.put,List.setIfInBounds_toArray,List.set_cons_zero,List.set_cons_succ])
     refine ah [37] (i:=22) (v:=undef) rfl (by kernel_rfl) (by kernel_rfl) (by kernel_rfl) (by kernel_rfl) (fun _ _ _ h=>h) (Or.inr ⟨by rfl,rfl⟩) hH ?tr22d
     (try simp only[Act.put,List.setIfInBounds_toArray,List.set_cons_zero,List.set_cons_succ])
     refine ah [37] (i:=23) (v:=?tv23d) rfl (by kernel_rfl) (by kernel_rfl) (by kernel_rfl) (by kernel_rfl) (fun _ _ _ h=>h) (Or.inl ⟨by rfl,?ty23d⟩) hH ?tr23d
     case ty23d=>intro w' d;(try dsimp only at d);go_simp;first|done|with_reducible rfl
     (try simp only[Act.put,List.setIfInBounds_toArray,List.set_cons_zero,List.set_cons_succ])
     refine ah [37] (i:=24) (v:=?tv24d) rfl (by kernel_rfl) (by kernel_rfl) (by kernel_rfl) (by kernel_rfl) (fun _ _ _ h=>h) (Or.inl ⟨by rfl,?ty24d⟩) hH ?tr24d
     case ty24d=>intro w' d;(try dsimp only at d);go_simp;first|done|with_reducible rfl
     (try simp only[Act.put,List.setIfInBounds_toArray,List.set_cons_zero,List.set_cons_succ])
     refine ah [37] (i:=25) (v:=?tv25d) rfl (by kernel_rfl) (by kernel_rfl) (by kernel_rfl) (by kernel_rfl) (fun _ _ _ h=>h) (Or.inl ⟨by rfl,?ty25d⟩) hH ?tr25d
     case ty25d=>intro w' d;(try dsimp only at d);go_simp;first|done|with_reducible rfl
     (try simp only[Act.put,List.setIfInBounds_toArray,List.set_cons_zero,List.set_cons_succ])
     refine ah [37] (i:=26) (v:=?tv26d) rfl (by kernel_rfl) (by kernel_rfl) (by kernel_rfl) (by kernel_rfl) (fun _ _ _ h=>h) (Or.inl ⟨by rfl,?ty26d⟩) hH ?tr26d
     case ty26d=>intro w' d;(try dsimp only at d);go_simp;first|done|with_reducible rfl
     (try simp only[Act.put,List.setIfInBounds_toArray,List.set_cons_zero,List.set_cons_succ])
     refine ah [37] (i:=27) (v:=?tv27d) rfl (by kernel_rfl) (by kernel_rfl) (by kernel_rfl) (by kernel_rfl) (fun _ _ _ h=>h) (Or.inl ⟨by rfl,?ty27d⟩) hH ?tr27d
     case ty27d=>intro w' d;(try dsimp only at d);go_simp;first|done|with_reducible rfl
     (try simp only[Act.put,List.setIfInBounds_toArray,List.set_cons_zero,List.set_cons_succ])
     by_cases hh:J=-1
     ·subst hh;refine ah [37] (i:=28) (v:=?tv28dy) rfl (by kernel_rfl) (by kernel_rfl) (by kernel_rfl) (by kernel_rfl) (fun _ _ _ h=>h) (Or.inl ⟨by rfl,?ty28dy⟩) hH ?tr28dy
      case ty28dy=>intro w' d;(try dsimp only at d);go_simp;first|done|with_reducible rfl
      (try simp only[Act.put,List.setIfInBounds_toArray,List.set_cons_zero,List.set_cons_succ])
      refine ah [37] (i:=29) (v:=?tv29dy) rfl (by kernel_rfl) (by kernel_rfl) (by kernel_rfl) (by kernel_rfl) (fun _ _ _ h=>h) (Or.inl ⟨by rfl,?ty29dy⟩) hH ?tr29dy
      case ty29dy=>intro w' d;(try dsimp only at d);go_simp;first|done|with_reducible rfl
      (try simp only[Act.put,List.setIfInBounds_toArray,List.set_cons_zero,List.set_cons_succ])
      refine ah [37] (i:=30) (v:=undef) rfl (by kernel_rfl) (by kernel_rfl) (by kernel_rfl) (by kernel_rfl) (fun _ _ _ h=>h) (Or.inr ⟨by rfl,rfl⟩) hH ?tr30dy
      (try simp only[Act.put,List.setIfInBounds_toArray,List.set_cons_zero,List.set_cons_succ])
      refine ah [37] (i:=31) (v:=undef) rfl (by kernel_rfl) (by kernel_rfl) (by kernel_rfl) (by kernel_rfl) (fun _ _ _ h=>h) (Or.inr ⟨by rfl,rfl⟩) hH ?tr31dy
      (try simp only[Act.put,List.setIfInBounds_toArray,List.set_cons_zero,List.set_cons_succ])
      refine ah [37] (i:=32) (v:=undef) rfl (by kernel_rfl) (by kernel_rfl) (by kernel_rfl) (by kernel_rfl) (fun _ _ _ h=>h) (Or.inr ⟨by rfl,rfl⟩) hH ?tr32dy
      (try simp only[Act.put,List.setIfInBounds_toArray,List.set_cons_zero,List.set_cons_succ])
      refine ah [37] (i:=33) (v:=undef) rfl (by kernel_rfl) (by kernel_rfl) (by kernel_rfl) (by kernel_rfl) (fun _ _ _ h=>h) (Or.inr ⟨by rfl,rfl⟩) hH ?tr33dy
      (try simp only[Act.put,List.setIfInBounds_toArray,List.set_cons_zero,List.set_cons_succ])
      refine ah [37] (i:=34) (v:=?tv34dy) rfl (by kernel_rfl) (by kernel_rfl) (by kernel_rfl) (by kernel_rfl) (fun _ _ _ h=>h) (Or.inl ⟨by rfl,?ty34dy⟩) hH ?tr34dy
      case ty34dy=>intro w' d;(try dsimp only at d);go_simp;first|done|with_reducible rfl
      (try simp only[Act.put,List.setIfInBounds_toArray,List.set_cons_zero,List.set_cons_succ])
      refine ah [37] (i:=35) (v:=?tv35dy) rfl (by kernel_rfl) (by kernel_rfl) (by kernel_rfl) (by kernel_rfl) (fun _ _ _ h=>h) (Or.inl ⟨by rfl,?ty35dy⟩) hH ?tr35dy
      case ty35dy=>intro w' d;(try dsimp only at d);go_simp;first|done|with_reducible rfl
      (try simp only[Act.put,List.setIfInBounds_toArray,List.set_cons_zero,List.set_cons_succ])
      refine ah [37] (i:=36) (v:=?tv36dy) rfl (by kernel_rfl) (by kernel_rfl) (by kernel_rfl) (by kernel_rfl) (fun _ _ _ h=>h) (Or.inl ⟨by rfl,?ty36dy⟩) hH ?tr36dy
      case ty36dy=>intro w' d;(try dsimp only at d);go_simp;first|done|with_reducible rfl
      (try simp only[Act.put,List.setIfInBounds_toArray,List.set_cons_zero,List.set_cons_succ])
      refine ai (rs:=[37]) (by kernel_rfl) (by simp) ?_;refine ae.last rfl (by kernel_rfl) (fun K hK=>?_);go_simp;refine hK.out _ _ ?_;clear hK K
      (try simp only[Act.put,List.setIfInBounds_toArray,List.set_cons_zero,List.set_cons_succ])
      refine ak (by kernel_rfl) ?_ _;go_wp2_with fail
      go_roundw
      case rel =>
       obtain⟨z,w⟩:=u.out (true) (t.out.trans (by simp));exact⟨j+1,by omega,by go_num,z,w⟩
      case measure=>simp[intOf];omega
     ·skip
      have a1:(J==-1)=false:=by simpa using hh
      refine ah [37] (i:=28) (v:=?tv28dn) rfl (by kernel_rfl) (by kernel_rfl) (by kernel_rfl) (by kernel_rfl) (fun _ _ _ h=>h) (Or.inl ⟨by rfl,?ty28dn⟩) hH ?tr28dn
      case ty28dn=>intro w' d;(try dsimp only at d);go_simp;first|done|with_reducible rfl
      (try simp only[Act.put,List.setIfInBounds_toArray,List.set_cons_zero,List.set_cons_succ])
      refine ah [37] (i:=29) (v:=?tv29dn) rfl (by kernel_rfl) (by kernel_rfl) (by kernel_rfl) (by kernel_rfl) (fun _ _ _ h=>h) (Or.inl ⟨by rfl,?ty29dn⟩) hH ?tr29dn
      case ty29dn=>intro w' d;(try dsimp only at d);go_simp;first|done|with_reducible rfl
      (try simp only[Act.put,List.setIfInBounds_toArray,List.set_cons_zero,List.set_cons_succ])
      (try simp only[a1])
      refine ah [37] (i:=30) (v:=?tv30dn) rfl (by kernel_rfl) (by kernel_rfl) (by kernel_rfl) (by kernel_rfl) (fun _ _ _ h=>h) (Or.inl ⟨by rfl,?ty30dn⟩) hH ?tr30dn
      case ty30dn=>intro w' d;(try dsimp only at d);go_simp;first|done|with_reducible rfl
      (try simp only[Act.put,List.setIfInBounds_toArray,List.set_cons_zero,List.set_cons_succ])
      refine ah [37] (i:=31) (v:=?tv31dn) rfl (by kernel_rfl) (by kernel_rfl) (by kernel_rfl) (by kernel_rfl) (fun _ _ _ h=>h) (Or.inl ⟨by rfl,?ty31dn⟩) hH ?tr31dn
      case ty31dn=>intro w' d;(try dsimp only at d);go_simp;first|done|with_reducible rfl
      (try simp only[Act.put,List.setIfInBounds_toArray,List.set_cons_zero,List.set_cons_succ])
      refine ah [37] (i:=32) (v:=?tv32dn) rfl (by kernel_rfl) (by kernel_rfl) (by kernel_rfl) (by kernel_rfl) (fun _ _ _ h=>h) (Or.inl ⟨by rfl,?ty32dn⟩) hH ?tr32dn
      case ty32dn=>intro w' d;(try dsimp only at d);go_simp;first|done|with_reducible rfl
      (try simp only[Act.put,List.setIfInBounds_toArray,List.set_cons_zero,List.set_cons_succ])
      refine ah [37] (i:=33) (v:=?tv33dn) rfl (by kernel_rfl) (by kernel_rfl) (by kernel_rfl) (by kernel_rfl) (fun _ _ _ h=>h) (Or.inl ⟨by rfl,?ty33dn⟩) hH ?tr33dn
      case ty33dn=>intro w' d;(try dsimp only at d);go_simp;first|done|with_reducible rfl
      (try simp only[Act.put,List.setIfInBounds_toArray,List.set_cons_zero,List.set_cons_succ])
      refine ah [37] (i:=34) (v:=?tv34dn) rfl (by kernel_rfl) (by kernel_rfl) (by kernel_rfl) (by kernel_rfl) (fun _ _ _ h=>h) (Or.inl ⟨by rfl,?ty34dn⟩) hH ?tr34dn
      case ty34dn=>intro w' d;(try dsimp only at d);go_simp;first|done|with_reducible rfl
      (try simp only[Act.put,List.setIfInBounds_toArray,List.set_cons_zero,List.set_cons_succ])
      refine ah [37] (i:=35) (v:=?tv35dn) rfl (by kernel_rfl) (by kernel_rfl) (by kernel_rfl) (by kernel_rfl) (fun _ _ _ h=>h) (Or.inl ⟨by rfl,?ty35dn⟩) hH ?tr35dn
      case ty35dn=>intro w' d;(try dsimp only at d);go_simp;first|done|with_reducible rfl
      (try simp only[Act.put,List.setIfInBounds_toArray,List.set_cons_zero,List.set_cons_succ])
      refine ah [37] (i:=36) (v:=?tv36dn) rfl (by kernel_rfl) (by kernel_rfl) (by kernel_rfl) (by kernel_rfl) (fun _ _ _ h=>h) (Or.inl ⟨by rfl,?ty36dn⟩) hH ?tr36dn
      case ty36dn=>intro w' d;(try dsimp only at d);go_simp;first|done|with_reducible rfl
      (try simp only[Act.put,List.setIfInBounds_toArray,List.set_cons_zero,List.set_cons_succ])
      refine ai (rs:=[37]) (by kernel_rfl) (by simp) ?_;refine ae.last rfl (by kernel_rfl) (fun K hK=>?_);go_simp;refine hK.out _ _ ?_;clear hK K
      (try simp only[Act.put,List.setIfInBounds_toArray,List.set_cons_zero,List.set_cons_succ])
      refine ak (by kernel_rfl) ?_ _;go_wp2_with fail
      go_roundw
      case rel =>
       obtain⟨z,w⟩:=u.out (decide (J=(j:Int))) (t.out.trans (by simp[hh]));exact⟨j+1,by omega,by go_num,z,w⟩
      case measure=>simp[intOf];omega
    ·skip
     have bb:(f==-1)=false:=by simpa using hv
     refine ah [37] (i:=16) (v:=?tv16e) rfl (by kernel_rfl) (by kernel_rfl) (by kernel_rfl) (by kernel_rfl) (fun _ _ _ h=>h) (Or.inl ⟨by rfl,?ty16e⟩) hH ?tr16e
     case ty16e=>intro w' d;(try dsimp only at d);go_simp;first|done|with_reducible rfl
     (try simp only[Act.put,List.setIfInBounds_toArray,List.set_cons_zero,List.set_cons_succ])
     refine ah [37] (i:=17) (v:=?tv17e) rfl (by kernel_rfl) (by kernel_rfl) (by kernel_rfl) (by kernel_rfl) (fun _ _ _ h=>h) (Or.inl ⟨by rfl,?ty17e⟩) hH ?tr17e
     case ty17e=>intro w' d;(try dsimp only at d);go_simp;first|done|with_reducible rfl
     (try simp only[Act.put,List.setIfInBounds_toArray,List.set_cons_zero,List.set_cons_succ])
     (try simp only[bb])
     refine ah [37] (i:=18) (v:=?tv18e) rfl (by kernel_rfl) (by kernel_rfl) (by kernel_rfl) (by kernel_rfl) (fun _ _ _ h=>h) (Or.inl ⟨by rfl,?ty18e⟩) hH ?tr18e
     case ty18e=>intro w' d;(try dsimp only at d);go_simp;first|done|with_reducible rfl
     (try simp only[Act.put,List.setIfInBounds_toArray,List.set_cons_zero,List.set_cons_succ])
     refine ah [37] (i:=19) (v:=?tv19e) rfl (by kernel_rfl) (by kernel_rfl) (by kernel_rfl) (by kernel_rfl) (fun _ _ _ h=>h) (Or.inl ⟨by rfl,?ty19e⟩) hH ?tr19e
     case ty19e=>intro w' d;(try dsimp only at d);go_simp;first|done|with_reducible rfl
     (try simp only[Act.put,List.setIfInBounds_toArray,List.set_cons_zero,List.set_cons_succ])
     refine ah [37] (i:=20) (v:=?tv20e) rfl (by kernel_rfl) (by kernel_rfl) (by kernel_rfl) (by kernel_rfl) (fun _ _ _ h=>h) (Or.inl ⟨by rfl,?ty20e⟩) hH ?tr20e
     case ty20e=>intro w' d;(try dsimp only at d);go_simp;first|done|with_reducible rfl
     (try simp only[Act.put,List.setIfInBounds_toArray,List.set_cons_zero,List.set_cons_succ])
     refine ah [37] (i:=21) (v:=?tv21e) rfl (by kernel_rfl) (by kernel_rfl) (by kernel_rfl) (by kernel_rfl) (fun _ _ _ h=>h) (Or.inl ⟨by rfl,?ty21e⟩) hH ?tr21e
     case ty21e=>intro w' d;(try dsimp only at d);go_simp;first|done|with_reducible rfl
     (try simp only[Act.put,List.setIfInBounds_toArray,List.set_cons_zero,List.set_cons_succ])
     by_cases ha:af<=f
     ·skip
      have a6:decide (af<=f)=true:=by simpa using ha
      refine ah [37] (i:=22) (v:=?tv22f) rfl (by kernel_rfl) (by kernel_rfl) (by kernel_rfl) (by kernel_rfl) (fun _ _ _ h=>h) (Or.inl ⟨by rfl,?ty22f⟩) hH ?tr22f
      case ty22f=>intro w' d;(try dsimp only at d);go_simp;first|done|with_reducible rfl
      (try simp only[Act.put,List.setIfInBounds_toArray,List.set_cons_zero,List.set_cons_succ])
      (try simp only[a6,ge_iff_le])
      refine ah [37] (i:=23) (v:=?tv23f) rfl (by kernel_rfl) (by kernel_rfl) (by kernel_rfl) (by kernel_rfl) (fun _ _ _ h=>h) (Or.inl ⟨by rfl,?ty23f⟩) hH ?tr23f
      case ty23f=>intro w' d;(try dsimp only at d);go_simp;first|done|with_reducible rfl
      (try simp only[Act.put,List.setIfInBounds_toArray,List.set_cons_zero,List.set_cons_succ])
      refine ah [37] (i:=24) (v:=?tv24f) rfl (by kernel_rfl) (by kernel_rfl) (by kernel_rfl) (by kernel_rfl) (fun _ _ _ h=>h) (Or.inl ⟨by rfl,?ty24f⟩) hH ?tr24f
      case ty24f=>intro w' d;(try dsimp only at d);go_simp;first|done|with_reducible rfl
      (try simp only[Act.put,List.setIfInBounds_toArray,List.set_cons_zero,List.set_cons_succ])
      refine ah [37] (i:=25) (v:=?tv25f) rfl (by kernel_rfl) (by kernel_rfl) (by kernel_rfl) (by kernel_rfl) (fun _ _ _ h=>h) (Or.inl ⟨by rfl,?ty25f⟩) hH ?tr25f
      case ty25f=>intro w' d;(try dsimp only at d);go_simp;first|done|with_reducible rfl
      (try simp only[Act.put,List.setIfInBounds_toArray,List.set_cons_zero,List.set_cons_succ])
      refine ah [37] (i:=26) (v:=?tv26f) rfl (by kernel_rfl) (by kernel_rfl) (by kernel_rfl) (by kernel_rfl) (fun _ _ _ h=>h) (Or.inl ⟨by rfl,?ty26f⟩) hH ?tr26f
      case ty26f=>intro w' d;(try dsimp only at d);go_simp;first|done|with_reducible rfl
      (try simp only[Act.put,List.setIfInBounds_toArray,List.set_cons_zero,List.set_cons_succ])
      refine ah [37] (i:=27) (v:=?tv27f) rfl (by kernel_rfl) (by kernel_rfl) (by kernel_rfl) (by kernel_rfl) (fun _ _ _ h=>h) (Or.inl ⟨by rfl,?ty27f⟩) hH ?tr27f
      case ty27f=>intro w' d;(try dsimp only at d);go_simp;first|done|with_reducible rfl
      (try simp only[Act.put,List.setIfInBounds_toArray,List.set_cons_zero,List.set_cons_succ])
      by_cases hh:J=-1
      ·subst hh;refine ah [37] (i:=28) (v:=?tv28fy) rfl (by kernel_rfl) (by kernel_rfl) (by kernel_rfl) (by kernel_rfl) (fun _ _ _ h=>h) (Or.inl ⟨by rfl,?ty28fy⟩) hH ?tr28fy
       case ty28fy=>intro w' d;(try dsimp only at d);go_simp;first|done|with_reducible rfl
       (try simp only[Act.put,List.setIfInBounds_toArray,List.set_cons_zero,List.set_cons_succ])
       refine ah [37] (i:=29) (v:=?tv29fy) rfl (by kernel_rfl) (by kernel_rfl) (by kernel_rfl) (by kernel_rfl) (fun _ _ _ h=>h) (Or.inl ⟨by rfl,?ty29fy⟩) hH ?tr29fy
       case ty29fy=>intro w' d;(try dsimp only at d);go_simp;first|done|with_reducible rfl
       (try simp only[Act.put,List.setIfInBounds_toArray,List.set_cons_zero,List.set_cons_succ])
       refine ah [37] (i:=30) (v:=undef) rfl (by kernel_rfl) (by kernel_rfl) (by kernel_rfl) (by kernel_rfl) (fun _ _ _ h=>h) (Or.inr ⟨by rfl,rfl⟩) hH ?tr30fy
       (try simp only[Act.put,List.setIfInBounds_toArray,List.set_cons_zero,List.set_cons_succ])
       refine ah [37] (i:=31) (v:=undef) rfl (by kernel_rfl) (by kernel_rfl) (by kernel_rfl) (by kernel_rfl) (fun _ _ _ h=>h) (Or.inr ⟨by rfl,rfl⟩) hH ?tr31fy
       (try simp only[Act.put,List.setIfInBounds_toArray,List.set_cons_zero,List.set_cons_succ])
       refine ah [37] (i:=32) (v:=undef) rfl (by kernel_rfl) (by kernel_rfl) (by kernel_rfl) (by kernel_rfl) (fun _ _ _ h=>h) (Or.inr ⟨by rfl,rfl⟩) hH ?tr32fy
       (try simp only[Act.put,List.setIfInBounds_toArray,List.set_cons_zero,List.set_cons_succ])
       refine ah [37] (i:=33) (v:=undef) rfl (by kernel_rfl) (by kernel_rfl) (by kernel_rfl) (by kernel_rfl) (fun _ _ _ h=>h) (Or.inr ⟨by rfl,rfl⟩) hH ?tr33fy
       (try simp only[Act.put,List.setIfInBounds_toArray,List.set_cons_zero,List.set_cons_succ])
       refine ah [37] (i:=34) (v:=?tv34fy) rfl (by kernel_rfl) (by kernel_rfl) (by kernel_rfl) (by kernel_rfl) (fun _ _ _ h=>h) (Or.inl ⟨by rfl,?ty34fy⟩) hH ?tr34fy
       case ty34fy=>intro w' d;(try dsimp only at d);go_simp;first|done|with_reducible rfl
       (try simp only[Act.put,List.setIfInBounds_toArray,List.set_cons_zero,List.set_cons_succ])
       refine ah [37] (i:=35) (v:=?tv35fy) rfl (by kernel_rfl) (by kernel_rfl) (by kernel_rfl) (by kernel_rfl) (fun _ _ _ h=>h) (Or.inl ⟨by rfl,?ty35fy⟩) hH ?tr35fy
       case ty35fy=>intro w' d;(try dsimp only at d);go_simp;first|done|with_reducible rfl
       (try simp only[Act.put,List.setIfInBounds_toArray,List.set_cons_zero,List.set_cons_succ])
       refine ah [37] (i:=36) (v:=?tv36fy) rfl (by kernel_rfl) (by kernel_rfl) (by kernel_rfl) (by kernel_rfl) (fun _ _ _ h=>h) (Or.inl ⟨by rfl,?ty36fy⟩) hH ?tr36fy
       case ty36fy=>intro w' d;(try dsimp only at d);go_simp;first|done|with_reducible rfl
       (try simp only[Act.put,List.setIfInBounds_toArray,List.set_cons_zero,List.set_cons_succ])
       refine ai (rs:=[37]) (by kernel_rfl) (by simp) ?_;refine ae.last rfl (by kernel_rfl) (fun K hK=>?_);go_simp;refine hK.out _ _ ?_;clear hK K
       (try simp only[Act.put,List.setIfInBounds_toArray,List.set_cons_zero,List.set_cons_succ])
       refine ak (by kernel_rfl) ?_ _;go_wp2_with fail
       go_roundw
       case rel =>
        obtain⟨z,w⟩:=u.out (true) (t.out.trans (by simp[hv,ha]));exact⟨j+1,by omega,by go_num,z,w⟩
       case measure=>simp[intOf];omega
      ·skip
       have a1:(J==-1)=false:=by simpa using hh
       refine ah [37] (i:=28) (v:=?tv28fn) rfl (by kernel_rfl) (by kernel_rfl) (by kernel_rfl) (by kernel_rfl) (fun _ _ _ h=>h) (Or.inl ⟨by rfl,?ty28fn⟩) hH ?tr28fn
       case ty28fn=>intro w' d;(try dsimp only at d);go_simp;first|done|with_reducible rfl
       (try simp only[Act.put,List.setIfInBounds_toArray,List.set_cons_zero,List.set_cons_succ])
       refine ah [37] (i:=29) (v:=?tv29fn) rfl (by kernel_rfl) (by kernel_rfl) (by kernel_rfl) (by kernel_rfl) (fun _ _ _ h=>h) (Or.inl ⟨by rfl,?ty29fn⟩) hH ?tr29fn
       case ty29fn=>intro w' d;(try dsimp only at d);go_simp;first|done|with_reducible rfl
       (try simp only[Act.put,List.setIfInBounds_toArray,List.set_cons_zero,List.set_cons_succ])
       (try simp only[a1])
       refine ah [37] (i:=30) (v:=?tv30fn) rfl (by kernel_rfl) (by kernel_rfl) (by kernel_rfl) (by kernel_rfl) (fun _ _ _ h=>h) (Or.inl ⟨by rfl,?ty30fn⟩) hH ?tr30fn
       case ty30fn=>intro w' d;(try dsimp only at d);go_simp;first|done|with_reducible rfl
       (try simp only[Act.put,List.setIfInBounds_toArray,List.set_cons_zero,List.set_cons_succ])
       refine ah [37] (i:=31) (v:=?tv31fn) rfl (by kernel_rfl) (by kernel_rfl) (by kernel_rfl) (by kernel_rfl) (fun _ _ _ h=>h) (Or.inl ⟨by rfl,?ty31fn⟩) hH ?tr31fn
       case ty31fn=>intro w' d;(try dsimp only at d);go_simp;first|done|with_reducible rfl
       (try simp only[Act.put,List.setIfInBounds_toArray,List.set_cons_zero,List.set_cons_succ])
       refine ah [37] (i:=32) (v:=?tv32fn) rfl (by kernel_rfl) (by kernel_rfl) (by kernel_rfl) (by kernel_rfl) (fun _ _ _ h=>h) (Or.inl ⟨by rfl,?ty32fn⟩) hH ?tr32fn
       case ty32fn=>intro w' d;(try dsimp only at d);go_simp;first|done|with_reducible rfl
       (try simp only[Act.put,List.setIfInBounds_toArray,List.set_cons_zero,List.set_cons_succ])
       refine ah [37] (i:=33) (v:=?tv33fn) rfl (by kernel_rfl) (by kernel_rfl) (by kernel_rfl) (by kernel_rfl) (fun _ _ _ h=>h) (Or.inl ⟨by rfl,?ty33fn⟩) hH ?tr33fn
       case ty33fn=>intro w' d;(try dsimp only at d);go_simp;first|done|with_reducible rfl
       (try simp only[Act.put,List.setIfInBounds_toArray,List.set_cons_zero,List.set_cons_succ])
       refine ah [37] (i:=34) (v:=?tv34fn) rfl (by kernel_rfl) (by kernel_rfl) (by kernel_rfl) (by kernel_rfl) (fun _ _ _ h=>h) (Or.inl ⟨by rfl,?ty34fn⟩) hH ?tr34fn
       case ty34fn=>intro w' d;(try dsimp only at d);go_simp;first|done|with_reducible rfl
       (try simp only[Act.put,List.setIfInBounds_toArray,List.set_cons_zero,List.set_cons_succ])
       refine ah [37] (i:=35) (v:=?tv35fn) rfl (by kernel_rfl) (by kernel_rfl) (by kernel_rfl) (by kernel_rfl) (fun _ _ _ h=>h) (Or.inl ⟨by rfl,?ty35fn⟩) hH ?tr35fn
       case ty35fn=>intro w' d;(try dsimp only at d);go_simp;first|done|with_reducible rfl
       (try simp only[Act.put,List.setIfInBounds_toArray,List.set_cons_zero,List.set_cons_succ])
       refine ah [37] (i:=36) (v:=?tv36fn) rfl (by kernel_rfl) (by kernel_rfl) (by kernel_rfl) (by kernel_rfl) (fun _ _ _ h=>h) (Or.inl ⟨by rfl,?ty36fn⟩) hH ?tr36fn
       case ty36fn=>intro w' d;(try dsimp only at d);go_simp;first|done|with_reducible rfl
       (try simp only[Act.put,List.setIfInBounds_toArray,List.set_cons_zero,List.set_cons_succ])
       refine ai (rs:=[37]) (by kernel_rfl) (by simp) ?_;refine ae.last rfl (by kernel_rfl) (fun K hK=>?_);go_simp;refine hK.out _ _ ?_;clear hK K
       (try simp only[Act.put,List.setIfInBounds_toArray,List.set_cons_zero,List.set_cons_succ])
       refine ak (by kernel_rfl) ?_ _;go_wp2_with fail
       go_roundw
       case rel =>
        obtain⟨z,w⟩:=u.out (decide (J=(j:Int))) (t.out.trans (by simp[hh,hv,ha]));exact⟨j+1,by omega,by go_num,z,w⟩
       case measure=>simp[intOf];omega
     ·skip
      have a6:decide (af<=f)=false:=by simpa using ha
      refine ah [37] (i:=22) (v:=?tv22g) rfl (by kernel_rfl) (by kernel_rfl) (by kernel_rfl) (by kernel_rfl) (fun _ _ _ h=>h) (Or.inl ⟨by rfl,?ty22g⟩) hH ?tr22g
      case ty22g=>intro w' d;(try dsimp only at d);go_simp;first|done|with_reducible rfl
      (try simp only[Act.put,List.setIfInBounds_toArray,List.set_cons_zero,List.set_cons_succ])
      (try simp only[a6,ge_iff_le])
      refine ah [37] (i:=23) (v:=?tv23g) rfl (by kernel_rfl) (by kernel_rfl) (by kernel_rfl) (by kernel_rfl) (fun _ _ _ h=>h) (Or.inl ⟨by rfl,?ty23g⟩) hH ?tr23g
      case ty23g=>intro w' d;(try dsimp only at d);go_simp;first|done|with_reducible rfl
      (try simp only[Act.put,List.setIfInBounds_toArray,List.set_cons_zero,List.set_cons_succ])
      refine ah [37] (i:=24) (v:=?tv24g) rfl (by kernel_rfl) (by kernel_rfl) (by kernel_rfl) (by kernel_rfl) (fun _ _ _ h=>h) (Or.inl ⟨by rfl,?ty24g⟩) hH ?tr24g
      case ty24g=>intro w' d;(try dsimp only at d);go_simp;first|done|with_reducible rfl
      (try simp only[Act.put,List.setIfInBounds_toArray,List.set_cons_zero,List.set_cons_succ])
      refine ah [37] (i:=25) (v:=?tv25g) rfl (by kernel_rfl) (by kernel_rfl) (by kernel_rfl) (by kernel_rfl) (fun _ _ _ h=>h) (Or.inl ⟨by rfl,?ty25g⟩) hH ?tr25g
      case ty25g=>intro w' d;(try dsimp only at d);go_simp;first|done|with_reducible rfl
      (try simp only[Act.put,List.setIfInBounds_toArray,List.set_cons_zero,List.set_cons_succ])
      refine ah [37] (i:=26) (v:=undef) rfl (by kernel_rfl) (by kernel_rfl) (by kernel_rfl) (by kernel_rfl) (fun _ _ _ h=>h) (Or.inr ⟨by rfl,rfl⟩) hH ?tr26g
      (try simp only[Act.put,List.setIfInBounds_toArray,List.set_cons_zero,List.set_cons_succ])
      refine ah [37] (i:=27) (v:=undef) rfl (by kernel_rfl) (by kernel_rfl) (by kernel_rfl) (by kernel_rfl) (fun _ _ _ h=>h) (Or.inr ⟨by rfl,rfl⟩) hH ?tr27g
      (try simp only[Act.put,List.setIfInBounds_toArray,List.set_cons_zero,List.set_cons_succ])
      refine ah [37] (i:=28) (v:=undef) rfl (by kernel_rfl) (by kernel_rfl) (by kernel_rfl) (by kernel_rfl) (fun _ _ _ h=>h) (Or.inr ⟨by rfl,rfl⟩) hH ?tr28g
      (try simp only[Act.put,List.setIfInBounds_toArray,List.set_cons_zero,List.set_cons_succ])
      refine ah [37] (i:=29) (v:=undef) rfl (by kernel_rfl) (by kernel_rfl) (by kernel_rfl) (by kernel_rfl) (fun _ _ _ h=>h) (Or.inr ⟨by rfl,rfl⟩) hH ?tr29g
      (try simp only[Act.put,List.setIfInBounds_toArray,List.set_cons_zero,List.set_cons_succ])
      refine ah [37] (i:=30) (v:=undef) rfl (by kernel_rfl) (by kernel_rfl) (by kernel_rfl) (by kernel_rfl) (fun _ _ _ h=>h) (Or.inr ⟨by rfl,rfl⟩) hH ?tr30g
      (try simp only[Act.put,List.setIfInBounds_toArray,List.set_cons_zero,List.set_cons_succ])
      refine ah [37] (i:=31) (v:=undef) rfl (by kernel_rfl) (by kernel_rfl) (by kernel_rfl) (by kernel_rfl) (fun _ _ _ h=>h) (Or.inr ⟨by rfl,rfl⟩) hH ?tr31g
      (try simp only[Act.put,List.setIfInBounds_toArray,List.set_cons_zero,List.set_cons_succ])
      refine ah [37] (i:=32) (v:=undef) rfl (by kernel_rfl) (by kernel_rfl) (by kernel_rfl) (by kernel_rfl) (fun _ _ _ h=>h) (Or.inr ⟨by rfl,rfl⟩) hH ?tr32g
      (try simp only[Act.put,List.setIfInBounds_toArray,List.set_cons_zero,List.set_cons_succ])
      refine ah [37] (i:=33) (v:=undef) rfl (by kernel_rfl) (by kernel_rfl) (by kernel_rfl) (by kernel_rfl) (fun _ _ _ h=>h) (Or.inr ⟨by rfl,rfl⟩) hH ?tr33g
      (try simp only[Act.put,List.setIfInBounds_toArray,List.set_cons_zero,List.set_cons_succ])
      refine ah [37] (i:=34) (v:=undef) rfl (by kernel_rfl) (by kernel_rfl) (by kernel_rfl) (by kernel_rfl) (fun _ _ _ h=>h) (Or.inr ⟨by rfl,rfl⟩) hH ?tr34g
      (try simp only[Act.put,List.setIfInBounds_toArray,List.set_cons_zero,List.set_cons_succ])
      refine ah [37] (i:=35) (v:=?tv35g) rfl (by kernel_rfl) (by kernel_rfl) (by kernel_rfl) (by kernel_rfl) (fun _ _ _ h=>h) (Or.inl ⟨by rfl,?ty35g⟩) hH ?tr35g
      case ty35g=>intro w' d;(try dsimp only at d);go_simp;first|done|with_reducible rfl
      (try simp only[Act.put,List.setIfInBounds_toArray,List.set_cons_zero,List.set_cons_succ])
      refine ah [37] (i:=36) (v:=?tv36g) rfl (by kernel_rfl) (by kernel_rfl) (by kernel_rfl) (by kernel_rfl) (fun _ _ _ h=>h) (Or.inl ⟨by rfl,?ty36g⟩) hH ?tr36g
      case ty36g=>intro w' d;(try dsimp only at d);go_simp;first|done|with_reducible rfl
      (try simp only[Act.put,List.setIfInBounds_toArray,List.set_cons_zero,List.set_cons_succ])
      refine ai (rs:=[37]) (by kernel_rfl) (by simp) ?_;refine ae.last rfl (by kernel_rfl) (fun K hK=>?_);go_simp;refine hK.out _ _ ?_;clear hK K
      (try simp only[Act.put,List.setIfInBounds_toArray,List.set_cons_zero,List.set_cons_succ])
      refine ak (by kernel_rfl) ?_ _;go_wp2_with fail
      go_roundw
      case rel =>
       obtain⟨z,w⟩:=u.out (false) (t.out.trans (by simp[hv,ha]));exact⟨j+1,by omega,by go_num,z,w⟩
      case measure=>simp[intOf];omega
  ·obtain rfl:k=j:=by omega
   clear O a3;go_wp2_with fail;go_ret;refine⟨G.out,I,rfl,Nat.le_of_lt a7.out,?_⟩;have:=b7.out;rw[show fi H c x k k=fH H c x by simp[fi,fH,a8.out]]at this;exact this
end Go.Proofs.YtpcmamoomaddoaaGreatDoor
