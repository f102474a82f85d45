/- The reference's Deal. -/
import Derived.Test.YtpcdfepndmconaaGreatDoorCtz
import Derived.Test.YtpcdfepndmconaaGreatDoorAtf
import Derived.Test.YtpcdfepndmconaaGreatDoorPfE
namespace Go.Proofs.YtpcdfepndmconaaGreatDoor
open Go.RowKit
theorem infoPt:(Tryz.prog.info? 78).map (fun i=>(i.zero,i.size,i.bytes))=some (some (.agg #[.int .i64 0,.int .i64 0,.int .i64 0]),3,24):=by kernel_rfl
def dealB (s:Stp) (number blind:Int) (shares masks:List Int) (jurors:Int):Bool :=
 setupB s&&(expoB s number&&(expoB s blind&&(shares.all (expoB s)&&((decide ((masks.length:Int)=shares.length)&&masks.all (expoB s))&&(decide ((shares.length:Int) < jurors)&&(decide (jurors≤12)&&decide (jurors < s.Q)))))))
def escZ (s:Stp) (q:Nat) (shares masks:List Int):List Int:=List.zipWith (fun v r=>((cmtQ q s.G s.blind v r:Nat):Int)) shares masks
def ptZ (q:Nat) (f g:List Int) (j:Nat):List Int:=[(j:Int),((atZ q j f:Nat):Int),((atZ q j g:Nat):Int)]
def ptsZ (q:Nat) (f g:List Int) (n:Nat):List Int:=(List.range n).flatMap fun i=>ptZ q f g (i+1)
theorem ptsZ_succ (q:Nat) (f g:List Int) (n:Nat):ptsZ q f g (n+1)=ptsZ q f g n++ptZ q f g (n+1):=by simp [ptsZ,List.range_succ]
/-- how Deal ends -/
def DealQ (s:Stp) (number blind:Int) (shares masks:List Int) (jurors:Int) (w:World) (e:Ending) (w':World):Prop :=
 Kept [] w w'∧((dealB s number blind shares masks jurors=false∧e=.returned (.tuple #[.slice none 0 0,.slice none 0 0,.bool false])) ∨
  (dealB s number blind shares masks jurors=true∧∃ ve vp,e=.returned (.tuple #[ve,vp,.bool true])∧Row w' 1 ve shares.length (ints (escZ s s.Q.toNat shares masks)) ∧
   Row w' 3 vp jurors.toNat (ints (ptsZ s.Q.toNat (number::shares) (blind::masks) jurors.toNat))))
theorem DealQ.no {s:Stp} {number blind:Int} {shares masks:List Int} {jurors:Int} {w w':World} (hB:dealB s number blind shares masks jurors=false) (k:Kept [] w w'):DealQ s number blind shares masks jurors w (.returned (.tuple #[.slice none 0 0,.slice none 0 0,.bool false])) w' :=
 ⟨k,Or.inl ⟨hB,rfl⟩⟩
/-- a point joins -/
theorem step_append_pt {w:World} {ops:Array Oper} {o:Oper} {a:Act} {K:Act→World→Prop} {Q:Exit→Act→World→Prop} {E:Prop} (hgd:o.guard=none) (s x:Operand)
  (ho:o.op=.call { callee:=.builtin .append,args:=#[s,x],argTypes:=#[31,31] })
  (base:Nat) (v:Value) (n:Nat) (xs:List Int) (hs:a.eval s=v) (hown:w.ownsRow base 78 3 v n (ints xs))
  (u:Value) (m:Nat) (l:List Int) (hx:a.eval x=u) (hrow:Row w 3 u m (ints l)) (hsm:n+m≤1000000) (hbase:base≤w.heap.size)
  (h:∀ a' c' w',w'.ownsRow base 78 3 (.slice a' (n+m) c') (n+m) (ints (xs++l))→Kept (obl v) w w'→(∀ k∈obl (.slice a' (n+m) c'),k∈obl v∨k=w.heap.size)→K (a.put o.dst (.slice a' (n+m) c')) w') :
  if Region.wanted o (yielded ops a.tmps)=true then Oper.wp Tryz.prog o a w K Q else E:=by
 rw [if_pos (by simp [Region.wanted,hgd])];obtain ⟨i0,hi,hz0,hz1,hz2⟩:=info_parts infoPt;refine wp_append_row s x 31 ho base 78 i0 (.agg #[.int .i64 0,.int .i64 0,.int .i64 0]) 3 24 Tryz.underlying31 hi hz0 hz1 hz2 rfl (by decide) v n (ints xs) hs hown u m (ints l) hx hrow ?_ (by unfold maxLen;omega) (by omega) hbase ?_
 ·intro u hu;obtain ⟨y,_,rfl⟩:=List.mem_map.1 hu
  rfl
 ·rw [←show ints (xs++l)=ints xs++ints l by simp [ints]];exact h
theorem Row.pt (w:World) (x y z:Int):Row (w.alloc (.cells #[.int .i64 x,.int .i64 y,.int .i64 z] 78)) 3 (.slice (some ⟨w.heap.size,0,none⟩) 1 1) 1 (ints [x,y,z]):=by
 refine ⟨rfl,by decide,_,_,rfl,by decide,fun _=>⟨w.heap.size,0,rfl,fun j u hu=>?_⟩⟩;rw [(Blk.new w 78 #[.int .i64 x,.int .i64 y,.int .i64 z]).cell]
 simpa [ints] using hu
set_option maxRecDepth 100000 in
set_option maxHeartbeats 4000000 in
theorem rdeal_any (s:Stp) (sv vs vm:Value) (number blind:Int) (shares masks:List Int) (jurors:Int) (w:World) (hs:StpV w sv s) (hv:Row w 1 vs shares.length (ints shares)) (hm:Row w 1 vm masks.length (ints masks))
  (hn:shares.length≤100) (hi:∀ x∈shares,Wire.I64 x) (hi':∀ x∈masks,Wire.I64 x) (hnu:Wire.I64 number) (hbl:Wire.I64 blind) (hju:Wire.I64 jurors) :
  Calls Tryz.prog 36 #[sv,.int .i64 number,.int .i64 blind,vs,vm,.int .i64 jurors] w (DealQ s number blind shares masks jurors w):=by
 have hs':=hs;obtain ⟨⟨sa,sc,rfl,hrow⟩,ip,iq,ig,ib,il⟩:=hs;obtain ⟨av,cv,rfl,hlv,_⟩:=hv.form;obtain ⟨am,cm,rfl,hlm,_⟩:=hm.form;obtain ⟨W,hW⟩:∃ W,w.alloc (.cells (stpA s (.slice sa s.bases.length sc)) 26)=W:=⟨_,rfl⟩;have hb:Blk W w.heap.size 26 (stpA s (.slice sa s.bases.length sc)):=hW▸Blk.new _ _ _;have hkW:Kept [] w W:=hW▸(Kept.refl _ _).alloc _;have HS:=Lib.hid (hs'.kept hkW);have HV:=Lib.hid (hv.kept hkW);have HM:=Lib.hid (hm.kept hkW);have HI:=Lib.hid (And.intro hi hi')
 have K:Hid (∀ w',Kept [] W w'→w'.cell? ⟨w.heap.size,0,none⟩=some (.int .i64 s.P)∧w'.cell? ⟨w.heap.size,1,none⟩=some (.int .i64 s.Q)∧w'.cell? ⟨w.heap.size,2,none⟩=some (.int .i64 s.G)∧w'.cell? ⟨w.heap.size,3,none⟩=some (.slice sa s.bases.length sc)∧w'.cell? ⟨w.heap.size,4,none⟩=some (.int .i64 s.blind)) :=
  fun w' k=>⟨(hb.kept k (by simp)).cell 0,(hb.kept k (by simp)).cell 1,(hb.kept k (by simp)).cell 2,(hb.kept k (by simp)).cell 3,(hb.kept k (by simp)).cell 4⟩
 have HW:Hid (w.alloc (.cells #[.int .i64 s.P,.int .i64 s.Q,.int .i64 s.G,.slice sa s.bases.length sc,.int .i64 s.blind] 26)=W):=hW;have VS:Hid (∀ w',Kept [] W w'→Calls Tryz.prog 89 #[.agg #[.int .i64 s.P,.int .i64 s.Q,.int .i64 s.G,.slice sa s.bases.length sc,.int .i64 s.blind]] w' fun e w2=>e=.returned (.bool (setupB s))∧Kept [] w' w2):=fun w' k=>rvalidSetup_any _ s w' (HS.out.kept k);have XN:Hid (∀ w',Kept [] W w'→Calls Tryz.prog 90 #[.agg #[.int .i64 s.P,.int .i64 s.Q,.int .i64 s.G,.slice sa s.bases.length sc,.int .i64 s.blind],.int .i64 number] w' fun e w2=>e=.returned (.bool (expoB s number))∧Kept [] w' w2):=fun w' k=>rexponent_any _ s number w' (HS.out.kept k);have XB:Hid (∀ w',Kept [] W w'→Calls Tryz.prog 90 #[.agg #[.int .i64 s.P,.int .i64 s.Q,.int .i64 s.G,.slice sa s.bases.length sc,.int .i64 s.blind],.int .i64 blind] w' fun e w2=>e=.returned (.bool (expoB s blind))∧Kept [] w' w2):=fun w' k=>rexponent_any _ s blind w' (HS.out.kept k)
 have ES:Hid (∀ w',Kept [] W w'→Calls Tryz.prog 91 #[.agg #[.int .i64 s.P,.int .i64 s.Q,.int .i64 s.G,.slice sa s.bases.length sc,.int .i64 s.blind],.slice av shares.length cv,.int .i64 shares.length] w' fun e w2=>e=.returned (.bool (shares.all (expoB s)))∧Kept [] w' w2):=fun w' k=>by
  have:=rexponents_any s _ _ shares shares.length w' (HS.out.kept k) (HV.out.kept k)
  unfold expsB at this
  rwa [decide_eq_true rfl,Bool.true_and] at this
 have EM:Hid (∀ w',Kept [] W w'→Calls Tryz.prog 91 #[.agg #[.int .i64 s.P,.int .i64 s.Q,.int .i64 s.G,.slice sa s.bases.length sc,.int .i64 s.blind],.slice am masks.length cm,.int .i64 shares.length] w' fun e w2=>e=.returned (.bool (decide ((masks.length:Int)=shares.length)&&masks.all (expoB s)))∧Kept [] w' w2):=fun w' k=>rexponents_any s _ _ masks shares.length w' (HS.out.kept k) (HM.out.kept k);obtain ⟨T,hT⟩:∃ T,dealB s number blind shares masks jurors=T:=⟨_,rfl⟩;have NO:Hid (∀ w',T=false→Kept [] w w'→DealQ s number blind shares masks jurors w (.returned (.tuple #[.slice none 0 0,.slice none 0 0,.bool false])) w'):=fun w' h k=>DealQ.no (hT.trans h) k;have HTT:=Lib.hid hT
 unfold dealB at hT
 obtain ⟨b0,hb0⟩:∃ b,setupB s=b:=⟨_,rfl⟩;obtain ⟨b1,hb1⟩:∃ b,expoB s number=b:=⟨_,rfl⟩;obtain ⟨b2,hb2⟩:∃ b,expoB s blind=b:=⟨_,rfl⟩;obtain ⟨b3,hb3⟩:∃ b,shares.all (expoB s)=b:=⟨_,rfl⟩;obtain ⟨b4,hb4⟩:∃ b,(decide ((masks.length:Int)=shares.length)&&masks.all (expoB s))=b:=⟨_,rfl⟩;rw [hb0,hb1,hb2,hb3,hb4] at hT;rw [hb0] at VS;rw [hb1] at XN;rw [hb2] at XB;rw [hb3] at ES;rw [hb4] at EM;have H0:=Lib.hid hb0;have H1:=Lib.hid hb1;have H2:=Lib.hid hb2;have H3:=Lib.hid hb3;have H4:=Lib.hid hb4;have HT:=Lib.hid hT;obtain ⟨e0,e1,e2,e3,e4⟩:=K.out W (Kept.refl _ _);clear hW hb hrow ib hs' hv hm hi hi' hb0 hb1 hb2 hb3 hb4 hT
 go_enter Tryz.func36,Tryz.ntmps36
 go_wp2_with fail;rw [HW.out];go_wp2_with (go_at_call 89;refine (VS.out _ (Kept.refl _ _)).mono ?_);rintro e w1 ⟨rfl,k1⟩;clear e0 e1 e2 e3 e4;obtain ⟨e0,e1,e2,e3,e4⟩:=K.out w1 k1
 cases b0
 ·go_wp2_with fail
  go_ret3
  exact NO.out _ (HT.out.symm.trans (by simp)) (hkW.trans k1)
 go_wp2_with (go_at_call 90;with_reducible refine (XN.out _ k1).mono ?_);rintro e w2 ⟨rfl,hk2⟩;have k2:=k1.trans hk2;clear e0 e1 e2 e3 e4 hk2;obtain ⟨e0,e1,e2,e3,e4⟩:=K.out w2 k2
 cases b1
 ·go_wp2_with fail
  go_ret3
  exact NO.out _ (HT.out.symm.trans (by simp)) (hkW.trans k2)
 go_wp2_with (go_at_call 90;with_reducible refine (XB.out _ k2).mono ?_);rintro e w3 ⟨rfl,hk3⟩;have k3:=k2.trans hk3;clear e0 e1 e2 e3 e4 hk3;obtain ⟨e0,e1,e2,e3,e4⟩:=K.out w3 k3
 cases b2
 ·go_wp2_with fail
  go_ret3
  exact NO.out _ (HT.out.symm.trans (by simp)) (hkW.trans k3)
 go_wp2_with (go_at_call 91;with_reducible refine (ES.out _ k3).mono ?_);rintro e w4 ⟨rfl,hk4⟩;have k4:=k3.trans hk4;clear e0 e1 e2 e3 e4 hk4;obtain ⟨e0,e1,e2,e3,e4⟩:=K.out w4 k4
 cases b3
 ·go_wp2_with fail
  go_ret3
  exact NO.out _ (HT.out.symm.trans (by simp)) (hkW.trans k4)
 go_wp2_with (go_at_call 91;with_reducible refine (EM.out _ k4).mono ?_);rintro e w5 ⟨rfl,hk5⟩;have k5:=k4.trans hk5;clear e0 e1 e2 e3 e4 hk5;obtain ⟨e0,e1,e2,e3,e4⟩:=K.out w5 k5
 cases b4
 ·go_wp2_with fail
  go_ret3
  exact NO.out _ (HT.out.symm.trans (by simp)) (hkW.trans k5)
 by_cases h1:jurors≤(shares.length:Int)
 ·have d1:decide (jurors≤(shares.length:Int))=true:=decide_eq_true h1;go_wp2_with fail
  go_ret3
  exact NO.out _ (HT.out.symm.trans (by rw [decide_eq_false (show ¬ (shares.length:Int) < jurors by omega)];simp)) (hkW.trans k5)
 have d1:decide (jurors≤(shares.length:Int))=false:=decide_eq_false h1
 by_cases h2:12 < jurors
 ·have d2:decide (12 < jurors)=true:=decide_eq_true h2;go_wp2_with fail
  go_ret3
  exact NO.out _ (HT.out.symm.trans (by rw [decide_eq_false (show ¬ jurors≤12 by omega)];simp)) (hkW.trans k5)
 have d2:decide (12 < jurors)=false:=decide_eq_false h2
 by_cases h3:s.Q≤jurors
 ·have d3:decide (s.Q≤jurors)=true:=decide_eq_true h3;go_wp2_with fail
  go_ret3
  exact NO.out _ (HT.out.symm.trans (by rw [decide_eq_false (show ¬ jurors < s.Q by omega)];simp)) (hkW.trans k5)
 have d3:decide (s.Q≤jurors)=false:=decide_eq_false h3;obtain ⟨q,hok,hg,hqt⟩:=setupB_q H0.out;have hqq:=hok.hq;have hq5:=hok.h5;have hQp:=Lib.hid hok.hQ
 have hml:masks.length=shares.length:=by
  have:=H4.out;simp at this;omega
 have hE5:=k5.size;obtain ⟨L,hL⟩:∃ L,escZ s q shares masks=L:=⟨_,rfl⟩
 have hLl:L.length=shares.length:=by rw [←hL];simp [escZ];omega
 have HLk:Hid (∀ k (h:k < shares.length) (h':k < masks.length) (h'':k < L.length),L[k]=((cmtQ q s.G s.blind shares[k] masks[k]:Nat):Int)):=fun k h h' h''=>by
  subst hL
  simp [escZ]
 have HC:Hid (∀ x y w',Wire.I64 x→Wire.I64 y→Kept [] W w'→Calls Tryz.prog 92 #[.agg #[.int .i64 s.P,.int .i64 s.Q,.int .i64 s.G,.slice sa s.bases.length sc,.int .i64 s.blind],.int .i64 x,.int .i64 y] w' fun e w2=>e=.returned (.int .i64 ((cmtQ q s.G s.blind x y:Nat):Int))∧Kept [] w' w2) :=
  fun x y w' hx hy k=>rcommit_any s q _ x y w' (HS.out.kept k) H0.out hok hx hy
 have HL:=Lib.hid hL;have HML:=Lib.hid hml;clear hL hok hml;go_wp2_with fail;clear e0 e1 e2 e3 e4
 go_loopw [16,17] (fun ve vi wr=>∃ (k:Nat) (a:Option Addr) (c:Nat),k≤shares.length∧vi=.int .i64 k∧ve=.slice a k c∧Hid (wr.ownsRow w5.heap.size 3 1 (.slice a k c) k (ints (L.take k)))∧Kept [] w5 wr) (fun _ vi _=>shares.length - (intOf vi).toNat)
 case atStart=>exact ⟨0,none,0,by omega,rfl,rfl,World.ownsRow_nil _ _ _ _,Kept.refl _ _⟩
 case round =>
  obtain ⟨k,a,c,hk,rfl,rfl,HO,hkr⟩:=hrel;have hsz:=hkr.size
  by_cases hlt:k < shares.length
  ·obtain ⟨bv,ov,rfl,hcv⟩:=HV.out.at_ (by omega);obtain ⟨bm,om,rfl,hcm⟩:=HM.out.at_ (by have:=HML.out;omega)
   have hltm:k < masks.length:=by have:=HML.out;omega
   have lift:∀ w',Kept (obl (.slice a k c)) wr w'→Kept [] W w':=fun w' kk=>k5.trans (hkr.fresh kk fun z hz=>(own_ge HO.out z hz).1);have xs:∀ w',Kept (obl (.slice a k c)) wr w'→w'.cell? ⟨bv,ov+k,none⟩=some (.int .i64 shares[k]):=fun w' kk=>Kept.cellOf (hcv k _ (ints_get hlt)) w' (lift w' kk);have xm:∀ w',Kept (obl (.slice a k c)) wr w'→w'.cell? ⟨bm,om+k,none⟩=some (.int .i64 masks[k]):=fun w' kk=>Kept.cellOf (hcm k _ (ints_get hltm)) w' (lift w' kk);have x0:∀ w',Kept (obl (.slice a k c)) wr w'→w'.cell? ⟨w.heap.size,0,none⟩=some (.int .i64 s.P):=fun w' kk=>(K.out w' (lift w' kk)).1;have x1:∀ w',Kept (obl (.slice a k c)) wr w'→w'.cell? ⟨w.heap.size,1,none⟩=some (.int .i64 s.Q):=fun w' kk=>(K.out w' (lift w' kk)).2.1;have x2:∀ w',Kept (obl (.slice a k c)) wr w'→w'.cell? ⟨w.heap.size,2,none⟩=some (.int .i64 s.G):=fun w' kk=>(K.out w' (lift w' kk)).2.2.1;have x3:∀ w',Kept (obl (.slice a k c)) wr w'→w'.cell? ⟨w.heap.size,3,none⟩=some (.slice sa s.bases.length sc):=fun w' kk=>(K.out w' (lift w' kk)).2.2.2.1;have x4:∀ w',Kept (obl (.slice a k c)) wr w'→w'.cell? ⟨w.heap.size,4,none⟩=some (.int .i64 s.blind):=fun w' kk=>(K.out w' (lift w' kk)).2.2.2.2
   have CM:Hid (∀ w',Kept [] wr w'→Calls Tryz.prog 92 #[.agg #[.int .i64 s.P,.int .i64 s.Q,.int .i64 s.G,.slice sa s.bases.length sc,.int .i64 s.blind],.int .i64 shares[k],.int .i64 masks[k]] w' fun e w2=>e=.returned (.int .i64 ((cmtQ q s.G s.blind shares[k] masks[k]:Nat):Int))∧Kept [] w' w2) :=
    fun w' kk=>HC.out _ _ w' (HI.out.1 _ (List.getElem_mem hlt)) (HI.out.2 _ (List.getElem_mem hltm)) (k5.trans (hkr.trans kk))
   have HD:Hid (L.take (k+1)=L.take k++[((cmtQ q s.G s.blind shares[k] masks[k]:Nat):Int)]):=by
    show _=_
    rw [List.take_succ_eq_append_getElem (by omega),HLk.out k hlt hltm]
   obtain ⟨y,hy⟩:∃ y,cmtQ q s.G s.blind shares[k] masks[k]=y:=⟨_,rfl⟩;rw [hy] at CM HD;clear hcv hcm hy lift;go_upto_region 8 with (fail)
   go_region_held3 (fun w'=>Kept (obl (.slice a k c)) wr w') (repeat (first|(with_reducible assumption)|(with_reducible exact Kept.refl _ _)|(with_reducible refine Kept.drew ?_)|(with_reducible refine Kept.alloc ?_ _)|(with_reducible refine Kept.trans ?_ (hkC.mono (by simp)))|(with_reducible refine Kept.trans ?_ hgE)))
    (first
     | (go_at_call 92;refine (CM.out _ (by (repeat (first|(with_reducible assumption)|(with_reducible exact Kept.refl _ _)|(with_reducible refine Kept.drew ?_)|(with_reducible refine Kept.alloc ?_ _)|(with_reducible refine Kept.trans ?_ hkC))))).mono ?_;rintro e wC ⟨rfl,hkC⟩)
     | (refine step_append_ints rfl _ _ rfl w5.heap.size (.slice a k c) k (L.take k) rfl (own_keep HO.out (S:=[]) (by (repeat (first|(with_reducible assumption)|(with_reducible exact Kept.refl _ _)|(with_reducible refine Kept.drew ?_)|(with_reducible refine Kept.alloc ?_ _)|(with_reducible refine Kept.trans ?_ hkC)))) (by simp)) _ 1 [(y:Int)] rfl (Row.one1 _ _) (by omega) (Nat.le_trans hsz (Kept.size (S:=[]) (w:=wr) (by (repeat (first|(with_reducible assumption)|(with_reducible exact Kept.refl _ _)|(with_reducible refine Kept.drew ?_)|(with_reducible refine Kept.alloc ?_ _)|(with_reducible refine Kept.trans ?_ hkC)))))) ?_;intro a' c' wE hownE hgE hlE)
     | fail)
   rename_i hHeld
   have OE:Hid (wE.ownsRow w5.heap.size 3 1 (.slice a' (k+1) c') (k+1) (ints (L.take (k+1)))):=by
    rw [HD.out];exact hownE
   have hk5E:Kept [] w5 wE:=hkr.fresh hHeld fun z hz=>(own_ge HO.out z hz).1;clear xs xm x0 x1 x2 x3 x4 hHeld hownE hgE hlE;go_wp2_with fail
   go_roundw
   case rel=>exact ⟨k+1,a',c',by omega,by go_num,rfl,OE,hk5E⟩
   case measure=>simp [intOf];omega
  ·obtain rfl:k=shares.length:=by omega
   have RE:Hid (Row wr 1 (.slice a shares.length c) shares.length (ints L)):=by
    have:=HO.out;rw [List.take_of_length_le (by omega)] at this;exact Row.of_own this (by omega)
   clear HO;go_wp2_with (at_builtin;refine wpList_append_ints rfl _ _ rfl wr.heap.size (.slice (some ⟨wr.heap.size,0,none⟩) 1 1) 1 [number] rfl (own_of_blk_le (cs:=[.int .i64 number]) (Blk.new wr _ _) (show 1≤maxLen by decide) (Nat.le_refl _)) (.slice av shares.length cv) shares.length shares rfl (HV.out.kept ((k5.trans hkr).alloc _)) (by omega) (by simp only [World.size_alloc];omega) ?_);intro af cf wF hownF hkF hlF;have kF:Kept [] wr wF:=((Kept.refl [] wr).alloc _).fresh hkF (fun z hz=>by simp [obl,Value.ownBlock] at hz;omega)
   have RF:Hid (Row wF 1 (.slice af (1+shares.length) cf) (number::shares).length (ints (number::shares))):=by
    rw [show (number::shares).length=1+shares.length by simp;omega];exact Row.of_own hownF (by omega)
   clear hownF hkF hlF;go_wp2_with (at_builtin;refine wpList_append_ints rfl _ _ rfl wF.heap.size (.slice (some ⟨wF.heap.size,0,none⟩) 1 1) 1 [blind] rfl (own_of_blk_le (cs:=[.int .i64 blind]) (Blk.new wF _ _) (show 1≤maxLen by decide) (Nat.le_refl _)) (.slice am masks.length cm) masks.length masks rfl (HM.out.kept ((k5.trans (hkr.trans kF)).alloc _)) (by have:=HML.out;omega) (by simp only [World.size_alloc];omega) ?_);intro ag cg wG hownG hkG hlG;have kG:Kept [] wF wG:=((Kept.refl [] wF).alloc _).fresh hkG (fun z hz=>by simp [obl,Value.ownBlock] at hz;omega)
   have RG:Hid (Row wG 1 (.slice ag (1+masks.length) cg) (blind::masks).length (ints (blind::masks))):=by
    rw [show (blind::masks).length=1+masks.length by simp;omega];exact Row.of_own hownG (by have:=HML.out;omega)
   have RF2:=Lib.hid (RF.out.kept kG);have kWG:Kept [] W wG:=k5.trans (hkr.trans (kF.trans kG));clear hownG hkG hlG;obtain ⟨J,hJ⟩:∃ J:Nat,jurors=J:=⟨jurors.toNat,by omega⟩;subst hJ;have hTT:T=true:=HT.out.symm.trans (by rw [decide_eq_true (show (shares.length:Int) < (J:Int) by omega),decide_eq_true (show (J:Int)≤12 by omega),decide_eq_true (show (J:Int) < s.Q by omega)];simp);have HTR:=Lib.hid (HTT.out.trans hTT)
   have hwf:Hid ((∀ x∈number::shares,Wire.I64 x)∧∀ x∈blind::masks,Wire.I64 x):=And.intro (fun x hx=>by
     rcases List.mem_cons.1 hx with rfl|h
     ·exact hnu
     ·exact HI.out.1 x h) (fun x hx=>by
     rcases List.mem_cons.1 hx with rfl|h
     ·exact hbl
     ·exact HI.out.2 x h)
   have HAF:Hid (∀ (m:Nat) w',m≤1000→Kept [] wG w'→Calls Tryz.prog 93 #[.int .i64 s.Q,.slice af (1+shares.length) cf,.int .i64 m] w' fun e w2=>e=.returned (.int .i64 ((atZ q m (number::shares):Nat):Int))∧Kept [] w' w2):=fun m w' hm k=>by
    rw [hQp.out];exact rat_any q m _ _ w' (by omega) (by omega) ⟨by omega,by omega⟩ (RF2.out.kept k) hwf.out.1
   have HAG:Hid (∀ (m:Nat) w',m≤1000→Kept [] wG w'→Calls Tryz.prog 93 #[.int .i64 s.Q,.slice ag (1+masks.length) cg,.int .i64 m] w' fun e w2=>e=.returned (.int .i64 ((atZ q m (blind::masks):Nat):Int))∧Kept [] w' w2):=fun m w' hm k=>by
    rw [hQp.out];exact rat_any q m _ _ w' (by omega) (by omega) ⟨by omega,by omega⟩ (RG.out.kept k) hwf.out.2
   clear d1 d2 d3 hTT;go_wp2_with fail
   go_loopw [20,21] (fun vp vi wr2=>∃ (k m:Nat) (a:Option Addr) (c:Nat),k≤J∧m=k+1∧vi=.int .i64 m∧vp=.slice a k c∧Hid (wr2.ownsRow wG.heap.size 78 3 (.slice a k c) k (ints (ptsZ q (number::shares) (blind::masks) k)))∧Kept [] wG wr2) (fun _ vi _=>J+1 - (intOf vi).toNat)
   case atStart=>exact ⟨0,1,none,0,by omega,rfl,rfl,rfl,World.ownsRow_nil _ _ _ _,Kept.refl _ _⟩
   case round =>
    obtain ⟨k,m,a2,c2,hk,hm,rfl,rfl,HO,hkr2⟩:=hrel;have hsz2:=hkr2.size
    by_cases hlt:m≤J
    ·have lift:∀ w',Kept (obl (.slice a2 k c2)) wr w'→Kept [] W w':=fun w' kk=>kWG.trans (hkr2.fresh kk fun z hz=>(own_ge HO.out z hz).1);have x1:∀ w',Kept (obl (.slice a2 k c2)) wr w'→w'.cell? ⟨w.heap.size,1,none⟩=some (.int .i64 s.Q):=fun w' kk=>(K.out w' (lift w' kk)).2.1
     have HD:ptsZ q (number::shares) (blind::masks) (k+1)=ptsZ q (number::shares) (blind::masks) k++[(m:Int),((atZ q m (number::shares):Nat):Int),((atZ q m (blind::masks):Nat):Int)]:=by
      rw [ptsZ_succ,hm]
      rfl
     have HMK:=Lib.hid hm;have AF:Hid (∀ w',Kept [] wr w'→Calls Tryz.prog 93 #[.int .i64 s.Q,.slice af (1+shares.length) cf,.int .i64 m] w' fun e w2=>e=.returned (.int .i64 ((atZ q m (number::shares):Nat):Int))∧Kept [] w' w2):=fun w' k=>HAF.out m w' (by omega) (hkr2.trans k);have AG:Hid (∀ w',Kept [] wr w'→Calls Tryz.prog 93 #[.int .i64 s.Q,.slice ag (1+masks.length) cg,.int .i64 m] w' fun e w2=>e=.returned (.int .i64 ((atZ q m (blind::masks):Nat):Int))∧Kept [] w' w2):=fun w' k=>HAG.out m w' (by omega) (hkr2.trans k);obtain ⟨y1,hy1⟩:∃ y,atZ q m (number::shares)=y:=⟨_,rfl⟩;obtain ⟨y2,hy2⟩:∃ y,atZ q m (blind::masks)=y:=⟨_,rfl⟩;rw [hy1] at AF HD;rw [hy2] at AG HD;have HDD:=Lib.hid HD;clear lift HD hy1 hy2 hm;go_upto_region 15 with (fail)
     go_region_held3 (fun w'=>Kept (obl (.slice a2 k c2)) wr w') (repeat (first|(with_reducible assumption)|(with_reducible exact Kept.refl _ _)|(with_reducible refine Kept.drew ?_)|(with_reducible refine Kept.alloc ?_ _)|(with_reducible refine Kept.trans ?_ (hkC.mono (by simp)))|(with_reducible refine Kept.trans ?_ (hkD.mono (by simp)))|(with_reducible refine Kept.trans ?_ hgE)))
      (first
       | (go_at_call 93;with_reducible refine (AF.out _ (by (repeat (first|(with_reducible assumption)|(with_reducible exact Kept.refl _ _)|(with_reducible refine Kept.drew ?_)|(with_reducible refine Kept.alloc ?_ _)|(with_reducible refine Kept.trans ?_ hkC)|(with_reducible refine Kept.trans ?_ hkD))))).mono ?_;rintro e wC ⟨rfl,hkC⟩)
       | (go_at_call 93;with_reducible refine (AG.out _ (by (repeat (first|(with_reducible assumption)|(with_reducible exact Kept.refl _ _)|(with_reducible refine Kept.drew ?_)|(with_reducible refine Kept.alloc ?_ _)|(with_reducible refine Kept.trans ?_ hkC)|(with_reducible refine Kept.trans ?_ hkD))))).mono ?_;rintro e wD ⟨rfl,hkD⟩)
       | (refine step_append_pt rfl _ _ rfl wG.heap.size (.slice a2 k c2) k (ptsZ q (number::shares) (blind::masks) k) rfl (own_keep HO.out (S:=[]) (by (repeat (first|(with_reducible assumption)|(with_reducible exact Kept.refl _ _)|(with_reducible refine Kept.drew ?_)|(with_reducible refine Kept.alloc ?_ _)|(with_reducible refine Kept.trans ?_ hkC)|(with_reducible refine Kept.trans ?_ hkD)))) (by simp)) _ 1 [(m:Int),(y1:Int),(y2:Int)] rfl (Row.pt _ _ _ _) (by omega) (Nat.le_trans hsz2 (Kept.size (S:=[]) (w:=wr) (by (repeat (first|(with_reducible assumption)|(with_reducible exact Kept.refl _ _)|(with_reducible refine Kept.drew ?_)|(with_reducible refine Kept.alloc ?_ _)|(with_reducible refine Kept.trans ?_ hkC)|(with_reducible refine Kept.trans ?_ hkD)))))) ?_;intro a' c' wE hownE hgE hlE)
       | fail)
     all_goals rename_i hHeld
     all_goals (
      have OE:Hid (wE.ownsRow wG.heap.size 78 3 (.slice a' (k+1) c') (k+1) (ints (ptsZ q (number::shares) (blind::masks) (k+1)))):=by
       rw [HDD.out];exact hownE
      have hk5E:Kept [] wG wE:=hkr2.fresh hHeld fun z hz=>(own_ge HO.out z hz).1
      clear x1 hHeld hownE hgE hlE)
     all_goals go_wp2_with fail
     all_goals go_roundw
     all_goals first
      | exact ⟨k+1,m+1,a',c',by have:=HMK.out;omega,by have:=HMK.out;omega,by go_num,rfl,OE,hk5E⟩
      | (simp [intOf];omega)
    ·obtain rfl:k=J:=by omega
     have hmj:k < m:=by omega
     have RP:Hid (Row wr 3 (.slice a2 k c2) k (ints (ptsZ q (number::shares) (blind::masks) k))):=Row.of_own HO.out (by omega);clear HO;go_wp2_with fail
     go_ret3
     have hke:Kept [] wG wr:=hkr2;refine ⟨hkW.trans (kWG.trans hke),Or.inr ⟨HTR.out,_,_,rfl,?_,?_⟩⟩
     ·rw [hqt,HL.out];exact RE.out.kept ((kF.trans kG).trans hke)
     ·rw [hqt,Int.toNat_natCast];exact RP.out
end Go.Proofs.YtpcdfepndmconaaGreatDoor
