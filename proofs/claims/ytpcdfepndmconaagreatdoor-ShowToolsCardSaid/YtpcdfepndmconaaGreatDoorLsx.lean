/- The examples of the documentation hold: less, from the general contracts. -/
import Derived.Test.YtpcdfepndmconaaGreatDoorDlp
import Derived.Test.YtpcdfepndmconaaGreatDoorOpp
import Derived.Test.YtpcdfepndmconaaGreatDoorIvu
import Derived.Test.YtpcdfepndmconaaGreatDoorWtn
import Derived.Test.YtpcdfepndmconaaGreatDoorPts
import Derived.Test.YtpcdfepndmconaaGreatDoorSameS
namespace Go.Proofs.YtpcdfepndmconaaGreatDoor
open Go.RowKit
def lsS:Stp:=⟨23,11,4,[16,18],12⟩
theorem ls_deal:dealB lsS 3 2 [5] [1] 2=true:=by kernel_rfl
theorem ls_esc:escZ lsS lsS.Q.toNat [5] [1]=[6]:=by kernel_rfl
theorem ls_pts:ptsZ lsS.Q.toNat [3,5] [2,1] 2=[1,8,3,2,2,4]:=by kernel_rfl
theorem ls_chk:chkZ lsS 16 [6] 1 8 3=true:=by kernel_rfl
theorem ls_wit:witZ 11 5 [3,9]=3:=by kernel_rfl
theorem ls_upd:updZ 11 3 5 [1,5]=0:=by kernel_rfl
theorem ls_w1:widthZ 1=2:=by kernel_rfl
theorem ls_w2:widthZ 2=3:=by kernel_rfl
theorem ls_w3:widthZ 65535=17:=by kernel_rfl
theorem ls_o1:OpenR lsS 16 [6] [(1,8,3)] (0,0,18):=Or.inr (Or.inr (Or.inl ⟨by kernel_rfl,by kernel_rfl,by decide,rfl⟩))
theorem ls_thr1:Thr 11 [1,2] [8,2] [3,5]:=⟨rfl,by intro x hx;simp at hx;omega,fun j hj hy=>by
 match j,hj with
 | 0,_=>exact ⟨0,by simp [Itp.ev]⟩
 | 1,_=>exact ⟨1,by simp [Itp.ev]⟩⟩
theorem ls_thr2:Thr 11 [1,2] [3,4] [2,1]:=⟨rfl,by intro x hx;simp at hx;omega,fun j hj hy=>by
 match j,hj with
 | 0,_=>exact ⟨0,by simp [Itp.ev]⟩
 | 1,_=>exact ⟨0,by simp [Itp.ev]⟩⟩
theorem ls_o2:OpenR lsS 16 [6] [(1,8,3),(2,2,4)] (3,2,0):=Or.inr (Or.inr (Or.inr ⟨by kernel_rfl,by kernel_rfl,by decide,[3,5],[2,1],⟨ls_thr1,ls_thr2⟩,by kernel_rfl⟩))
set_option maxRecDepth 100000 in
set_option maxHeartbeats 8000000 in
theorem lessx_any (w:World) (hE:Env2 w):Calls Tryz.prog 26 #[] w (Ret (.bool true) w):=by
 obtain ⟨W,hW⟩:∃ W,(w.alloc (.cells #[.int .i64 16,.int .i64 18] 3)).alloc (.cells #[.int .i64 23,.int .i64 11,.int .i64 4,.slice (some ⟨w.heap.size,0,none⟩) 2 2,.int .i64 12] 26)=W:=⟨_,rfl⟩;have hkW:Kept [] w W:=hW▸((Kept.refl _ _).alloc _).alloc _;have b0:Blk W w.heap.size 3 #[.int .i64 16,.int .i64 18]:=hW▸(Blk.new w 3 #[.int .i64 16,.int .i64 18]).alloc _
 have b1:Blk W (w.heap.size+1) 26 #[.int .i64 23,.int .i64 11,.int .i64 4,.slice (some ⟨w.heap.size,0,none⟩) 2 2,.int .i64 12]:=by
  have:=Blk.new (w.alloc (.cells #[.int .i64 16,.int .i64 18] 3)) 26 #[.int .i64 23,.int .i64 11,.int .i64 4,.slice (some ⟨w.heap.size,0,none⟩) 2 2,.int .i64 12];rw [hW,World.size_alloc] at this;exact this
 have SV:Hid (StpV W (.agg #[.int .i64 23,.int .i64 11,.int .i64 4,.slice (some ⟨w.heap.size,0,none⟩) 2 2,.int .i64 12]) lsS):=⟨⟨some ⟨w.heap.size,0,none⟩,2,rfl,row_of_blk (cs:=ints [16,18]) b0 rfl (by decide)⟩,⟨by decide,by decide⟩,⟨by decide,by decide⟩,⟨by decide,by decide⟩,by intro x hx;simp [lsS] at hx;rcases hx with rfl|rfl <;> exact ⟨by omega,by omega⟩,⟨by decide,by decide⟩⟩;have HE:Hid (∀ u,Kept [] W u→Env2 u):=fun u k=>hE.kept0 (hkW.trans k)
 have K:Hid (∀ w',Kept [] W w'→w'.cell? ⟨w.heap.size+1,0,none⟩=some (.int .i64 23)∧w'.cell? ⟨w.heap.size+1,1,none⟩=some (.int .i64 11)∧w'.cell? ⟨w.heap.size+1,2,none⟩=some (.int .i64 4)∧w'.cell? ⟨w.heap.size+1,3,none⟩=some (.slice (some ⟨w.heap.size,0,none⟩) 2 2)∧w'.cell? ⟨w.heap.size+1,4,none⟩=some (.int .i64 12)) :=
  fun w' k=>⟨(b1.kept k (by simp)).cell 0,(b1.kept k (by simp)).cell 1,(b1.kept k (by simp)).cell 2,(b1.kept k (by simp)).cell 3,(b1.kept k (by simp)).cell 4⟩
 have HW:Hid ((w.alloc (.cells #[.int .i64 16,.int .i64 18] 3)).alloc (.cells #[.int .i64 23,.int .i64 11,.int .i64 4,.slice (some ⟨w.heap.size,0,none⟩) 2 2,.int .i64 12] 26)=W):=hW
 have HD:Hid (Calls Tryz.prog 35 #[.agg #[.int .i64 23,.int .i64 11,.int .i64 4,.slice (some ⟨w.heap.size,0,none⟩) 2 2,.int .i64 12],.int .i64 3,.int .i64 2,.slice (some ⟨W.heap.size,0,none⟩) 1 1,.slice (some ⟨W.heap.size+1,0,none⟩) 1 1,.int .i64 2] ((W.alloc (.cells #[.int .i64 5] 3)).alloc (.cells #[.int .i64 1] 3)) (DealQ lsS 3 2 [5] [1] 2 ((W.alloc (.cells #[.int .i64 5] 3)).alloc (.cells #[.int .i64 1] 3)))) :=
  deal_any lsS _ _ _ 3 2 [5] [1] 2 _ (SV.out.kept (((Kept.refl _ _).alloc _).alloc _)) ((Row.lit W [5] (by simp)).kept ((Kept.refl _ _).alloc _)) (by have:=Row.lit (W.alloc (.cells #[.int .i64 5] 3)) [1] (by simp);rw [World.size_alloc] at this;exact this) (by simp) (by intro x hx;simp at hx;subst hx;exact ⟨by omega,by omega⟩) (by intro x hx;simp at hx;subst hx;exact ⟨by omega,by omega⟩) ⟨by omega,by omega⟩ ⟨by omega,by omega⟩ ⟨by omega,by omega⟩ (HE.out _ (((Kept.refl _ _).alloc _).alloc _))
 clear hW b0 b1 hE
 go_enter Tryz.func26,Tryz.ntmps26
 go_upto_region 2 with (fail);rw [HW.out];obtain ⟨e0,e1,e2,e3,e4⟩:=K.out W (Kept.refl _ _);go_wp2_with (go_at_call 35;refine HD.out.mono ?_);rintro e w1 ⟨hk1,⟨hno,_⟩|⟨_,ve,vp,rfl,hve,hvp⟩⟩
 ·rw [ls_deal] at hno;cases hno
 rw [ls_esc] at hve;replace hvp:Row w1 3 vp 2 (ints (ptsZ lsS.Q.toNat [3,5] [2,1] 2)):=hvp;rw [ls_pts] at hvp;replace hve:Row w1 1 ve 1 (ints [6]):=hve;clear e0 e1 e2 e3 e4;obtain ⟨ae,ce,rfl,_,_⟩:=hve.form;obtain ⟨ap,cp,rfl,_,_⟩:=hvp.form;obtain ⟨bp,op,rfl,hcp⟩:=hvp.at_ (by omega);have hcap:=hvp.cap
 have icap:(1:Int)≤(cp:Int):=by omega
 have hkW1:Kept [] W w1:=(((Kept.refl _ _).alloc _).alloc _).trans hk1;have HVE:=Lib.hid hve;have HVP:=Lib.hid hvp;have HCP:=Lib.hid hcp
 have HS:Hid (Calls Tryz.prog 37 #[.slice ae 1 ce,.slice (some ⟨w1.heap.size,0,none⟩) 1 1] (w1.alloc (.cells #[.int .i64 6] 3)) fun e w'=>e=.returned (.bool true)∧Kept [] (w1.alloc (.cells #[.int .i64 6] 3)) w') :=
  sameInts_eq (l:=[6]) (hve.kept ((Kept.refl _ _).alloc _)) (Row.lit w1 [6] (by simp))
 clear hve hvp hcp;go_wp2_with (go_at_call 37;refine HS.out.mono ?_);rintro e w2 ⟨rfl,hk2⟩;have hk12:Kept [] w1 w2:=((Kept.refl _ _).alloc _).trans hk2
 have HPT:Hid (Calls Tryz.prog 38 #[.slice (some ⟨bp,op,none⟩) 2 cp,.slice (some ⟨w2.heap.size,0,none⟩) 2 2] (w2.alloc (.cells #[.int .i64 1,.int .i64 8,.int .i64 3,.int .i64 2,.int .i64 2,.int .i64 4] 78)) fun e w'=>e=.returned (.bool true)∧Kept [] (w2.alloc (.cells #[.int .i64 1,.int .i64 8,.int .i64 3,.int .i64 2,.int .i64 2,.int .i64 4] 78)) w') :=
  samePoints_any _ _ 2 2 [1,8,3,2,2,4] [1,8,3,2,2,4] _ ((HVP.out.kept hk12).kept ((Kept.refl _ _).alloc _)) (row_of_blk (cs:=ints [1,8,3,2,2,4]) (Blk.new w2 78 (ints [1,8,3,2,2,4]).toArray) rfl (by omega))
 go_wp2_with (go_at_call 38;refine HPT.out.mono ?_);rintro e w3 ⟨rfl,hk3⟩;have hk13:Kept [] w1 w3:=hk12.trans (((Kept.refl _ _).alloc _).trans hk3)
 have hi6:∀ x∈([6]:List Int),Wire.I64 x:=by intro x hx;simp at hx;subst hx;exact ⟨by omega,by omega⟩
 have O2:Hid (Calls Tryz.prog 41 #[.agg #[.int .i64 23,.int .i64 11,.int .i64 4,.slice (some ⟨w.heap.size,0,none⟩) 2 2,.int .i64 12],.int .i64 16,.slice ae 1 ce,.slice (some ⟨bp,op,none⟩) 2 cp] w3 fun e w2=>e=.returned (.tuple #[.int .i64 3,.int .i64 2,.int .i64 0])∧Kept [] w3 w2):=by
  refine (open_any lsS _ _ _ 16 [6] [(1,8,3),(2,2,4)] w3 (SV.out.kept (hkW1.trans hk13)) (HVE.out.kept hk13) (HVP.out.kept hk13) (by simp) hi6 ⟨by omega,by omega⟩ (by intro p hp;simp at hp;rcases hp with rfl|rfl <;> exact ⟨⟨by decide,by decide⟩,⟨by decide,by decide⟩,⟨by decide,by decide⟩⟩) (by simp) (HE.out _ (hkW1.trans hk13))).mono fun e w' hh=>?_;obtain ⟨⟨r,hr,rfl⟩,k⟩:=hh;rw [openR_one hr ls_o2];exact ⟨rfl,k⟩
 obtain ⟨e0,e1,e2,e3,e4⟩:=K.out w3 (hkW1.trans hk13);go_wp2_with (go_at_call 41;refine O2.out.mono ?_);rintro e w4 ⟨rfl,hk4⟩;clear e0 e1 e2 e3 e4;have hk14:=hk13.trans hk4
 have O1:Hid (∀ w',Kept [] w4 w'→Calls Tryz.prog 41 #[.agg #[.int .i64 23,.int .i64 11,.int .i64 4,.slice (some ⟨w.heap.size,0,none⟩) 2 2,.int .i64 12],.int .i64 16,.slice ae 1 ce,.slice (some ⟨bp,op,none⟩) 1 cp] w' fun e w2=>e=.returned (.tuple #[.int .i64 0,.int .i64 0,.int .i64 18])∧Kept [] w' w2):=fun w' k=>by
  have hrow:Row w' 3 (.slice (some ⟨bp,op,none⟩) 1 cp) 1 (ints (flatP [(1,8,3)])):=by
   refine ⟨rfl,by omega,_,_,rfl,by omega,fun _=>⟨bp,op,rfl,fun j v hv=>?_⟩⟩;have hc:=fun i v h=>Kept.cellOf (HCP.out i v h) w' (hk14.trans k)
   match j,hv with
   | 0,hv=>exact hc 0 v hv
   | 1,hv=>exact hc 1 v hv
   | 2,hv=>exact hc 2 v hv
  refine (open_any lsS _ _ _ 16 [6] [(1,8,3)] w' (SV.out.kept (hkW1.trans (hk14.trans k))) (HVE.out.kept (hk14.trans k)) hrow (by simp) hi6 ⟨by omega,by omega⟩ (by intro p hp;simp at hp;subst hp;exact ⟨⟨by decide,by decide⟩,⟨by decide,by decide⟩,⟨by decide,by decide⟩⟩) (by simp) (HE.out _ (hkW1.trans (hk14.trans k)))).mono fun e w2 hh=>?_;obtain ⟨⟨r,hr,rfl⟩,k⟩:=hh;rw [openR_one hr ls_o1];exact ⟨rfl,k⟩
 have q0:∀ w',Kept [] w4 w'→w'.cell? ⟨w.heap.size+1,0,none⟩=some (.int .i64 23):=fun w' k=>(K.out w' (hkW1.trans (hk14.trans k))).1;have q1:∀ w',Kept [] w4 w'→w'.cell? ⟨w.heap.size+1,1,none⟩=some (.int .i64 11):=fun w' k=>(K.out w' (hkW1.trans (hk14.trans k))).2.1;have q2:∀ w',Kept [] w4 w'→w'.cell? ⟨w.heap.size+1,2,none⟩=some (.int .i64 4):=fun w' k=>(K.out w' (hkW1.trans (hk14.trans k))).2.2.1;have q3:∀ w',Kept [] w4 w'→w'.cell? ⟨w.heap.size+1,3,none⟩=some (.slice (some ⟨w.heap.size,0,none⟩) 2 2):=fun w' k=>(K.out w' (hkW1.trans (hk14.trans k))).2.2.2.1;have q4:∀ w',Kept [] w4 w'→w'.cell? ⟨w.heap.size+1,4,none⟩=some (.int .i64 12):=fun w' k=>(K.out w' (hkW1.trans (hk14.trans k))).2.2.2.2;go_upto_region 6 with (fail)
 go_region_held3 (fun w'=>Kept [] w4 w') (repeat (first|(with_reducible assumption)|(with_reducible exact Kept.refl _ _)|(with_reducible refine Kept.drew ?_)))
  (first
   | ((go_at_call 41;refine (kept_from (W:=w4) (by assumption) (O1.out _ (by assumption))).mono ?_;rintro e w5 ⟨rfl,hk5⟩)))
 rename_i hHeld;clear hHeld q0 q1 q2 q3 q4;have hk15:=hk14.trans hk5
 have HWT:Hid (Calls Tryz.prog 31 #[.int .i64 11,.int .i64 5,.slice (some ⟨w5.heap.size,0,none⟩) 2 2] (w5.alloc (.cells #[.int .i64 3,.int .i64 9] 3)) fun e w'=>e=.returned (.int .i64 3)∧Kept [] (w5.alloc (.cells #[.int .i64 3,.int .i64 9] 3)) w'):=by
  have:=witness_show 11 5 _ [3,9] _ (Row.lit w5 [3,9] (by simp)) (by intro x hx;simp at hx;rcases hx with rfl|rfl <;> exact ⟨by omega,by omega⟩) ⟨by omega,by omega⟩;rw [ls_wit] at this;exact this
 go_upto_region 8 with (go_at_call 31;refine HWT.out.mono ?_;rintro e w6 ⟨rfl,hk6⟩);have hk16:Kept [] w1 w6:=hk15.trans (((Kept.refl _ _).alloc _).trans hk6);have hkW6:=hkW1.trans hk16;have p0:∀ w',Kept [] w6 w'→w'.cell? ⟨bp,op,none⟩=some (.int .i64 1):=fun w' k=>Kept.cellOf (HCP.out 0 _ rfl) w' (hk16.trans k);have p1:∀ w',Kept [] w6 w'→w'.cell? ⟨bp,op+1,none⟩=some (.int .i64 8):=fun w' k=>Kept.cellOf (HCP.out 1 _ rfl) w' (hk16.trans k);have p2:∀ w',Kept [] w6 w'→w'.cell? ⟨bp,op+2,none⟩=some (.int .i64 3):=fun w' k=>Kept.cellOf (HCP.out 2 _ rfl) w' (hk16.trans k);have q0:∀ w',Kept [] w6 w'→w'.cell? ⟨w.heap.size+1,0,none⟩=some (.int .i64 23):=fun w' k=>(K.out w' (hkW6.trans k)).1;have q1:∀ w',Kept [] w6 w'→w'.cell? ⟨w.heap.size+1,1,none⟩=some (.int .i64 11):=fun w' k=>(K.out w' (hkW6.trans k)).2.1;have q2:∀ w',Kept [] w6 w'→w'.cell? ⟨w.heap.size+1,2,none⟩=some (.int .i64 4):=fun w' k=>(K.out w' (hkW6.trans k)).2.2.1;have q3:∀ w',Kept [] w6 w'→w'.cell? ⟨w.heap.size+1,3,none⟩=some (.slice (some ⟨w.heap.size,0,none⟩) 2 2):=fun w' k=>(K.out w' (hkW6.trans k)).2.2.2.1;have q4:∀ w',Kept [] w6 w'→w'.cell? ⟨w.heap.size+1,4,none⟩=some (.int .i64 12):=fun w' k=>(K.out w' (hkW6.trans k)).2.2.2.2
 have CH:Hid (∀ w',Kept [] w6 w'→Calls Tryz.prog 39 #[.agg #[.int .i64 23,.int .i64 11,.int .i64 4,.slice (some ⟨w.heap.size,0,none⟩) 2 2,.int .i64 12],.int .i64 16,.slice ae 1 ce,.agg #[.int .i64 1,.int .i64 8,.int .i64 3]] w' fun e w2=>e=.returned (.bool true)∧Kept [] w' w2) :=
  fun w' k=>ls_chk▸check_any lsS _ _ 16 [6] 1 8 3 w' (SV.out.kept (hkW6.trans k)) (HVE.out.kept (hk16.trans k)) hi6 ⟨by omega,by omega⟩ ⟨by omega,by omega⟩ ⟨by omega,by omega⟩ ⟨by omega,by omega⟩ (HE.out _ (hkW6.trans k))
 have UP:Hid (∀ v w',Row w' 1 v 2 (ints [1,5])→Calls Tryz.prog 33 #[.int .i64 11,.int .i64 3,.int .i64 5,v] w' fun e w2=>e=.returned (.int .i64 0)∧Kept [] w' w2):=fun v w' h=>by
  have:=update_show 11 3 5 v [1,5] w' h (by intro x hx;simp at hx;rcases hx with rfl|rfl <;> exact ⟨by omega,by omega⟩) ⟨by omega,by omega⟩ ⟨by omega,by omega⟩;rw [ls_upd] at this;exact this
 have wd1:Hid (∀ u,Calls Tryz.prog 29 #[.int .i64 1] u fun e w'=>e=.returned (.int .i64 2)∧u=w'):=fun u=>ls_w1▸width_show 1 u;have wd2:Hid (∀ u,Calls Tryz.prog 29 #[.int .i64 2] u fun e w'=>e=.returned (.int .i64 3)∧u=w'):=fun u=>ls_w2▸width_show 2 u;have wd3:Hid (∀ u,Calls Tryz.prog 29 #[.int .i64 65535] u fun e w'=>e=.returned (.int .i64 17)∧u=w'):=fun u=>ls_w3▸width_show 65535 u;clear icap hcap hi6
 go_region_held3 (fun w'=>Kept [] w6 w') (repeat (first|(with_reducible assumption)|(with_reducible exact Kept.refl _ _)|(with_reducible refine Kept.drew ?_)|(with_reducible refine Kept.alloc ?_ _)))
  (first
   | ((go_at_call_of 29 (Value.int IntKind.i64 1);refine (wd1.out _).mono ?_;rintro e w' ⟨rfl,rfl⟩))
   | ((go_at_call_of 29 (Value.int IntKind.i64 2);refine (wd2.out _).mono ?_;rintro e w' ⟨rfl,rfl⟩))
   | ((go_at_call_of 29 (Value.int IntKind.i64 65535);refine (wd3.out _).mono ?_;rintro e w' ⟨rfl,rfl⟩))
   | ((go_at_call 39;refine (kept_from (W:=w6) (by assumption) (CH.out _ (by assumption))).mono ?_;rintro e w7 ⟨rfl,hk7⟩))
   | ((go_at_call 33;refine (UP.out _ _ (Row.lit _ [1,5] (by simp))).mono ?_;rintro e w8 ⟨rfl,hk8⟩;have ht8:Kept [] w6 w8:=Kept.trans (by (repeat (first|(with_reducible assumption)|(with_reducible exact Kept.refl _ _)|(with_reducible refine Kept.drew ?_)|(with_reducible refine Kept.alloc ?_ _)))) hk8)))
 rename_i hHeld;go_wp2_with fail;go_ret;exact ⟨rfl,hkW.trans (hkW6.trans hHeld)⟩
end Go.Proofs.YtpcdfepndmconaaGreatDoor
