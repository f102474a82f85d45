/- The one inverse modulo a number; small differences have one modulo what passes the primality test. -/
import Derived.Test.YtpcdfepndmconaaGreatDoorRound
import Derived.Test.YtpcdfepndmconaaGreatDoorChk
import Derived.Test.YtpcdfepndmconaaGreatDoorPrm
/- JOINED: Chp Ivu -/
/- The program's CheckPoint. -/
namespace Go.Proofs.YtpcdfepndmconaaGreatDoor
open Go.RowKit
theorem powN_succ (q:Nat) (j:Int) (i:Nat) (h:2≤q):mulN q ((powN q j i:Nat):Int) j=powN q j (i+1):=by
 unfold mulN powN
 have hl:res q j ^ i % q < q:=Nat.mod_lt _ (by omega);rw [res_nat hl,Nat.pow_succ,Nat.mod_mul_mod]
theorem pwr_one (q c:Nat) (h:2≤q) (hc:c < 2*q+1):pwrN q (c:Int) 1=c:=by
 unfold pwrN
 have h1:res q 1=1:=res_nat (x:=1) (by omega);rw [h1,Nat.pow_one,res_nat hc,Nat.mod_eq_of_lt hc]
theorem zip_fold (q:Nat) (j:Int) (h:2≤q):∀ (esc:List Int) (u i:Nat),
  (esc.zip ((List.range' i esc.length).map fun k=>((powN q j (k+1):Nat):Int))).foldl (stepQ q) u=(esc.foldl (stepC q j) (u,powN q j i)).1
 | [],_,_=>rfl
 | c::esc,u,i=>by
  rw [List.length_cons,List.range'_succ,List.map_cons,List.zip_cons_cons,List.foldl_cons,List.foldl_cons,zip_fold q j h esc _ (i+1)]
  show _=(esc.foldl (stepC q j) (mulN (2*q+1) (u:Int) ((pwrN q c ((mulN q ((powN q j i:Nat):Int) j:Nat):Int):Nat):Int),mulN q ((powN q j i:Nat):Int) j)).1
  rw [powN_succ q j i h]
  rfl
/-- the exponents of the product -/
def pws (q:Nat) (j:Int) (n:Nat):List Int:=(List.range n).map fun k=>((powN q j (k+1):Nat):Int)
theorem pws_succ (q:Nat) (j:Int) (n:Nat):pws q j (n+1)=pws q j n++[((powN q j (n+1):Nat):Int)]:=by simp [pws,List.range_succ]
theorem pws_len (q:Nat) (j:Int) (n:Nat):(pws q j n).length=n:=by simp [pws]
theorem chk_prod (q c:Nat) (j:Int) (esc:List Int) (h:2≤q) (hc:c < 2*q+1):prodQ q ((c:Int)::esc) (1::pws q j esc.length)=chkW q c esc j:=by
 unfold prodQ chkW
 rw [List.zip_cons_cons,List.foldl_cons,show stepQ q 1 ((c:Int),1)=c by unfold stepQ;rw [pwr_one q c h hc];exact mul_one _ _ (by omega) hc];have:=zip_fold q j h esc c 0;rw [show powN q j 0=1 by unfold powN;rw [Nat.pow_zero,Nat.mod_eq_of_lt (by omega)]] at this;rw [Int.toNat_natCast,←this,←List.range_eq_range']
 rfl
theorem own_of_blk_le {w:World} {B g:Nat} {T:TypeId} {cs:List Value} (h:Blk w g T cs.toArray) (hn:cs.length≤maxLen) (hB:B≤g):w.ownsRow B T 1 (.slice (some ⟨g,0,none⟩) cs.length cs.length) cs.length cs :=
 ⟨by simp,Or.inr ⟨g,cs.length,cs.toArray,rfl,hB,h,Nat.le_refl _,hn,by simp,by simp⟩⟩
set_option maxRecDepth 100000 in
set_option maxHeartbeats 4000000 in
theorem check_any (s:Stp) (sv v:Value) (commit:Int) (esc:List Int) (j sh mk:Int) (w:World) (hs:StpV w sv s) (hv:Row w 1 v esc.length (ints esc)) (hi:∀ x∈esc,Wire.I64 x)
  (hc:Wire.I64 commit) (hj:Wire.I64 j) (hsh:Wire.I64 sh) (hmk:Wire.I64 mk) (hEn:Env2 w) :
  Calls Tryz.prog 39 #[sv,.int .i64 commit,v,.agg #[.int .i64 j,.int .i64 sh,.int .i64 mk]] w fun e w'=>e=.returned (.bool (chkZ s commit esc j sh mk))∧Kept [] w w':=by
 have hs':=hs;obtain ⟨⟨sa,sc,rfl,hrow⟩,ip,iq,ig,ib,il⟩:=hs;obtain ⟨ae,ce,rfl,hle,_⟩:=hv.form;obtain ⟨W,hW⟩:∃ W,((w.alloc (.cells (stpA s (.slice sa s.bases.length sc)) 26)).alloc (.cells #[.int .i64 j,.int .i64 sh,.int .i64 mk] 78))=W:=⟨_,rfl⟩;have hb:Blk W w.heap.size 26 (stpA s (.slice sa s.bases.length sc)):=hW▸(Blk.new _ _ _).alloc _
 have hp:Blk W (w.heap.size+1) 78 #[.int .i64 j,.int .i64 sh,.int .i64 mk]:=by
  have:=Blk.new (w.alloc (.cells (stpA s (.slice sa s.bases.length sc)) 26)) 78 #[.int .i64 j,.int .i64 sh,.int .i64 mk];rw [World.size_alloc] at this;exact hW▸this
 have hkW:Kept [] w W:=hW▸((Kept.refl _ _).alloc _).alloc _
 have hWs:W.heap.size=w.heap.size+2:=by rw [←hW];simp only [World.size_alloc]
 have hEW:Env2 W:=hEn.kept0 hkW;have HS:=Lib.hid (hs'.kept hkW);have HE:=Lib.hid (hv.kept hkW);have HI:=Lib.hid hi
 have K:Hid (∀ w',Kept [] W w'→w'.cell? ⟨w.heap.size,0,none⟩=some (.int .i64 s.P)∧w'.cell? ⟨w.heap.size,1,none⟩=some (.int .i64 s.Q)∧w'.cell? ⟨w.heap.size,2,none⟩=some (.int .i64 s.G)∧w'.cell? ⟨w.heap.size,3,none⟩=some (.slice sa s.bases.length sc)∧w'.cell? ⟨w.heap.size,4,none⟩=some (.int .i64 s.blind)) :=
  fun w' k=>⟨(hb.kept k (by simp)).cell 0,(hb.kept k (by simp)).cell 1,(hb.kept k (by simp)).cell 2,(hb.kept k (by simp)).cell 3,(hb.kept k (by simp)).cell 4⟩
 have PK:Hid (∀ w',Kept [] W w'→w'.cell? ⟨w.heap.size+1,0,none⟩=some (.int .i64 j)∧w'.cell? ⟨w.heap.size+1,1,none⟩=some (.int .i64 sh)∧w'.cell? ⟨w.heap.size+1,2,none⟩=some (.int .i64 mk)) :=
  fun w' k=>⟨(hp.kept k (by simp)).cell 0,(hp.kept k (by simp)).cell 1,(hp.kept k (by simp)).cell 2⟩
 have HW:Hid (((w.alloc (.cells #[.int .i64 s.P,.int .i64 s.Q,.int .i64 s.G,.slice sa s.bases.length sc,.int .i64 s.blind] 26)).alloc (.cells #[.int .i64 j,.int .i64 sh,.int .i64 mk] 78))=W):=hW;obtain ⟨e0,e1,e2,e3,e4⟩:=K.out W (Kept.refl _ _);have VS:Hid (∀ w',Kept [] W w'→Calls Tryz.prog 84 #[.agg #[.int .i64 s.P,.int .i64 s.Q,.int .i64 s.G,.slice sa s.bases.length sc,.int .i64 s.blind]] w' fun e w2=>e=.returned (.bool (setupB s))∧Kept [] w' w2):=fun w' k=>validSetup_any _ s w' (HS.out.kept k) (hEW.kept0 k)
 unfold chkZ
 obtain ⟨X,hX⟩:∃ X,(W.alloc (.cells #[.int .i64 s.P,.int .i64 s.Q,.int .i64 s.G,.slice sa s.bases.length sc,.int .i64 s.blind] 117)).drew=X:=⟨_,rfl⟩;have hkX:Kept [] W X:=hX▸((Kept.refl _ _).alloc _).drew
 have hx:Blk X (w.heap.size+2) 117 (stpA s (.slice sa s.bases.length sc)):=by
  have:=Blk.new W 117 (stpA s (.slice sa s.bases.length sc));rw [hWs] at this;exact hX▸this
 have hXs:X.heap.size=w.heap.size+3:=by rw [←hX];simp only [World.drew,World.size_alloc];omega
 have L:Hid (∀ w',Kept [] X w'→w'.cell? ⟨w.heap.size+2,0,none⟩=some (.int .i64 s.P)∧w'.cell? ⟨w.heap.size+2,1,none⟩=some (.int .i64 s.Q)∧w'.cell? ⟨w.heap.size+2,2,none⟩=some (.int .i64 s.G)∧w'.cell? ⟨w.heap.size+2,3,none⟩=some (.slice sa s.bases.length sc)∧w'.cell? ⟨w.heap.size+2,4,none⟩=some (.int .i64 s.blind)) :=
  fun w' k=>⟨(hx.kept k (by simp)).cell 0,(hx.kept k (by simp)).cell 1,(hx.kept k (by simp)).cell 2,(hx.kept k (by simp)).cell 3,(hx.kept k (by simp)).cell 4⟩
 have HX:=Lib.hid hX
 cases hB:setupB s
 ·rw [hB] at VS;rw [Bool.false_and];clear hW hb hp hrow ib hs' hB hv hi hX hx
  go_enter Tryz.func39,Tryz.ntmps39
  go_upto_region 1 with (fail);rw [HW.out]
  go_region
  rw [HX.out];clear e0 e1 e2 e3 e4;obtain ⟨e0,e1,e2,e3,e4⟩:=K.out X hkX;go_wp2_with (go_at_call 84;refine (VS.out _ hkX).mono ?_);rintro e w1 ⟨rfl,k1⟩;go_wp2_with fail;go_ret;exact ⟨rfl,hkW.trans (hkX.trans k1)⟩
 rw [hB] at VS;rw [Bool.true_and];obtain ⟨q,hok,hg,hqt⟩:=setupB_q hB;rw [hqt];have hqq:=hok.hq;have hq5:=hok.h5;have hQp:=Lib.hid hok.hQ;have EL:Hid (∀ w',Kept [] W w'→Calls Tryz.prog 95 #[.agg #[.int .i64 s.P,.int .i64 s.Q,.int .i64 s.G],.int .i64 commit] w' fun e w2=>e=.returned (.bool (memB q commit))∧Kept [] w' w2):=fun w' k=>element_any s.P s.Q s.G commit q w' hok hg hc (hEW.kept0 k)
 have ES:Hid (∀ w',Kept [] W w'→Calls Tryz.prog 94 #[.agg #[.int .i64 s.P,.int .i64 s.Q,.int .i64 s.G,.slice sa s.bases.length sc,.int .i64 s.blind],.slice ae esc.length ce,.int .i64 esc.length] w' fun e w2=>e=.returned (.bool (esc.all (memB q)))∧Kept [] w' w2):=fun w' k=>by
  have:=elements_any s q _ _ esc esc.length w' (HS.out.kept k) (HE.out.kept k) hok hg hi (hEW.kept0 k)
  unfold eltsB at this
  rwa [decide_eq_true rfl,Bool.true_and] at this
 have EXP:Hid (∀ w',Kept [] W w'→Calls Tryz.prog 85 #[.agg #[.int .i64 s.P,.int .i64 s.Q,.int .i64 s.G,.slice sa s.bases.length sc,.int .i64 s.blind],.slice (some ⟨w'.heap.size,0,none⟩) 2 2,.int .i64 2] (w'.alloc (.cells #[.int .i64 sh,.int .i64 mk] 3)) fun e w2=>e=.returned (.bool (expoB s sh&&expoB s mk))∧Kept [] w' w2) :=
  fun w' k=>by
   have:=exponents_any s _ _ [sh,mk] 2 _ (HS.out.kept (k.alloc _)) (row_of_blk (cs:=ints [sh,mk]) (Blk.new w' 3 #[.int .i64 sh,.int .i64 mk]) rfl (by simp));rw [show expsB s [sh,mk] 2=(expoB s sh&&expoB s mk) by simp [expsB]] at this
   exact this.mono fun e w2 h=>⟨h.1,((Kept.refl [] w').alloc _).trans h.2⟩
 have CM:Hid (∀ w',Kept [] W w'→Calls Tryz.prog 86 #[.agg #[.int .i64 s.P,.int .i64 s.Q,.int .i64 s.G,.slice sa s.bases.length sc,.int .i64 s.blind],.int .i64 sh,.int .i64 mk] w' fun e w2=>e=.returned (.int .i64 ((cmtQ q s.G s.blind sh mk:Nat):Int))∧Kept [] w' w2):=fun w' k=>commit_any s q _ sh mk w' (HS.out.kept k) hB hok hsh hmk (hEW.kept0 k)
 have PWR:Hid (∀ (k:Nat) w',k < 1000→Calls Tryz.prog 96 #[.int .i64 s.Q,.int .i64 j,.int .i64 ((k:Int)+1)] w' fun e w2=>e=.returned (.int .i64 ((powN q j (k+1):Nat):Int))∧Kept [] w' w2):=fun k w' hk=>by
  rw [hQp.out];exact fpow_any q j (k+1) w' (by omega) (by omega) hj (by omega)
 have HOK:=Lib.hid hok;obtain ⟨T,hT⟩:∃ T,chk2 s q commit esc j sh mk=T:=⟨_,rfl⟩;rw [hT]
 unfold chk2 at hT
 obtain ⟨b1,hb1⟩:∃ b,memB q commit=b:=⟨_,rfl⟩;obtain ⟨b2,hb2⟩:∃ b,esc.all (memB q)=b:=⟨_,rfl⟩;obtain ⟨b4,hb4⟩:∃ b,expoB s sh=b:=⟨_,rfl⟩;obtain ⟨b5,hb5⟩:∃ b,expoB s mk=b:=⟨_,rfl⟩;rw [hb1,hb2,hb4,hb5] at hT;rw [hb1] at EL;rw [hb2] at ES;rw [hb4,hb5] at EXP;have HB1:=Lib.hid hb1;have HT:=Lib.hid hT;clear hW hb hp hrow ib hs' hB hv hi hb1 hb2 hb4 hb5 hT hok hg hqt hX hx
 go_enter Tryz.func39,Tryz.ntmps39
 go_upto_region 1 with (fail);rw [HW.out]
 go_region
 rw [HX.out];clear e0 e1 e2 e3 e4 HX;obtain ⟨e0,e1,e2,e3,e4⟩:=K.out X hkX;go_wp2_with (go_at_call 84;refine (VS.out _ hkX).mono ?_);rintro e w1 ⟨rfl,k1⟩;clear e0 e1 e2 e3 e4
 by_cases hlen:esc.length < 12
 case neg =>
  obtain rfl:T=false:=HT.out.symm.trans (by rw [decide_eq_false hlen];rfl)
  have d1:decide ((12:Int)≤(esc.length:Int))=true:=by simp;omega
  go_wp2_with fail;go_ret;exact ⟨rfl,hkW.trans (hkX.trans k1)⟩
 have d1:decide ((12:Int)≤(esc.length:Int))=false:=by simp;omega
 obtain ⟨f0,f1,f2,f3,f4⟩:=L.out w1 k1;go_wp2_with (go_at_call 94;refine (ES.out _ (hkX.trans k1)).mono ?_);rintro e w2 ⟨rfl,hk2⟩;have k2:=k1.trans hk2;clear hk2 f0 f1 f2 f3 f4;obtain ⟨e0,e1,e2,e3,e4⟩:=K.out w2 (hkX.trans k2)
 cases b2
 ·obtain rfl:T=false:=HT.out.symm.trans (by simp);go_wp2_with fail;go_ret;exact ⟨rfl,hkW.trans (hkX.trans k2)⟩
 go_wp2_with (go_at_call 95;refine (EL.out _ (hkX.trans k2)).mono ?_);rintro e w3 ⟨rfl,hk3⟩;have k3:=k2.trans hk3;clear hk3 e0 e1 e2 e3 e4;obtain ⟨p0,p1,p2⟩:=PK.out w3 (hkX.trans k3);obtain ⟨f0,f1,f2,f3,f4⟩:=L.out w3 k3
 cases b1
 ·obtain rfl:T=false:=HT.out.symm.trans (by simp);go_wp2_with fail;go_ret;exact ⟨rfl,hkW.trans (hkX.trans k3)⟩
 by_cases h1:j < 1
 ·obtain rfl:T=false:=HT.out.symm.trans (by rw [decide_eq_false (show ¬ 1≤j by omega)];simp);have d2:decide (j < 1)=true:=decide_eq_true h1;go_wp2_with fail;go_ret;exact ⟨rfl,hkW.trans (hkX.trans k3)⟩
 have d2:decide (j < 1)=false:=decide_eq_false h1
 by_cases h2:12 < j
 ·obtain rfl:T=false:=HT.out.symm.trans (by rw [decide_eq_false (show ¬ j≤12 by omega)];simp);have d3:decide (12 < j)=true:=decide_eq_true h2;go_wp2_with fail;go_ret;exact ⟨rfl,hkW.trans (hkX.trans k3)⟩
 have d3:decide (12 < j)=false:=decide_eq_false h2
 by_cases h3:s.Q≤j
 ·obtain rfl:T=false:=HT.out.symm.trans (by rw [decide_eq_false (show ¬ j < s.Q by omega)];simp);have d4:decide (s.Q≤j)=true:=decide_eq_true h3;go_wp2_with fail;go_ret;exact ⟨rfl,hkW.trans (hkX.trans k3)⟩
 have d4:decide (s.Q≤j)=false:=decide_eq_false h3;go_wp2_with (go_at_call 85;refine (EXP.out _ (hkX.trans k3)).mono ?_);rintro e w4 ⟨rfl,hk4⟩;have k4:=k3.trans hk4;clear hk4 f0 f1 f2 f3 f4 p0 p1 p2;obtain ⟨b6,hb6⟩:∃ b,(b4&&b5)=b:=⟨_,rfl⟩;rw [hb6];have H6:=Lib.hid hb6;clear hb6
 cases b6
 ·obtain rfl:T=false:=HT.out.symm.trans (by rw [←Bool.and_assoc b4 b5,H6.out];simp);go_wp2_with fail;go_ret;exact ⟨rfl,hkW.trans (hkX.trans k4)⟩
 obtain ⟨c0,hc0,hc1,hc2⟩:=memB_nat HB1.out;subst hc0
 have hF:Hid (decide (cmtQ q s.G s.blind sh mk=prodQ q ((c0:Int)::esc) (1::pws q j esc.length))=T):=by
  have:=HT.out;rw [←Bool.and_assoc b4 b5,H6.out,decide_eq_true hlen,decide_eq_true (show 1≤j by omega),decide_eq_true (show j≤12 by omega),decide_eq_true (show j < s.Q by omega),←chk_prod q c0 j esc (by omega) hc2] at this;simp only [Bool.true_and,Bool.and_true] at this;exact this
 obtain ⟨Y,hY⟩:∃ Y,cmtQ q s.G s.blind sh mk=Y:=⟨_,rfl⟩;rw [hY] at CM hF;clear hY HT d2 d3 d4;have bB:=Blk.new w4 3 #[.int .i64 c0];have bE:=Blk.new (w4.alloc (.cells #[.int .i64 c0] 3)) 3 #[.int .i64 1];rw [World.size_alloc] at bE;obtain ⟨W5,hW5⟩:∃ X,(w4.alloc (.cells #[.int .i64 c0] 3)).alloc (.cells #[.int .i64 1] 3)=X:=⟨_,rfl⟩;have k5:Kept [] w4 W5:=hW5▸((Kept.refl _ _).alloc _).alloc _;have k5X:Kept [] X W5:=k4.trans k5;have hs4:=k4.size;obtain ⟨B0,hB0⟩:∃ B,X.heap.size=B:=⟨_,rfl⟩;have bB5:Blk W5 w4.heap.size 3 #[.int .i64 c0]:=hW5▸bB.alloc _;have bE5:Blk W5 (w4.heap.size+1) 3 #[.int .i64 1]:=hW5▸bE;have OA0:Hid (W5.ownsRow B0 3 1 (.slice (some ⟨w4.heap.size,0,none⟩) (0+1) 1) (0+1) (ints ((c0:Int)::esc.take 0))):=own_of_blk_le (cs:=[.int .i64 c0]) bB5 (show 1≤maxLen by decide) (by omega);have OB0:Hid (W5.ownsRow B0 3 1 (.slice (some ⟨w4.heap.size+1,0,none⟩) (0+1) 1) (0+1) (ints (1::pws q j 0))):=own_of_blk_le (cs:=[.int .i64 1]) bE5 (show 1≤maxLen by decide) (by omega);have HB0:=Lib.hid hB0;obtain ⟨i0,hi,hz0,hz1,hz2⟩:=info_parts infoInt;go_upto_region 8 with (fail);clear bB bE bB5 bE5 hW5 hs4 hB0
 go_loopw [11,12,13,14,74] (fun va vb _ _ vi wr=>∃ k gA cA gB cB:Nat,k≤esc.length∧vi=.int .i64 k∧va=.slice (some ⟨gA,0,none⟩) (k+1) cA∧vb=.slice (some ⟨gB,0,none⟩) (k+1) cB∧gA≠gB ∧
  Hid (wr.ownsRow B0 3 1 (.slice (some ⟨gA,0,none⟩) (k+1) cA) (k+1) (ints ((c0:Int)::esc.take k)))∧Hid (wr.ownsRow B0 3 1 (.slice (some ⟨gB,0,none⟩) (k+1) cB) (k+1) (ints (1::pws q j k)))∧Kept [] X wr) (fun _ _ _ _ vi _=>esc.length - (intOf vi).toNat)
 case atStart=>exact ⟨0,_,_,_,_,Nat.zero_le _,rfl,rfl,rfl,by omega,OA0,OB0,k5X⟩
 case round =>
  obtain ⟨k,gA,cA,gB,cB,hk,rfl,rfl,rfl,hne,OA,OB,hkr⟩:=hrel;have hgA0:=OA.out.lt gA rfl;have hgB0:=OB.out.lt gB rfl;have hsz:=hkr.size;have hXB:=HB0.out
  by_cases hlt:k < esc.length
  ·obtain ⟨ba,oa,rfl,hca⟩:=(HE.out.kept (hkX.trans hkr)).at_ (by omega);have xa:=hca k _ (ints_get hlt);have hd:esc.take (k+1)=esc.take k++[esc[k]]:=List.take_succ_eq_append_getElem hlt;have PW:Hid (∀ w',Calls Tryz.prog 96 #[.int .i64 s.Q,.int .i64 j,.int .i64 ((k:Int)+1)] w' fun e w2=>e=.returned (.int .i64 ((powN q j (k+1):Nat):Int))∧Kept [] w' w2):=fun w'=>PWR.out k w' (by omega);have hps:=pws_succ q j k;obtain ⟨x,hx⟩:∃ x,esc[k]=x:=⟨_,rfl⟩;rw [hx] at xa hd;obtain ⟨y,hy⟩:∃ y,powN q j (k+1)=y:=⟨_,rfl⟩;rw [hy] at PW hps;have HD:=Lib.hid hd;have HPS:=Lib.hid hps;clear hca hx hy hd hps;have qj:∀ w',Kept [gA,gB] wr w'→w'.cell? ⟨w.heap.size+1,0,none⟩=some (.int .i64 j):=fun w' kk=>(kk.cell (p:=⟨w.heap.size+1,0,none⟩) (by show w.heap.size+1 < _;omega) (by simp;omega)).trans (PK.out wr (hkX.trans hkr)).1
   have hw1:IntKind.i64.wrap ((k:Int)+1)=(k:Int)+1:=by rw [IntKind.wrap_i64];omega
   go_upto_region 10 with (fail);clear xa
   go_region_held3 (fun w'=>Kept [gA,gB] wr w') (repeat (first|(with_reducible assumption)|(with_reducible exact Kept.refl _ _)|(with_reducible refine Kept.drew ?_)|(with_reducible refine Kept.alloc ?_ _)|(with_reducible refine Kept.trans ?_ (hkP.mono (by simp)))|(with_reducible refine Kept.grownSl ?_ hgA (by simp))|(with_reducible refine Kept.grownSl ?_ hgB (by simp))))
    (first
     | (go_at_call 96;refine (PW.out _).mono ?_;rintro e wP ⟨rfl,hkP⟩)
     | (refine step_append_lies _ rfl _ _ 24 rfl B0 3 i0 (.int .i64 0) 1 8 Tryz.underlying24 hi hz0 hz1 hz2 rfl (by decide) (.slice (some ⟨gA,0,none⟩) (k+1) cA) _ _ rfl (own_ne (S:=[gB]) OA.out (by (repeat (first|(with_reducible assumption)|(with_reducible exact Kept.refl _ _)|(with_reducible refine Kept.drew ?_)|(with_reducible refine Kept.alloc ?_ _)|(with_reducible refine Kept.trans ?_ (hkP.mono (by simp)))|(with_reducible refine Kept.grownSl ?_ hgA (by simp))|(with_reducible refine Kept.grownSl ?_ hgB (by simp))))) (by simp;omega)) _ 1 1 [.int .i64 x] rfl rfl (cell_one_new _ _ _) (by intro u hu;rw [List.mem_singleton] at hu;subst hu;rfl) (by omega) (by unfold maxLen;omega) (by omega) (Nat.le_trans (m:=wr.heap.size) (by omega) (Kept.size (S:=[gA,gB]) (w:=wr) (by (repeat (first|(with_reducible assumption)|(with_reducible exact Kept.refl _ _)|(with_reducible refine Kept.drew ?_)|(with_reducible refine Kept.alloc ?_ _)|(with_reducible refine Kept.trans ?_ (hkP.mono (by simp)))|(with_reducible refine Kept.grownSl ?_ hgA (by simp))|(with_reducible refine Kept.grownSl ?_ hgB (by simp))))))) _ rfl ?_;intro gA' cA' wA hownA hgA hlA hltA)
     | (refine step_append_lies _ rfl _ _ 24 rfl B0 3 i0 (.int .i64 0) 1 8 Tryz.underlying24 hi hz0 hz1 hz2 rfl (by decide) (.slice (some ⟨gB,0,none⟩) (k+1) cB) _ _ rfl (own_ne (S:=[gA]) OB.out (by (repeat (first|(with_reducible assumption)|(with_reducible exact Kept.refl _ _)|(with_reducible refine Kept.drew ?_)|(with_reducible refine Kept.alloc ?_ _)|(with_reducible refine Kept.trans ?_ (hkP.mono (by simp)))|(with_reducible refine Kept.grownSl ?_ hgA (by simp))|(with_reducible refine Kept.grownSl ?_ hgB (by simp))))) (by simp;omega)) _ 1 1 [.int .i64 y] rfl rfl (cell_one_new _ _ _) (by intro u hu;rw [List.mem_singleton] at hu;subst hu;rfl) (by omega) (by unfold maxLen;omega) (by omega) (Nat.le_trans (m:=wr.heap.size) (by omega) (Kept.size (S:=[gA,gB]) (w:=wr) (by (repeat (first|(with_reducible assumption)|(with_reducible exact Kept.refl _ _)|(with_reducible refine Kept.drew ?_)|(with_reducible refine Kept.alloc ?_ _)|(with_reducible refine Kept.trans ?_ (hkP.mono (by simp)))|(with_reducible refine Kept.grownSl ?_ hgA (by simp))|(with_reducible refine Kept.grownSl ?_ hgB (by simp))))))) _ rfl ?_;intro gB' cB' wB hownB hgB hlB hltB)
     | fail)
   rename_i hHeld;have hsA:wr.heap.size≤wA.heap.size:=Kept.size (S:=[gA,gB]) (w:=wr) (by (repeat (first|(with_reducible assumption)|(with_reducible exact Kept.refl _ _)|(with_reducible refine Kept.drew ?_)|(with_reducible refine Kept.alloc ?_ _)|(with_reducible refine Kept.trans ?_ (hkP.mono (by simp)))|(with_reducible refine Kept.grownSl ?_ hgA (by simp))|(with_reducible refine Kept.grownSl ?_ hgB (by simp)))))
   have hAB:Kept [gB] wA wB:=by (repeat (first|(with_reducible assumption)|(with_reducible exact Kept.refl _ _)|(with_reducible refine Kept.drew ?_)|(with_reducible refine Kept.alloc ?_ _)|(with_reducible refine Kept.trans ?_ (hkP.mono (by simp)))|(with_reducible refine Kept.grownSl ?_ hgA (by simp))|(with_reducible refine Kept.grownSl ?_ hgB (by simp))))
   have hgA2:gA'∉[gB]:=by
    rcases hlA with h|h
    ·injection h with h;subst h;simp;omega
    ·simp only [World.size_alloc,World.drew] at h;simp;omega
   have hltA':=(hownA.lt gA' rfl).2;have hownA2:=own_ne hownA hAB hgA2
   have hne':gA'≠gB':=by
    rcases hlB with h|h
    ·injection h with h;subst h;simpa using hgA2
    ·have hk2:∀ Wx:World,gB'=Wx.heap.size→Kept [gB] wA Wx→gA'≠gB':=fun Wx h k=>by
      have:=k.size;omega
     exact hk2 _ h (by (repeat (first|(with_reducible assumption)|(with_reducible exact Kept.refl _ _)|(with_reducible refine Kept.drew ?_)|(with_reducible refine Kept.alloc ?_ _)|(with_reducible refine Kept.trans ?_ (hkP.mono (by simp)))|(with_reducible refine Kept.grownSl ?_ hgA (by simp))|(with_reducible refine Kept.grownSl ?_ hgB (by simp)))))
   have OA2:Hid (wB.ownsRow B0 3 1 (.slice (some ⟨gA',0,none⟩) (k+1+1) cA') (k+1+1) (ints ((c0:Int)::esc.take (k+1)))):=by
    rw [HD.out]
    show World.ownsRow _ _ _ _ _ _ _
    simpa [ints] using hownA2
   have OB2:Hid (wB.ownsRow B0 3 1 (.slice (some ⟨gB',0,none⟩) (k+1+1) cB') (k+1+1) (ints (1::pws q j (k+1)))):=by
    rw [HPS.out]
    show World.ownsRow _ _ _ _ _ _ _
    simpa [ints] using hownB
   have hkX2:Kept [] X wB:=hkr.fresh hHeld (by simp;omega);clear hw1 qj hownA hownB hgA hgB hlA hlB hAB hgA2 hHeld hownA2;go_wp2_with fail
   go_roundw
   case rel=>exact ⟨k+1,gA',cA',gB',cB',by omega,by go_num,rfl,rfl,hne',OA2,OB2,hkX2⟩
   case measure=>simp [intOf];omega
  ·obtain rfl:k=esc.length:=by omega
   obtain ⟨e0,e1,e2,e3,e4⟩:=K.out wr (hkX.trans hkr)
   have rA:Row wr 1 (.slice (some ⟨gA,0,none⟩) (esc.length+1) cA) ((c0:Int)::esc).length (ints ((c0:Int)::esc)):=by
    have:=OA.out;rw [List.take_length] at this;exact Row.of_own this (by rw [List.length_cons];omega)
   have rB:Row wr 1 (.slice (some ⟨gB,0,none⟩) (esc.length+1) cB) ((1:Int)::pws q j esc.length).length (ints (1::pws q j esc.length)):=by
    rw [List.length_cons,pws_len];exact Row.of_own OB.out (by omega)
   have PR:Hid (Calls Tryz.prog 97 #[.agg #[.int .i64 s.P,.int .i64 s.Q,.int .i64 s.G],.slice (some ⟨gA,0,none⟩) (esc.length+1) cA,.slice (some ⟨gB,0,none⟩) (esc.length+1) cB] wr fun e w'=>e=.returned (.tuple #[.int .i64 ((prodQ q ((c0:Int)::esc) (1::pws q j esc.length):Nat):Int),.bool true])∧Kept [] wr w') :=
    product_grp s.P s.Q s.G q _ _ _ _ wr HOK.out rA rB (by simp [pws_len]) (by
     intro x hx
     rcases List.mem_cons.1 hx with rfl|h
     ·exact hc
     ·exact HI.out x h) (by
     intro x hx
     rcases List.mem_cons.1 hx with rfl|h
     ·exact ⟨by omega,by omega⟩
     ·obtain ⟨k,_,rfl⟩:=List.mem_map.1 h;have:powN q j (k+1) < q:=Nat.mod_lt _ (by omega)
      exact ⟨by omega,by omega⟩)
   obtain ⟨Z,hZ⟩:∃ Z,prodQ q ((c0:Int)::esc) (1::pws q j esc.length)=Z:=⟨_,rfl⟩;rw [hZ] at PR hF;clear rA rB hZ OA OB;go_wp2_with (go_at_call 97;refine PR.out.mono ?_);rintro e w6 ⟨rfl,hk6⟩;clear e0 e1 e2 e3 e4;obtain ⟨e0,e1,e2,e3,e4⟩:=K.out w6 (hkX.trans (hkr.trans hk6));obtain ⟨p0,p1,p2⟩:=PK.out w6 (hkX.trans (hkr.trans hk6));have hbc:=beq_cast Y Z;go_wp2_with (go_at_call 86;refine (CM.out _ (hkX.trans (hkr.trans hk6))).mono ?_);rintro e w7 ⟨rfl,hk7⟩;go_wp2_with fail;go_ret;exact ⟨by rw [←hF.out];rfl,hkW.trans (hkX.trans (hkr.trans (hk6.trans hk7)))⟩
end Go.Proofs.YtpcdfepndmconaaGreatDoor
namespace Go.Proofs.YtpcdfepndmconaaGreatDoor
open Go.RowKit
theorem inv_from {q:Nat} {a:Int} (h2:2≤q):∀ (n r s x y:Nat),s≤n→InvS q a r s x y→∃ u:Nat,u < q∧Itp.Cg q (u*a) 1
 | 0,r,s,x,y,hs,h=>by
  obtain rfl:s=0:=by omega
  exact ⟨x,h.hx,h.done.2⟩
 | n+1,r,s,x,y,hs,h=>by
  by_cases h0:s=0
  ·subst h0;exact ⟨x,h.hx,h.done.2⟩
  ·have:r % s < s:=Nat.mod_lt _ (by omega);exact inv_from h2 n _ _ _ _ (by omega) (h.next h2 h0)
theorem inv_ex (q:Nat) (a:Int) (h2:2≤q) (hg:Nat.gcd q (res q a)=1):∃ u:Nat,u < q∧Itp.Cg q (u*a) 1 :=
 inv_from h2 _ _ _ _ _ (Nat.le_refl _) (InvS.start q a h2 hg)
theorem inv_one_ (q:Nat) (a:Int) {u v:Nat} (hu:u < q) (hv:v < q) (cu:Itp.Cg q (u*a) 1) (cv:Itp.Cg q (v*a) 1):u=v:=by
 obtain ⟨s,hs⟩:=cu;obtain ⟨t,ht⟩:=cv;have:Itp.Cg q (u:Int) (v:Int):=⟨v*s - u*t,by grind⟩;have:=this.eq_of_lt (by omega) (by omega) (by omega) (by omega);omega
theorem finv_u (q:Nat) (a:Int) (u:Nat) (w:World) (h2:2≤q) (h3:q < 2305843009213693952) (ha:Wire.I64 a) (hg:Nat.gcd q (res q a)=1) (hu:u < q) (hc:Itp.Cg q (u*a) 1) :
  Calls Tryz.prog 169 #[.int .i64 q,.int .i64 a] w fun e w'=>e=.returned (.tuple #[.int .i64 (u:Int),.bool true])∧Kept [] w w' :=
 (finv_any q a w h2 h3 ha hg).mono fun e w' ⟨⟨v,he,hv,cv⟩,k⟩=>⟨by rw [inv_one_ q a hu hv hc cv];exact he,k⟩
theorem rinv_u (q:Nat) (a:Int) (u:Nat) (w:World) (h2:2≤q) (h3:q < 2305843009213693952) (ha:Wire.I64 a) (hg:Nat.gcd q (res q a)=1) (hu:u < q) (hc:Itp.Cg q (u*a) 1) :
  Calls Tryz.prog 204 #[.int .i64 q,.int .i64 a] w fun e w'=>e=.returned (.tuple #[.int .i64 (u:Int),.bool true])∧Kept [] w w' :=
 (rinv_any q a w h2 h3 ha hg).mono fun e w' ⟨⟨v,he,hv,cv⟩,k⟩=>⟨by rw [inv_one_ q a hu hv hc cv];exact he,k⟩
/-- no small factor, or a small prime -/
theorem prime_split {q:Nat} (h:Prm.primeN q=true):(∀ j,j < 12→q % Prm.at_ j≠0)∨∃ j,j < 12∧q=Prm.at_ j:=by
 by_cases hb:∀ j,j < 12→Prm.hits q j=false
 ·refine Or.inl fun j hj=>?_;have:=hb j hj
  unfold Prm.hits at this
  simpa using this
 ·refine Or.inr ?_
  have hex:∃ j,j < 12∧Prm.hits q j=true:=by
   refine Classical.byContradiction fun hn=>hb fun j hj=>?_
   cases hh:Prm.hits q j
   ·rfl
   ·exact absurd ⟨j,hj,hh⟩ hn
  have hfind:∃ k,(List.range 12).find? (Prm.hits q)=some k:=by
   obtain ⟨j,hj,hh⟩:=hex;have:((List.range 12).find? (Prm.hits q)).isSome:=List.find?_isSome.2 ⟨j,List.mem_range.2 hj,hh⟩;exact Option.isSome_iff_exists.1 this
  obtain ⟨k,hk⟩:=hfind;have hk12:k < 12:=List.mem_range.1 (List.mem_of_find?_eq_some hk)
  unfold Prm.primeN at h
  rw [hk] at h;exact ⟨k,hk12,by simpa using h⟩
theorem cop {q:Nat} (h:Prm.primeN q=true) (d:Nat) (h1:1≤d) (h2:d≤12) (h3:d < q):Nat.gcd q d=1:=by
 have hg:Nat.gcd q d ∣ d:=Nat.gcd_dvd_right q d;have hq:Nat.gcd q d ∣ q:=Nat.gcd_dvd_left q d;have hle:Nat.gcd q d≤d:=Nat.le_of_dvd (by omega) hg;have hpos:0 < Nat.gcd q d:=Nat.gcd_pos_of_pos_right q (by omega)
 generalize Nat.gcd q d=g at *
 have hqg:q % g=0:=Nat.mod_eq_zero_of_dvd hq
 rcases prime_split h with hs|⟨j,hj,rfl⟩
 ·have s0:q % 2≠0:=hs 0 (by omega);have s1:q % 3≠0:=hs 1 (by omega);have s2:q % 5≠0:=hs 2 (by omega);have s3:q % 7≠0:=hs 3 (by omega);have s4:q % 11≠0:=hs 4 (by omega)
  rcases (by omega:g=1∨g=2∨g=3∨g=4∨g=5∨g=6∨g=7∨g=8∨g=9∨g=10∨g=11∨g=12) with rfl|rfl|rfl|rfl|rfl|rfl|rfl|rfl|rfl|rfl|rfl|rfl <;> omega
 ·have key:∀ j < 12,∀ g < 13,1≤g→g < Prm.at_ j→Prm.at_ j % g=0→g=1:=by decide
  exact key j hj g (by omega) hpos (by omega) hqg
/-- the difference of two small numbers -/
theorem cop_sub {q:Nat} (h:Prm.primeN q=true) (x y:Nat) (hx:x≤12) (hy:y≤12) (hxq:x < q) (hyq:y < q) (hne:x≠y) :
  Nat.gcd q (res q ((subN q (x:Int) (y:Int):Nat):Int))=1:=by
 have rx:res q (x:Int)=x:=by have:=res_eq q (x:Int) (by omega);rw [Int.emod_eq_of_lt (by omega) (by omega)] at this;omega
 have ry:res q (y:Int)=y:=by have:=res_eq q (y:Int) (by omega);rw [Int.emod_eq_of_lt (by omega) (by omega)] at this;omega
 have hl:=ltSub q (x:Int) (y:Int) (by omega)
 have rs:res q ((subN q (x:Int) (y:Int):Nat):Int)=subN q (x:Int) (y:Int):=by have:=res_eq q ((subN q (x:Int) (y:Int):Nat):Int) (by omega);rw [Int.emod_eq_of_lt (by omega) (by omega)] at this;omega
 rw [rs]
 unfold subN
 rw [rx,ry]
 by_cases hlt:y < x
 ·rw [show x+q - y=(x - y)+q by omega,Nat.add_mod_right,Nat.mod_eq_of_lt (by omega)];exact cop h (x - y) (by omega) (by omega) (by omega)
 ·rw [Nat.mod_eq_of_lt (by omega),show x+q - y=q - (y - x) by omega];have:=cop h (y - x) (by omega) (by omega) (by omega);rw [Nat.gcd_comm,Nat.gcd_self_sub_left (by omega),Nat.gcd_comm];exact this
end Go.Proofs.YtpcdfepndmconaaGreatDoor
