/- The reference's lists of exponents and of elements. -/
import Derived.Test.YtpcdfepndmconaaGreatDoorPrq
import Derived.Test.YtpcdfepndmconaaGreatDoorSg1
/- JOINED: Exq Exr -/
/- Lists of exponents and of elements: the program's closures, the reference's loops. -/
namespace Go.Proofs.YtpcdfepndmconaaGreatDoor
open Go.RowKit
def expsB (s:Stp) (l:List Int) (n:Int):Bool:=decide ((l.length:Int)=n)&&l.all (expoB s)
def eltsB (q:Nat) (l:List Int) (n:Int):Bool:=decide ((l.length:Int)=n)&&l.all (memB q)
theorem any_of_not {p:Int→Bool} {l:List Int} {k:Nat} (h:k < l.length) (hp:p l[k]=false):l.all p=false:=by
 rw [List.all_eq_false];exact ⟨l[k],List.getElem_mem h,by simp [hp]⟩
set_option maxRecDepth 100000 in
set_option maxHeartbeats 400000 in
theorem clo_expo (s:Stp) (x:Int) (b:Nat) (v:Value) (w:World) (hb:Blk w b 117 (stpA s v)) :
  Calls Tryz.prog 162 #[.int .i64 x,.pointer (some ⟨b,0,none⟩)] w fun e w'=>e=.returned (.bool (!expoB s x))∧Kept [] w w':=by
 have e1:w.cell? ⟨b,1,none⟩=some (.int .i64 s.Q):=hb.cell 1
 unfold expoB
 obtain ⟨Q,hQ⟩:∃ Q,s.Q=Q:=⟨_,rfl⟩;rw [hQ] at e1 ⊢;clear hb hQ
 by_cases h0:x < 0
 ·have d0:decide (x < 0)=true:=decide_eq_true h0;rw [decide_eq_false (show ¬ 0≤x by omega)]
  go_enter Tryz.func162,Tryz.ntmps162
  go_wp2_with fail;go_ret;exact ⟨rfl,Kept.refl _ _⟩
 ·have d0:decide (x < 0)=false:=decide_eq_false h0;rw [decide_eq_true (show 0≤x by omega),Bool.true_and]
  have d1:(!decide (x < Q))=decide (Q≤x):=by
   by_cases h:x < Q
   ·rw [decide_eq_true h,decide_eq_false (by omega)];rfl
   ·rw [decide_eq_false h,decide_eq_true (by omega)];rfl
  rw [d1];clear d1
  go_enter Tryz.func162,Tryz.ntmps162
  go_wp2_with fail;go_ret;exact ⟨rfl,Kept.refl _ _⟩
set_option maxRecDepth 100000 in
set_option maxHeartbeats 400000 in
theorem clo_elt (s:Stp) (q:Nat) (x:Int) (b:Nat) (v:Value) (w:World) (hb:Blk w b 117 (stpA s v)) (hok:GrpOk s.P s.Q s.G q) (hg:groupN q s.G=true) (hx:Wire.I64 x) (hE:Env2 w) :
  Calls Tryz.prog 167 #[.int .i64 x,.pointer (some ⟨b,0,none⟩)] w fun e w'=>e=.returned (.bool (!memB q x))∧Kept [] w w':=by
 have e0:w.cell? ⟨b,0,none⟩=some (.int .i64 s.P):=hb.cell 0;have e1:w.cell? ⟨b,1,none⟩=some (.int .i64 s.Q):=hb.cell 1;have e2:w.cell? ⟨b,2,none⟩=some (.int .i64 s.G):=hb.cell 2;have HE:=Lib.hid (element_any s.P s.Q s.G x q w hok hg hx hE);obtain ⟨t,ht⟩:∃ t,memB q x=t:=⟨_,rfl⟩;rw [ht] at HE ⊢;clear hb hok ht
 go_enter Tryz.func167,Tryz.ntmps167
 go_wp2_with (go_at_call 95;refine HE.out.mono ?_;rintro e w1 ⟨rfl,hk⟩);go_ret;exact ⟨rfl,hk⟩
set_option maxRecDepth 100000 in
set_option maxHeartbeats 800000 in
theorem index_expo (s:Stp) (v v0:Value) (l:List Int) (b:Nat) (w:World) (hv:Row w 1 v l.length (ints l)) (hb:Blk w b 117 (stpA s v0)) :
  Calls Tryz.prog 200 #[v,.func (.func 162) #[] #[.pointer (some ⟨b,0,none⟩)]] w fun e w'=>(∃ r:Int,e=.returned (.int .i64 r)∧decide (0≤r)=!l.all (expoB s))∧Kept [] w w':=by
 obtain ⟨aa,ca,rfl,hla,_⟩:=hv.form;have HV:=Lib.hid hv;have HB:=Lib.hid hb;clear hv hb
 go_enter Tryz.func200,Tryz.ntmps200
 go_wp2_with fail
 go_loopw [5,8] (fun _ i wr=>∃ k:Nat,k≤l.length∧i=.int .i64 k∧(∀ j (hj:j < l.length),j < k→(expoB s) l[j]=true)∧Kept [] w wr) (fun _ i _=>l.length - (intOf i).toNat)
 case atStart=>exact ⟨0,Nat.zero_le _,rfl,fun j _ hj=>by omega,Kept.refl _ _⟩
 case round =>
  obtain ⟨k,hk,rfl,hm,hkr⟩:=hrel;have HM:=Lib.hid hm;clear hm
  by_cases hlt:k < l.length
  ·obtain ⟨ba,oa,rfl,hca⟩:=(HV.out.kept hkr).at_ (by omega);have xa:=hca k _ (ints_get hlt);have HC:=Lib.hid (clo_expo s l[k] b v0 wr (HB.out.kept hkr (by simp)));obtain ⟨t,ht⟩:∃ t,(expoB s) l[k]=t:=⟨_,rfl⟩;rw [ht] at HC;have HT:=Lib.hid ht;clear hca ht
   cases t
   ·go_wp2_with (go_at_call 162;refine HC.out.mono ?_;rintro e w2 ⟨rfl,hk2⟩);go_ret;refine ⟨⟨_,rfl,?_⟩,hkr.trans hk2⟩;rw [any_of_not hlt HT.out]
    simp
   ·go_wp2_with (go_at_call 162;refine HC.out.mono ?_;rintro e w2 ⟨rfl,hk2⟩)
    go_roundw
    case rel=>exact ⟨k+1,by omega,by go_num,fun j hj hjk=>by
     rcases Nat.lt_or_ge j k with h|h
     ·exact HM.out j hj h
     ·obtain rfl:j=k:=by omega
      exact HT.out,hkr.trans hk2⟩
    case measure=>simp [intOf];omega
  ·obtain rfl:k=l.length:=by omega
   go_wp2_with fail;go_ret;refine ⟨⟨-1,rfl,?_⟩,hkr⟩;rw [all_of (fun j hj=>HM.out j hj hj)]
   rfl
set_option maxHeartbeats 400000 in
theorem contains_expo (s:Stp) (v v0:Value) (l:List Int) (b:Nat) (w:World) (hv:Row w 1 v l.length (ints l)) (hb:Blk w b 117 (stpA s v0)) :
  Calls Tryz.prog 161 #[v,.func (.func 162) #[] #[.pointer (some ⟨b,0,none⟩)]] w fun e w'=>e=.returned (.bool (!l.all (expoB s)))∧Kept [] w w':=by
 have HC:=Lib.hid (index_expo s v v0 l b w hv hb);obtain ⟨aa,ca,rfl,hla,_⟩:=hv.form;clear hv hb
 go_enter Tryz.func161,Tryz.ntmps161
 go_wp2_with (go_at_call 200;refine HC.out.mono ?_);rintro e w1 ⟨⟨r,rfl,hr⟩,hk⟩;have HR:=Lib.hid hr;clear hr;go_wp2_with fail;go_ret;exact ⟨by rw [←HR.out];rfl,hk⟩
set_option maxRecDepth 100000 in
set_option maxHeartbeats 800000 in
theorem index_elt (s:Stp) (q:Nat) (v v0:Value) (l:List Int) (b:Nat) (w:World) (hv:Row w 1 v l.length (ints l)) (hb:Blk w b 117 (stpA s v0)) (hok:GrpOk s.P s.Q s.G q) (hg:groupN q s.G=true) (hi:∀ x∈l,Wire.I64 x) (hE:Env2 w) :
  Calls Tryz.prog 200 #[v,.func (.func 167) #[] #[.pointer (some ⟨b,0,none⟩)]] w fun e w'=>(∃ r:Int,e=.returned (.int .i64 r)∧decide (0≤r)=!l.all (memB q))∧Kept [] w w':=by
 obtain ⟨aa,ca,rfl,hla,_⟩:=hv.form;have HV:=Lib.hid hv;have HB:=Lib.hid hb;have HI:=Lib.hid hi;have HG:=Lib.hid (And.intro hok hg);clear hi hok hg;clear hv hb
 go_enter Tryz.func200,Tryz.ntmps200
 go_wp2_with fail
 go_loopw [5,8] (fun _ i wr=>∃ k:Nat,k≤l.length∧i=.int .i64 k∧(∀ j (hj:j < l.length),j < k→(memB q) l[j]=true)∧Kept [] w wr) (fun _ i _=>l.length - (intOf i).toNat)
 case atStart=>exact ⟨0,Nat.zero_le _,rfl,fun j _ hj=>by omega,Kept.refl _ _⟩
 case round =>
  obtain ⟨k,hk,rfl,hm,hkr⟩:=hrel;have HM:=Lib.hid hm;clear hm
  by_cases hlt:k < l.length
  ·obtain ⟨ba,oa,rfl,hca⟩:=(HV.out.kept hkr).at_ (by omega);have xa:=hca k _ (ints_get hlt);have HC:=Lib.hid (clo_elt s q l[k] b v0 wr (HB.out.kept hkr (by simp)) HG.out.1 HG.out.2 (HI.out _ (List.getElem_mem hlt)) (hE.kept0 hkr));obtain ⟨t,ht⟩:∃ t,(memB q) l[k]=t:=⟨_,rfl⟩;rw [ht] at HC;have HT:=Lib.hid ht;clear hca ht
   cases t
   ·go_wp2_with (go_at_call 167;refine HC.out.mono ?_;rintro e w2 ⟨rfl,hk2⟩);go_ret;refine ⟨⟨_,rfl,?_⟩,hkr.trans hk2⟩;rw [any_of_not hlt HT.out]
    simp
   ·go_wp2_with (go_at_call 167;refine HC.out.mono ?_;rintro e w2 ⟨rfl,hk2⟩)
    go_roundw
    case rel=>exact ⟨k+1,by omega,by go_num,fun j hj hjk=>by
     rcases Nat.lt_or_ge j k with h|h
     ·exact HM.out j hj h
     ·obtain rfl:j=k:=by omega
      exact HT.out,hkr.trans hk2⟩
    case measure=>simp [intOf];omega
  ·obtain rfl:k=l.length:=by omega
   go_wp2_with fail;go_ret;refine ⟨⟨-1,rfl,?_⟩,hkr⟩;rw [all_of (fun j hj=>HM.out j hj hj)]
   rfl
set_option maxHeartbeats 400000 in
theorem contains_elt (s:Stp) (q:Nat) (v v0:Value) (l:List Int) (b:Nat) (w:World) (hv:Row w 1 v l.length (ints l)) (hb:Blk w b 117 (stpA s v0)) (hok:GrpOk s.P s.Q s.G q) (hg:groupN q s.G=true) (hi:∀ x∈l,Wire.I64 x) (hE:Env2 w) :
  Calls Tryz.prog 161 #[v,.func (.func 167) #[] #[.pointer (some ⟨b,0,none⟩)]] w fun e w'=>e=.returned (.bool (!l.all (memB q)))∧Kept [] w w':=by
 have HC:=Lib.hid (index_elt s q v v0 l b w hv hb hok hg hi hE);obtain ⟨aa,ca,rfl,hla,_⟩:=hv.form;clear hv hb
 go_enter Tryz.func161,Tryz.ntmps161
 go_wp2_with (go_at_call 200;refine HC.out.mono ?_);rintro e w1 ⟨⟨r,rfl,hr⟩,hk⟩;have HR:=Lib.hid hr;clear hr;go_wp2_with fail;go_ret;exact ⟨by rw [←HR.out];rfl,hk⟩
set_option maxRecDepth 100000 in
set_option maxHeartbeats 800000 in
theorem exponents_any (s:Stp) (sv v:Value) (l:List Int) (n:Int) (w:World) (hs:StpV w sv s) (hv:Row w 1 v l.length (ints l)) :
  Calls Tryz.prog 85 #[sv,v,.int .i64 n] w fun e w'=>e=.returned (.bool (expsB s l n))∧Kept [] w w':=by
 obtain ⟨⟨sa,sc,rfl,hrow⟩,ip,iq,ig,ib,il⟩:=hs;obtain ⟨W,hW⟩:∃ W,w.alloc (.cells (stpA s (.slice sa s.bases.length sc)) 117)=W:=⟨_,rfl⟩;have hb:Blk W w.heap.size 117 (stpA s (.slice sa s.bases.length sc)):=hW▸Blk.new _ _ _;have hkW:Kept [] w W:=hW▸(Kept.refl _ _).alloc _;have HC:=Lib.hid (contains_expo s v (.slice sa s.bases.length sc) l w.heap.size W (hv.kept hkW) hb);obtain ⟨aa,ca,rfl,hla,_⟩:=hv.form;have HW:Hid (w.alloc (.cells #[.int .i64 s.P,.int .i64 s.Q,.int .i64 s.G,.slice sa s.bases.length sc,.int .i64 s.blind] 117)=W):=hW;have hmf:∀ (fn:Fn) (first cap:Array Value) (w:World),(Instr.makeFunc fn first cap).run Tryz.prog w=.ok (.func fn first cap) w:=fun _ _ _ _=>rfl
 unfold expsB
 clear hv hb hW hrow ib
 by_cases hn:(l.length:Int)=n
 ·have hn':((l.length:Int)==n)=true:=by simpa using hn
  rw [decide_eq_true hn,Bool.true_and];obtain ⟨t,ht⟩:∃ t,l.all (expoB s)=t:=⟨_,rfl⟩;rw [ht] at HC ⊢;clear ht hn
  go_enter Tryz.func85,Tryz.ntmps85
  go_wp2_with fail;rw [HW.out];go_wp2_with (go_at_call 161;refine HC.out.mono ?_);rintro e w1 ⟨rfl,hk⟩;go_wp2_with fail;go_ret;exact ⟨by simp,hkW.trans hk⟩
 ·have hn':((l.length:Int)==n)=false:=by simpa using hn
  rw [decide_eq_false hn,Bool.false_and]
  go_enter Tryz.func85,Tryz.ntmps85
  go_wp2_with fail;rw [HW.out];go_wp2_with fail;go_ret;exact ⟨rfl,hkW⟩
set_option maxRecDepth 100000 in
set_option maxHeartbeats 800000 in
theorem elements_any (s:Stp) (q:Nat) (sv v:Value) (l:List Int) (n:Int) (w:World) (hs:StpV w sv s) (hv:Row w 1 v l.length (ints l)) (hok:GrpOk s.P s.Q s.G q) (hg:groupN q s.G=true) (hi:∀ x∈l,Wire.I64 x) (hE:Env2 w) :
  Calls Tryz.prog 94 #[sv,v,.int .i64 n] w fun e w'=>e=.returned (.bool (eltsB q l n))∧Kept [] w w':=by
 obtain ⟨⟨sa,sc,rfl,hrow⟩,ip,iq,ig,ib,il⟩:=hs;obtain ⟨W,hW⟩:∃ W,w.alloc (.cells (stpA s (.slice sa s.bases.length sc)) 117)=W:=⟨_,rfl⟩;have hb:Blk W w.heap.size 117 (stpA s (.slice sa s.bases.length sc)):=hW▸Blk.new _ _ _;have hkW:Kept [] w W:=hW▸(Kept.refl _ _).alloc _;have HC:=Lib.hid (contains_elt s q v (.slice sa s.bases.length sc) l w.heap.size W (hv.kept hkW) hb hok hg hi (hE.kept0 hkW));obtain ⟨aa,ca,rfl,hla,_⟩:=hv.form;have HW:Hid (w.alloc (.cells #[.int .i64 s.P,.int .i64 s.Q,.int .i64 s.G,.slice sa s.bases.length sc,.int .i64 s.blind] 117)=W):=hW;have hmf:∀ (fn:Fn) (first cap:Array Value) (w:World),(Instr.makeFunc fn first cap).run Tryz.prog w=.ok (.func fn first cap) w:=fun _ _ _ _=>rfl
 unfold eltsB
 clear hv hb hW hrow ib
 by_cases hn:(l.length:Int)=n
 ·have hn':((l.length:Int)==n)=true:=by simpa using hn
  rw [decide_eq_true hn,Bool.true_and];obtain ⟨t,ht⟩:∃ t,l.all (memB q)=t:=⟨_,rfl⟩;rw [ht] at HC ⊢;clear ht hn
  go_enter Tryz.func94,Tryz.ntmps94
  go_wp2_with fail;rw [HW.out];go_wp2_with (go_at_call 161;refine HC.out.mono ?_);rintro e w1 ⟨rfl,hk⟩;go_wp2_with fail;go_ret;exact ⟨by simp,hkW.trans hk⟩
 ·have hn':((l.length:Int)==n)=false:=by simpa using hn
  rw [decide_eq_false hn,Bool.false_and]
  go_enter Tryz.func94,Tryz.ntmps94
  go_wp2_with fail;rw [HW.out];go_wp2_with fail;go_ret;exact ⟨rfl,hkW⟩
end Go.Proofs.YtpcdfepndmconaaGreatDoor
namespace Go.Proofs.YtpcdfepndmconaaGreatDoor
open Go.RowKit
set_option maxRecDepth 100000 in
set_option maxHeartbeats 2000000 in
/-- in a valid group -/
theorem relement_any (P Q G x:Int) (q:Nat) (w:World) (hok:GrpOk P Q G q) (hg:groupN q G=true) (hx:Wire.I64 x) :
  Calls Tryz.prog 98 #[.agg (grpV P Q G),.int .i64 x] w fun e w'=>e=.returned (.bool (memB q x))∧Kept [] w w':=by
 have hqq:=hok.hq;have hq5:=hok.h5;have hPp:=hok.hP
 have hP:Wire.I64 P:=by rw [hok.hP];exact ⟨by omega,by omega⟩
 have hQ:Wire.I64 Q:=by rw [hok.hQ];exact ⟨by omega,by omega⟩
 have hG:Wire.I64 G:=by have:=hok.hG;have:=hok.hGP;exact ⟨by omega,by omega⟩
 obtain ⟨W,hW⟩:∃ W,w.alloc (.cells (grpV P Q G) 23)=W:=⟨_,rfl⟩;have hb:Blk W w.heap.size 23 (grpV P Q G):=hW▸Blk.new _ _ _;have hkW:Kept [] w W:=hW▸(Kept.refl _ _).alloc _;have K0:Hid (∀ w',Kept [] W w'→w'.cell? ⟨w.heap.size,0,none⟩=some (.int .i64 P)):=Kept.cellOf (hb.cell 0);have K1:Hid (∀ w',Kept [] W w'→w'.cell? ⟨w.heap.size,1,none⟩=some (.int .i64 Q)):=Kept.cellOf (hb.cell 1);have K2:Hid (∀ w',Kept [] W w'→w'.cell? ⟨w.heap.size,2,none⟩=some (.int .i64 G)):=Kept.cellOf (hb.cell 2);have e0:=K0.out W (Kept.refl _ _);have e1:=K1.out W (Kept.refl _ _);have e2:=K2.out W (Kept.refl _ _);have HW:=Lib.hid hW;have vg:=rvalidGroup_any P Q G W hP hQ hG;rw [hok.eq,hg] at vg;have VG:=Lib.hid vg;have HM:Hid (∀ w',Calls Tryz.prog 170 #[.agg (grpV P Q G),.int .i64 x] w' fun e w''=>e=.returned (.bool (memB q x))∧Kept [] w' w''):=fun w'=>rmember_any P Q G x q w' hok hx;clear hW hb vg
 by_cases c1:1≤x
 case neg =>
  have r:memB q x=false:=by unfold memB;rw [decide_eq_false c1];rfl
  rw [r];have d1:decide (1≤x)=false:=decide_eq_false c1;clear hPp
  go_enter Tryz.func98,Tryz.ntmps98
  go_wp2_with fail;rw [HW.out];go_wp2_with fail;go_ret;exact ⟨rfl,hkW⟩
 have d1:decide (1≤x)=true:=decide_eq_true c1
 by_cases c2:x < P
 case neg =>
  have r:memB q x=false:=by unfold memB;rw [decide_eq_false (show ¬ x < ((2*q+1:Nat):Int) by omega)];simp
  rw [r];have d2:decide (x < P)=false:=decide_eq_false c2;clear hPp
  go_enter Tryz.func98,Tryz.ntmps98
  go_wp2_with fail;rw [HW.out];go_wp2_with fail;go_ret;exact ⟨rfl,hkW⟩
 have d2:decide (x < P)=true:=decide_eq_true c2;obtain ⟨c,hc⟩:∃ c,memB q x=c:=⟨_,rfl⟩;rw [hc] at HM ⊢;clear hPp hc
 go_enter Tryz.func98,Tryz.ntmps98
 go_wp2_with fail;rw [HW.out];go_wp2_with (go_at_call 165;with_reducible refine VG.out.mono ?_);rintro e w1 ⟨rfl,k1⟩;clear e0 e1 e2;have e0:=K0.out w1 k1;have e1:=K1.out w1 k1;have e2:=K2.out w1 k1;go_wp2_with (go_at_call 170;with_reducible refine (HM.out w1).mono ?_);rintro e w3 ⟨rfl,k3⟩;go_wp2_with fail;go_ret;exact ⟨rfl,hkW.trans (k1.trans k3)⟩
set_option maxRecDepth 100000 in
set_option maxHeartbeats 1000000 in
theorem rexponents_any (s:Stp) (sv v:Value) (l:List Int) (n:Int) (w:World) (hs:StpV w sv s) (hv:Row w 1 v l.length (ints l)) :
  Calls Tryz.prog 91 #[sv,v,.int .i64 n] w fun e w'=>e=.returned (.bool (expsB s l n))∧Kept [] w w':=by
 have HS:=Lib.hid hs;obtain ⟨⟨sa,sc,rfl,hrow⟩,ip,iq,ig,ib,il⟩:=hs;obtain ⟨W,hW⟩:∃ W,w.alloc (.cells (stpA s (.slice sa s.bases.length sc)) 26)=W:=⟨_,rfl⟩;have hb:Blk W w.heap.size 26 (stpA s (.slice sa s.bases.length sc)):=hW▸Blk.new _ _ _;have hkW:Kept [] w W:=hW▸(Kept.refl _ _).alloc _;have K0:Hid (∀ w',Kept [] W w'→w'.cell? ⟨w.heap.size,0,none⟩=some (.int .i64 s.P)):=Kept.cellOf (hb.cell 0);have K1:Hid (∀ w',Kept [] W w'→w'.cell? ⟨w.heap.size,1,none⟩=some (.int .i64 s.Q)):=Kept.cellOf (hb.cell 1);have K2:Hid (∀ w',Kept [] W w'→w'.cell? ⟨w.heap.size,2,none⟩=some (.int .i64 s.G)):=Kept.cellOf (hb.cell 2);have K3:Hid (∀ w',Kept [] W w'→w'.cell? ⟨w.heap.size,3,none⟩=some (.slice sa s.bases.length sc)):=Kept.cellOf (hb.cell 3);have K4:Hid (∀ w',Kept [] W w'→w'.cell? ⟨w.heap.size,4,none⟩=some (.int .i64 s.blind)):=Kept.cellOf (hb.cell 4)
 have HC:Hid (∀ x w',Kept [] W w'→Calls Tryz.prog 90 #[.agg #[.int .i64 s.P,.int .i64 s.Q,.int .i64 s.G,.slice sa s.bases.length sc,.int .i64 s.blind],.int .i64 x] w' fun e w2=>e=.returned (.bool (expoB s x))∧Kept [] w' w2) :=
  fun x w' k=>rexponent_any _ s x w' (HS.out.kept (hkW.trans k))
 obtain ⟨aa,ca,rfl,hla,_⟩:=hv.form;have HV:=Lib.hid (hv.kept hkW);have HW:Hid (w.alloc (.cells #[.int .i64 s.P,.int .i64 s.Q,.int .i64 s.G,.slice sa s.bases.length sc,.int .i64 s.blind] 26)=W):=hW;obtain ⟨T,hT⟩:∃ T,expsB s l n=T:=⟨_,rfl⟩;have HT:=Lib.hid hT;rw [hT];clear hv hb hW hrow ib hT HS
 go_enter Tryz.func91,Tryz.ntmps91
 go_wp2_with fail;rw [HW.out]
 go_loopw [7] (fun i wr=>∃ k:Nat,k≤l.length∧i=.int .i64 k∧(∀ j (hj:j < l.length),j < k→(expoB s) l[j]=true)∧Kept [] W wr) (fun i _=>l.length - (intOf i).toNat)
 case atStart=>exact ⟨0,Nat.zero_le _,rfl,fun j _ hj=>by omega,Kept.refl _ _⟩
 case round =>
  obtain ⟨k,hk,rfl,hm,hkr⟩:=hrel;have HM:=Lib.hid hm;clear hm
  by_cases hlt:k < l.length
  ·obtain ⟨ba,oa,rfl,hca⟩:=(HV.out.kept hkr).at_ (by omega);have xa:∀ w',Kept [] wr w'→w'.cell? ⟨ba,oa+k,none⟩=some (.int .i64 l[k]):=Kept.cellOf (hca k _ (ints_get hlt));have x0:∀ w',Kept [] wr w'→w'.cell? ⟨w.heap.size,0,none⟩=some (.int .i64 s.P):=Kept.cellOf (K0.out wr hkr);have x1:∀ w',Kept [] wr w'→w'.cell? ⟨w.heap.size,1,none⟩=some (.int .i64 s.Q):=Kept.cellOf (K1.out wr hkr);have x2:∀ w',Kept [] wr w'→w'.cell? ⟨w.heap.size,2,none⟩=some (.int .i64 s.G):=Kept.cellOf (K2.out wr hkr);have x3:∀ w',Kept [] wr w'→w'.cell? ⟨w.heap.size,3,none⟩=some (.slice sa s.bases.length sc):=Kept.cellOf (K3.out wr hkr);have x4:∀ w',Kept [] wr w'→w'.cell? ⟨w.heap.size,4,none⟩=some (.int .i64 s.blind):=Kept.cellOf (K4.out wr hkr)
   have HX:Hid (∀ w',Kept [] wr w'→Calls Tryz.prog 90 #[.agg #[.int .i64 s.P,.int .i64 s.Q,.int .i64 s.G,.slice sa s.bases.length sc,.int .i64 s.blind],.int .i64 l[k]] w' fun e w2=>e=.returned (.bool (expoB s l[k]))∧Kept [] w' w2) :=
    fun w' kk=>HC.out l[k] w' (hkr.trans kk)
   obtain ⟨t,ht⟩:∃ t,(expoB s) l[k]=t:=⟨_,rfl⟩;rw [ht] at HX;have HQ:=Lib.hid ht;clear hca ht;go_upto_region 4 with (fail)
   go_region_held3 (fun w'=>Kept [] wr w') (first|assumption|exact (Kept.refl _ _).drew|exact Kept.alloc (by assumption) _)
    (first
     | (go_at_call 90;with_reducible refine (kept_from (W:=wr) (by assumption) (HX.out _ (by assumption))).mono ?_;rintro e w3 ⟨rfl,hk3⟩)
     | fail)
   clear x0 x1 x2 x3 x4 xa
   cases t
   ·have hR:=HT.out
    unfold expsB at hR
    rw [any_of_not hlt HQ.out,Bool.and_false] at hR;subst hR;go_wp2;go_ret;exact ⟨rfl,hkW.trans (hkr.trans hk3)⟩
   ·go_wp2
    go_roundw
    case rel=>exact ⟨k+1,by omega,by go_num,fun j hj hjk=>by
     rcases Nat.lt_or_ge j k with h|h
     ·exact HM.out j hj h
     ·obtain rfl:j=k:=by omega
      exact HQ.out,hkr.trans hk3⟩
    case measure=>simp [intOf];omega
  ·obtain rfl:k=l.length:=by omega
   have hR:=HT.out
   unfold expsB at hR
   rw [all_of (fun j hj=>HM.out j hj hj),Bool.and_true] at hR;subst hR
   have hd:((l.length:Int)==n)=decide ((l.length:Int)=n):=by
    by_cases h:(l.length:Int)=n
    ·rw [decide_eq_true h];simpa using h
    ·rw [decide_eq_false h];simpa using h
   go_wp2_with fail;go_ret;exact ⟨rfl,hkW.trans hkr⟩
set_option maxRecDepth 100000 in
set_option maxHeartbeats 1000000 in
theorem relements_any (s:Stp) (q:Nat) (sv v:Value) (l:List Int) (n:Int) (w:World) (hs:StpV w sv s) (hv:Row w 1 v l.length (ints l)) (hok:GrpOk s.P s.Q s.G q) (hg:groupN q s.G=true) (hi:∀ x∈l,Wire.I64 x) :
  Calls Tryz.prog 99 #[sv,v,.int .i64 n] w fun e w'=>e=.returned (.bool (eltsB q l n))∧Kept [] w w':=by
 obtain ⟨⟨sa,sc,rfl,hrow⟩,ip,iq,ig,ib,il⟩:=hs;obtain ⟨W,hW⟩:∃ W,w.alloc (.cells (stpA s (.slice sa s.bases.length sc)) 26)=W:=⟨_,rfl⟩;have hb:Blk W w.heap.size 26 (stpA s (.slice sa s.bases.length sc)):=hW▸Blk.new _ _ _;have hkW:Kept [] w W:=hW▸(Kept.refl _ _).alloc _;have K0:Hid (∀ w',Kept [] W w'→w'.cell? ⟨w.heap.size,0,none⟩=some (.int .i64 s.P)):=Kept.cellOf (hb.cell 0);have K1:Hid (∀ w',Kept [] W w'→w'.cell? ⟨w.heap.size,1,none⟩=some (.int .i64 s.Q)):=Kept.cellOf (hb.cell 1);have K2:Hid (∀ w',Kept [] W w'→w'.cell? ⟨w.heap.size,2,none⟩=some (.int .i64 s.G)):=Kept.cellOf (hb.cell 2)
 have HC:Hid (∀ x w',Wire.I64 x→Calls Tryz.prog 98 #[.agg #[.int .i64 s.P,.int .i64 s.Q,.int .i64 s.G],.int .i64 x] w' fun e w2=>e=.returned (.bool (memB q x))∧Kept [] w' w2) :=
  fun x w' h=>relement_any s.P s.Q s.G x q w' hok hg h
 obtain ⟨aa,ca,rfl,hla,_⟩:=hv.form;have HV:=Lib.hid (hv.kept hkW);have HI:=Lib.hid hi;have HW:Hid (w.alloc (.cells #[.int .i64 s.P,.int .i64 s.Q,.int .i64 s.G,.slice sa s.bases.length sc,.int .i64 s.blind] 26)=W):=hW;obtain ⟨T,hT⟩:∃ T,eltsB q l n=T:=⟨_,rfl⟩;have HT:=Lib.hid hT;rw [hT];clear hv hb hW hrow ib hT hi hok hg
 go_enter Tryz.func99,Tryz.ntmps99
 go_wp2_with fail;rw [HW.out]
 go_loopw [7] (fun i wr=>∃ k:Nat,k≤l.length∧i=.int .i64 k∧(∀ j (hj:j < l.length),j < k→(memB q) l[j]=true)∧Kept [] W wr) (fun i _=>l.length - (intOf i).toNat)
 case atStart=>exact ⟨0,Nat.zero_le _,rfl,fun j _ hj=>by omega,Kept.refl _ _⟩
 case round =>
  obtain ⟨k,hk,rfl,hm,hkr⟩:=hrel;have HM:=Lib.hid hm;clear hm
  by_cases hlt:k < l.length
  ·obtain ⟨ba,oa,rfl,hca⟩:=(HV.out.kept hkr).at_ (by omega);have xa:∀ w',Kept [] wr w'→w'.cell? ⟨ba,oa+k,none⟩=some (.int .i64 l[k]):=Kept.cellOf (hca k _ (ints_get hlt));have x0:∀ w',Kept [] wr w'→w'.cell? ⟨w.heap.size,0,none⟩=some (.int .i64 s.P):=Kept.cellOf (K0.out wr hkr);have x1:∀ w',Kept [] wr w'→w'.cell? ⟨w.heap.size,1,none⟩=some (.int .i64 s.Q):=Kept.cellOf (K1.out wr hkr);have x2:∀ w',Kept [] wr w'→w'.cell? ⟨w.heap.size,2,none⟩=some (.int .i64 s.G):=Kept.cellOf (K2.out wr hkr)
   have HX:Hid (∀ w',Calls Tryz.prog 98 #[.agg #[.int .i64 s.P,.int .i64 s.Q,.int .i64 s.G],.int .i64 l[k]] w' fun e w2=>e=.returned (.bool (memB q l[k]))∧Kept [] w' w2) :=
    fun w'=>HC.out l[k] w' (HI.out _ (List.getElem_mem hlt))
   obtain ⟨t,ht⟩:∃ t,(memB q) l[k]=t:=⟨_,rfl⟩;rw [ht] at HX;have HQ:=Lib.hid ht;clear hca ht;go_upto_region 4 with (fail)
   go_region_held3 (fun w'=>Kept [] wr w') (first|assumption|exact (Kept.refl _ _).drew|exact Kept.alloc (by assumption) _)
    (first
     | (go_at_call 98;with_reducible refine (kept_from (W:=wr) (by assumption) (HX.out _)).mono ?_;rintro e w3 ⟨rfl,hk3⟩)
     | fail)
   clear x0 x1 x2 xa
   cases t
   ·have hR:=HT.out
    unfold eltsB at hR
    rw [any_of_not hlt HQ.out,Bool.and_false] at hR;subst hR;go_wp2;go_ret;exact ⟨rfl,hkW.trans (hkr.trans hk3)⟩
   ·go_wp2
    go_roundw
    case rel=>exact ⟨k+1,by omega,by go_num,fun j hj hjk=>by
     rcases Nat.lt_or_ge j k with h|h
     ·exact HM.out j hj h
     ·obtain rfl:j=k:=by omega
      exact HQ.out,hkr.trans hk3⟩
    case measure=>simp [intOf];omega
  ·obtain rfl:k=l.length:=by omega
   have hR:=HT.out
   unfold eltsB at hR
   rw [all_of (fun j hj=>HM.out j hj hj),Bool.and_true] at hR;subst hR
   have hd:((l.length:Int)==n)=decide ((l.length:Int)=n):=by
    by_cases h:(l.length:Int)=n
    ·rw [decide_eq_true h];simpa using h
    ·rw [decide_eq_false h];simpa using h
   go_wp2_with fail;go_ret;exact ⟨rfl,hkW.trans hkr⟩
end Go.Proofs.YtpcdfepndmconaaGreatDoor
