/- The product of powers in a group. -/
import Derived.Test.YtpcdfepndmconaaGreatDoorZop
import Derived.Test.YtpcdfepndmconaaGreatDoorPrm
import Derived.Deep.RegionHeld3
/- JOINED: Fld5 Fld6 Prq -/
/- The primality test, and groups: witness, Prime, ValidGroup, Element, Power. -/
namespace Go.Proofs.YtpcdfepndmconaaGreatDoor
open Go.RowKit
theorem goes_hit {n x k:Nat} (h:x=n - 1):Prm.goes n x (k+1)=true:=by simp [Prm.goes,h]
theorem goes_step {n x k:Nat} (h:x≠n - 1):Prm.goes n x (k+1)=Prm.goes n (x*x % n) k:=by simp [Prm.goes,h]
set_option maxRecDepth 100000 in
set_option maxHeartbeats 1000000 in
theorem witness_any (N b:Nat) (w:World) (h1:2≤N) (h2:N < 2305843009213693952) (hb:b < N) (hE:Env2 w) :
  Calls Tryz.prog 214 #[.int .i64 N,.int .u64 b] w fun e w'=>e=.returned (.bool (!Prm.passes N b))∧Kept [] w w':=by
 obtain ⟨m,rfl⟩:∃ m,N=m+1:=⟨N - 1,by omega⟩;have TZ:=Lib.hid (tz64_any m w (by omega) (by omega) hE)
 unfold Prm.passes
 rw [Nat.add_sub_cancel];have hk64:=(Lib.lowest_bit 64 m (by omega) (by omega)).2;obtain ⟨K,hK⟩:∃ K,Lib.ctz 64 m=K:=⟨_,rfl⟩;rw [hK] at TZ hk64 ⊢;obtain ⟨D,hD⟩:∃ D,m / 2 ^ K=D:=⟨_,rfl⟩
 have iD:(m:Int) / 2 ^ K=(D:Int):=by rw [←hD];simp
 have lD:D < 18446744073709551616:=by rw [←hD];exact Nat.lt_of_le_of_lt (Nat.div_le_self _ _) (by omega)
 rw [hD];have PW:=Lib.hid (power_any (m+1) b D w h1 h2 hb lD);have lx:b ^ D % (m+1) < m+1:=Nat.mod_lt _ (by omega);obtain ⟨x0,hx0⟩:∃ x,b ^ D % (m+1)=x:=⟨_,rfl⟩;rw [hx0] at PW lx ⊢;obtain ⟨G,hG⟩:∃ G,Prm.goes (m+1) x0 K=G:=⟨_,rfl⟩;rw [hG];have HG:=Lib.hid hG;rw [Int.natCast_add,Int.natCast_one] at PW ⊢
 have hm63:m < 9223372036854775808:=by omega
 clear hK hD hx0 hG
 by_cases h11:x0=1
 ·subst h11
  go_enter Tryz.func214,Tryz.ntmps214
  go_wp2_with (first
   | (go_at_call 233;refine TZ.out.mono ?_;rintro e w' ⟨rfl,rfl⟩)
   | (go_at_call 168;refine PW.out.mono ?_;rintro e w1 ⟨rfl,hk⟩))
  go_ret;exact ⟨by simp,hk⟩
 ·have hd1:((x0:Int)==1)=false:=by simp;omega
  go_enter Tryz.func214,Tryz.ntmps214
  go_wp2_with (first
   | (go_at_call 233;refine TZ.out.mono ?_;rintro e w' ⟨rfl,rfl⟩)
   | (go_at_call 168;refine PW.out.mono ?_;rintro e w1 ⟨rfl,hk⟩))
  go_loopw [6,22] (fun vx vi wr=>∃ i x:Nat,i≤K∧vi=.int .i64 i∧vx=.int .u64 x∧x < m+1∧Prm.goes (m+1) x (K - i)=G∧Kept [] w wr) (fun _ vi _=>K - (intOf vi).toNat)
  case atStart=>exact ⟨0,x0,by omega,rfl,rfl,lx,HG.out,hk⟩
  case round =>
   obtain ⟨i,x,hi,rfl,rfl,hx,hr,hkr⟩:=hrel
   by_cases hlt:i < K
   ·obtain ⟨j,hj⟩:∃ j,K - i=j+1:=⟨K - i - 1,by omega⟩;rw [hj] at hr
    by_cases he:x=m
    ·subst he;rw [goes_hit (by omega)] at hr;subst hr;go_wp2_with fail;go_ret;exact ⟨by simp,hkr⟩
    ·have hd:((x:Int)==(m:Int))=false:=by simp;omega
     rw [goes_step (by omega)] at hr;have PS:=Lib.hid (product_any (m+1) x x wr (by omega) h2 hx hx);have lz:x*x % (m+1) < m+1:=Nat.mod_lt _ (by omega);obtain ⟨z,hz⟩:∃ z,x*x % (m+1)=z:=⟨_,rfl⟩;rw [hz] at PS lz hr;rw [Int.natCast_add,Int.natCast_one] at PS;have HR:=Lib.hid hr;clear hr hz;go_wp2_with (go_at_call 155;refine PS.out.mono ?_;rintro e w2 ⟨rfl,hk2⟩)
     go_roundw
     case rel=>exact ⟨i+1,z,by omega,by go_num,rfl,lz,by rw [show K - (i+1)=j by omega];exact HR.out,hkr.trans hk2⟩
     case measure=>simp [intOf];omega
   ·obtain rfl:i=K:=by omega
    rw [Nat.sub_self] at hr;have hr':false=G:=hr;subst hr';go_wp2_with fail;go_ret;refine ⟨?_,hkr⟩
    have:(x0==1)=false:=by simp;omega
    rw [this]
    rfl
theorem beq_cast (a b:Nat):((a:Int)==(b:Int))=(a==b):=by
 rw [Bool.eq_iff_iff,beq_iff_eq,beq_iff_eq,Int.natCast_inj]
def smallV:Array Value:=#[.int .i64 2,.int .i64 3,.int .i64 5,.int .i64 7,.int .i64 11,.int .i64 13,.int .i64 17,.int .i64 19,.int .i64 23,.int .i64 29,.int .i64 31,.int .i64 37]
theorem ixs (k:Nat) (hk:k < 12) (w:World):(Instr.index 216 (.agg #[.int .i64 2,.int .i64 3,.int .i64 5,.int .i64 7,.int .i64 11,.int .i64 13,.int .i64 17,.int .i64 19,.int .i64 23,.int .i64 29,.int .i64 31,.int .i64 37]) (.int .i64 k)).run Tryz.prog w=.ok (.int .i64 (Prm.at_ k)) w:=by
 rcases (by omega:k=0∨k=1∨k=2∨k=3∨k=4∨k=5∨k=6∨k=7∨k=8∨k=9∨k=10∨k=11) with rfl|rfl|rfl|rfl|rfl|rfl|rfl|rfl|rfl|rfl|rfl|rfl <;> kernel_rfl
set_option maxRecDepth 100000 in
set_option maxHeartbeats 1600000 in
theorem prime_any (N:Nat) (w:World) (h1:2≤N) (h2:N < 2305843009213693952) (hE:Env2 w) :
  Calls Tryz.prog 199 #[.int .i64 N] w fun e w'=>e=.returned (.bool (Prm.primeN N))∧Kept [] w w':=by
 have hE0:Env2 (w.alloc (.cells smallV 216)):=hE.alloc _;obtain ⟨B,hB⟩:∃ B,Prm.primeN N=B:=⟨_,rfl⟩;rw [hB];have HB:=Lib.hid hB;clear hB
 go_enter Tryz.func199,Tryz.ntmps199
 go_wp2_with fail
 go_loop [5,16] (fun _ i=>∃ k:Nat,k≤12∧i=.int .i64 k∧∀ j,j < k→Prm.hits N j=false) (fun _ i=>12 - (intOf i).toNat)
 case atStart=>exact ⟨0,by omega,rfl,fun j hj=>by omega⟩
 case round =>
  obtain ⟨k,hk,rfl,hm⟩:=hrel;have HM:=Lib.hid hm;clear hm
  by_cases hlt:k < 12
  ·have ik:=ixs k hlt;obtain ⟨p1,p2⟩:=Prm.at_lt hlt;have hits:Prm.hits N k=decide (N % Prm.at_ k=0):=rfl;obtain ⟨p,hp⟩:∃ p,Prm.at_ k=p:=⟨_,rfl⟩;have HP:=Lib.hid hp;rw [hp] at ik p1 p2 hits
   have hpz:¬ (p:Int)=0:=by omega
   clear hp
   by_cases hh:N % p=0
   ·have hd:((N:Int) % (p:Int)==0)=true:=by simp;omega
    have hB:=HB.out;rw [Prm.primeN_hit hlt HM.out (by rw [hits];simpa using hh),HP.out] at hB;have HBB:=Lib.hid hB;clear hB hits;go_wp2_with fail;go_ret;exact ⟨by rw [←HBB.out,←beq_cast];rfl,(Kept.refl _ _).alloc _⟩
   ·have hd:((N:Int) % (p:Int)==0)=false:=by simp;omega
    have hno:Prm.hits N k=false:=by rw [hits];simpa using hh
    have HN:=Lib.hid hno;clear hno hits;go_wp2_with fail
    go_round
    case rel=>exact ⟨k+1,by omega,by go_num,fun j hj=>by
     rcases Nat.lt_or_ge j k with h|h
     ·exact HM.out j h
     ·obtain rfl:j=k:=by omega
      exact HN.out⟩
    case measure=>simp [intOf];omega
  ·obtain rfl:k=12:=by omega
   have h37:=Prm.no_hits HM.out h1;go_wp2_with fail
   go_loopw [7,28] (fun _ i wr=>∃ k:Nat,k≤12∧i=.int .i64 k∧(∀ j,j < k→Prm.passes N (Prm.at_ j)=true)∧Kept [] (w.alloc (.cells smallV 216)) wr) (fun _ i _=>12 - (intOf i).toNat)
   case atStart=>exact ⟨0,by omega,rfl,fun j hj=>by omega,Kept.refl _ _⟩
   case round =>
    obtain ⟨k,hk,rfl,hm,hkr⟩:=hrel;have HQ:=Lib.hid hm;clear hm
    by_cases hlt:k < 12
    ·have ik:=ixs k hlt;obtain ⟨p1,p2⟩:=Prm.at_lt hlt;have W:=Lib.hid (witness_any N (Prm.at_ k) wr h1 h2 (by omega) (hE0.kept0 hkr));have AB:=Lib.hid (fun h=>Prm.primeN_bad (n:=N) (k:=k) HM.out hlt h)
     have AG:Hid (Prm.passes N (Prm.at_ k)=true→∀ j,j < k+1→Prm.passes N (Prm.at_ j)=true):=fun h j hj=>by
      rcases Nat.lt_or_ge j k with h'|h'
      ·exact HQ.out j h'
      ·obtain rfl:j=k:=by omega
       exact h
     obtain ⟨t,ht⟩:∃ t,Prm.passes N (Prm.at_ k)=t:=⟨_,rfl⟩;rw [ht] at W AB AG;obtain ⟨p,hp⟩:∃ p,Prm.at_ k=p:=⟨_,rfl⟩;rw [hp] at ik p1 p2 W;clear hp ht
     cases t
     ·have hB:=HB.out;rw [AB.out rfl] at hB;have HBB:=Lib.hid hB;clear hB;go_wp2_with (go_at_call 214;refine W.out.mono ?_;rintro e w2 ⟨rfl,hk2⟩);go_ret;exact ⟨by rw [←HBB.out];rfl,((Kept.refl _ _).alloc _).trans (hkr.trans hk2)⟩
     ·go_wp2_with (go_at_call 214;refine W.out.mono ?_;rintro e w2 ⟨rfl,hk2⟩)
      go_roundw
      case rel=>exact ⟨k+1,by omega,by go_num,AG.out (by first|trivial|rfl),hkr.trans hk2⟩
      case measure=>simp [intOf];omega
    ·obtain rfl:k=12:=by omega
     have hB:=HB.out;rw [Prm.primeN_all HM.out HQ.out] at hB;have HBB:=Lib.hid hB;clear hB;go_wp2_with fail;go_ret;exact ⟨by rw [←HBB.out];rfl,((Kept.refl _ _).alloc _).trans hkr⟩
end Go.Proofs.YtpcdfepndmconaaGreatDoor
/- Groups: ValidGroup, Element, Power, for any numbers. -/
namespace Go.Proofs.YtpcdfepndmconaaGreatDoor
open Go.RowKit
/-- a group that may be -/
structure GrpOk (P Q G:Int) (q:Nat):Prop where
 hQ:Q=q
 h5:5≤q
 hq:q < 1152921504606846976
 hP:P=((2*q+1:Nat):Int)
 hG:2≤G
 hGP:G < P
def groupN (q:Nat) (G:Int):Bool:=Prm.primeN q&&(Prm.primeN (2*q+1)&&powN (2*q+1) G q==1)
def groupB (P Q G:Int):Bool:=decide (5≤Q)&&(decide (Q < 1152921504606846976)&&(decide (P=2*Q+1)&&(decide (2≤G)&&(decide (G < P)&&groupN Q.toNat G))))
theorem GrpOk.eq {P Q G:Int} {q:Nat} (h:GrpOk P Q G q):groupB P Q G=groupN q G:=by
 obtain ⟨h1,h2,h3,h4,h5,h6⟩:=h;subst h1
 unfold groupB
 rw [decide_eq_true (show (5:Int)≤(q:Int) by omega),decide_eq_true (show (q:Int) < 1152921504606846976 by omega),decide_eq_true (show P=2*(q:Int)+1 by omega),decide_eq_true h5,decide_eq_true h6]
 simp
theorem groupB_ok {P Q G:Int} (h:groupB P Q G=true):∃ q,GrpOk P Q G q∧groupN q G=true:=by
 unfold groupB at h
 simp only [Bool.and_eq_true,decide_eq_true_eq] at h;obtain ⟨h1,h2,h3,h4,h5,h6⟩:=h;exact ⟨Q.toNat,⟨by omega,by omega,by omega,by omega,h4,h5⟩,h6⟩
abbrev grpV (P Q G:Int):Array Value:=#[.int .i64 P,.int .i64 Q,.int .i64 G]
set_option maxRecDepth 100000 in
set_option maxHeartbeats 2000000 in
theorem validGroup_any (P Q G:Int) (w:World) (hP:Wire.I64 P) (hQ:Wire.I64 Q) (hG:Wire.I64 G) (hE:Env2 w) :
  Calls Tryz.prog 159 #[.agg (grpV P Q G)] w fun e w'=>e=.returned (.bool (groupB P Q G))∧Kept [] w w':=by
 obtain ⟨P1,P2⟩:=hP;obtain ⟨Q1,Q2⟩:=hQ;obtain ⟨G1,G2⟩:=hG;obtain ⟨W,hW⟩:∃ W,w.alloc (.cells (grpV P Q G) 23)=W:=⟨_,rfl⟩;have hb:Blk W w.heap.size 23 (grpV P Q G):=hW▸Blk.new _ _ _;have hkW:Kept [] w W:=hW▸(Kept.refl _ _).alloc _;have hEW:Env2 W:=hE.kept0 hkW;have K0:Hid (∀ w',Kept [] W w'→w'.cell? ⟨w.heap.size,0,none⟩=some (.int .i64 P)):=Kept.cellOf (hb.cell 0);have K1:Hid (∀ w',Kept [] W w'→w'.cell? ⟨w.heap.size,1,none⟩=some (.int .i64 Q)):=Kept.cellOf (hb.cell 1);have K2:Hid (∀ w',Kept [] W w'→w'.cell? ⟨w.heap.size,2,none⟩=some (.int .i64 G)):=Kept.cellOf (hb.cell 2);have e0:=K0.out W (Kept.refl _ _);have e1:=K1.out W (Kept.refl _ _);have e2:=K2.out W (Kept.refl _ _);have HW:=Lib.hid hW;clear hW hb
 by_cases c1:Q < 5
 ·have r:groupB P Q G=false:=by unfold groupB;rw [decide_eq_false (by omega)];rfl
  rw [r];have d1:decide (Q < 5)=true:=decide_eq_true c1
  go_enter Tryz.func159,Tryz.ntmps159
  go_wp2_with fail;rw [HW.out];go_wp2_with fail;go_ret;exact ⟨rfl,hkW⟩
 have d1:decide (Q < 5)=false:=decide_eq_false c1
 by_cases c2:1152921504606846976≤Q
 ·have r:groupB P Q G=false:=by unfold groupB;rw [decide_eq_false (show ¬ Q < 1152921504606846976 by omega)];simp
  rw [r];have d2:decide (1152921504606846976≤Q)=true:=decide_eq_true c2
  go_enter Tryz.func159,Tryz.ntmps159
  go_wp2_with fail;rw [HW.out];go_wp2_with fail;go_ret;exact ⟨rfl,hkW⟩
 have d2:decide (1152921504606846976≤Q)=false:=decide_eq_false c2
 by_cases c3:P=2*Q+1
 case neg =>
  have r:groupB P Q G=false:=by unfold groupB;rw [decide_eq_false c3];simp
  rw [r]
  have d3:(P != 2*Q+1)=true:=by simpa using c3
  go_enter Tryz.func159,Tryz.ntmps159
  go_wp2_with fail;rw [HW.out];go_wp2_with fail;go_ret;exact ⟨rfl,hkW⟩
 have d3:(P != 2*Q+1)=false:=by simpa using c3
 by_cases c4:G < 2
 ·have r:groupB P Q G=false:=by unfold groupB;rw [decide_eq_false (show ¬ 2≤G by omega)];simp
  rw [r];have d4:decide (G < 2)=true:=decide_eq_true c4;have D3:=Lib.hid c3;clear c3
  go_enter Tryz.func159,Tryz.ntmps159
  go_wp2_with fail;rw [HW.out];go_wp2_with fail;go_ret;exact ⟨rfl,hkW⟩
 have d4:decide (G < 2)=false:=decide_eq_false c4
 by_cases c5:P≤G
 ·have r:groupB P Q G=false:=by unfold groupB;rw [decide_eq_false (show ¬ G < P by omega)];simp
  rw [r];have d5:decide (P≤G)=true:=decide_eq_true c5;have D3:=Lib.hid c3;clear c3
  go_enter Tryz.func159,Tryz.ntmps159
  go_wp2_with fail;rw [HW.out];go_wp2_with fail;go_ret;exact ⟨rfl,hkW⟩
 have d5:decide (P≤G)=false:=decide_eq_false c5;obtain ⟨q,hq⟩:∃ q:Nat,Q=q:=⟨Q.toNat,by omega⟩;have hok:GrpOk P Q G q:=⟨hq,by omega,by omega,by omega,by omega,by omega⟩;rw [hok.eq]
 unfold groupN
 have PQ:Hid (∀ w',Kept [] W w'→Calls Tryz.prog 199 #[.int .i64 q] w' fun e w''=>e=.returned (.bool (Prm.primeN q))∧Kept [] w' w''):=fun w' k=>prime_any q w' (by omega) (by omega) (hEW.kept0 k)
 have PP:Hid (∀ w',Kept [] W w'→Calls Tryz.prog 199 #[.int .i64 P] w' fun e w''=>e=.returned (.bool (Prm.primeN (2*q+1)))∧Kept [] w' w''):=fun w' k=>by
  rw [hok.hP];exact prime_any (2*q+1) w' (by omega) (by omega) (hEW.kept0 k)
 have PW:Hid (∀ w',Calls Tryz.prog 96 #[.int .i64 P,.int .i64 G,.int .i64 q] w' fun e w''=>e=.returned (.int .i64 ((powN (2*q+1) G q:Nat):Int))∧Kept [] w' w''):=fun w'=>by
  rw [hok.hP];exact fpow_any (2*q+1) G q w' (by omega) (by omega) ⟨by omega,by omega⟩ (by omega)
 obtain ⟨a,ha⟩:∃ a,Prm.primeN q=a:=⟨_,rfl⟩;obtain ⟨b,hb⟩:∃ b,Prm.primeN (2*q+1)=b:=⟨_,rfl⟩;obtain ⟨c,hc⟩:∃ c,powN (2*q+1) G q=c:=⟨_,rfl⟩;rw [ha] at PQ ⊢;rw [hb] at PP ⊢;rw [hc] at PW ⊢;have D3:=Lib.hid c3;have HOK:=Lib.hid hok;subst hq;clear c3 hok ha hb hc;have hb1:((c:Int)==1)=(c==1):=beq_cast c 1
 cases a
 ·go_enter Tryz.func159,Tryz.ntmps159
  go_wp2_with fail;rw [HW.out];go_wp2_with (go_at_call 199;with_reducible refine (PQ.out W (Kept.refl _ _)).mono ?_);rintro e w1 ⟨rfl,k1⟩;go_wp2_with fail;go_ret;exact ⟨rfl,hkW.trans k1⟩
 ·go_enter Tryz.func159,Tryz.ntmps159
  go_wp2_with fail;rw [HW.out];go_wp2_with (go_at_call 199;with_reducible refine (PQ.out W (Kept.refl _ _)).mono ?_);rintro e w1 ⟨rfl,k1⟩;clear e0 e1 e2;have e0:=K0.out w1 k1;have e1:=K1.out w1 k1;have e2:=K2.out w1 k1;go_wp2_with (go_at_call 199;with_reducible refine (PP.out w1 k1).mono ?_);rintro e w2 ⟨rfl,k2⟩;replace k2:=k1.trans k2;clear e0 e1 e2;have e0:=K0.out w2 k2;have e1:=K1.out w2 k2;have e2:=K2.out w2 k2
  cases b
  ·go_wp2_with fail;go_ret;exact ⟨rfl,hkW.trans k2⟩
  ·go_wp2_with (go_at_call 96;with_reducible refine (PW.out w2).mono ?_);rintro e w3 ⟨rfl,k3⟩;go_wp2_with fail;go_ret;exact ⟨by rw [←hb1];simp,hkW.trans (k2.trans k3)⟩
/-- an element of a group -/
def memB (q:Nat) (x:Int):Bool:=decide (1≤x)&&(decide (x < ((2*q+1:Nat):Int))&&powN (2*q+1) x q==1)
set_option maxRecDepth 100000 in
set_option maxHeartbeats 2000000 in
/-- in a valid group -/
theorem element_any (P Q G x:Int) (q:Nat) (w:World) (hok:GrpOk P Q G q) (hg:groupN q G=true) (hx:Wire.I64 x) (hE:Env2 w) :
  Calls Tryz.prog 95 #[.agg (grpV P Q G),.int .i64 x] w fun e w'=>e=.returned (.bool (memB q x))∧Kept [] w w':=by
 have hP:Wire.I64 P:=by rw [hok.hP];have:=hok.hq;exact ⟨by omega,by omega⟩
 have hQ:Wire.I64 Q:=by rw [hok.hQ];have:=hok.hq;exact ⟨by omega,by omega⟩
 have hG:Wire.I64 G:=by have:=hok.hG;have:=hok.hGP;have:=hok.hq;have:=hok.hP;exact ⟨by omega,by omega⟩
 obtain ⟨X1,X2⟩:=hx;have hqq:=hok.hq;have hq5:=hok.h5;have hPp:=hok.hP;obtain ⟨W,hW⟩:∃ W,w.alloc (.cells (grpV P Q G) 23)=W:=⟨_,rfl⟩;have hb:Blk W w.heap.size 23 (grpV P Q G):=hW▸Blk.new _ _ _;have hkW:Kept [] w W:=hW▸(Kept.refl _ _).alloc _;have hEW:Env2 W:=hE.kept0 hkW;have K0:Hid (∀ w',Kept [] W w'→w'.cell? ⟨w.heap.size,0,none⟩=some (.int .i64 P)):=Kept.cellOf (hb.cell 0);have K1:Hid (∀ w',Kept [] W w'→w'.cell? ⟨w.heap.size,1,none⟩=some (.int .i64 Q)):=Kept.cellOf (hb.cell 1);have K2:Hid (∀ w',Kept [] W w'→w'.cell? ⟨w.heap.size,2,none⟩=some (.int .i64 G)):=Kept.cellOf (hb.cell 2);have e0:=K0.out W (Kept.refl _ _);have e1:=K1.out W (Kept.refl _ _);have e2:=K2.out W (Kept.refl _ _);have HW:=Lib.hid hW;have vg:=validGroup_any P Q G W hP hQ hG hEW;rw [hok.eq,hg] at vg;have VG:=Lib.hid vg
 have PW:Hid (∀ w',Calls Tryz.prog 96 #[.int .i64 P,.int .i64 x,.int .i64 Q] w' fun e w''=>e=.returned (.int .i64 ((powN (2*q+1) x q:Nat):Int))∧Kept [] w' w''):=fun w'=>by
  rw [hok.hP,hok.hQ];exact fpow_any (2*q+1) x q w' (by omega) (by omega) ⟨by omega,by omega⟩ (by omega)
 have HPp:=Lib.hid hPp;clear hW hb vg
 by_cases c1:1≤x
 case neg =>
  have r:memB q x=false:=by unfold memB;rw [decide_eq_false c1];rfl
  rw [r];have d1:decide (1≤x)=false:=decide_eq_false c1;clear hPp
  go_enter Tryz.func95,Tryz.ntmps95
  go_wp2_with fail;rw [HW.out];go_wp2_with fail;go_ret;exact ⟨rfl,hkW⟩
 have d1:decide (1≤x)=true:=decide_eq_true c1
 by_cases c2:x < P
 case neg =>
  have r:memB q x=false:=by unfold memB;rw [decide_eq_false (show ¬ x < ((2*q+1:Nat):Int) by omega)];simp
  rw [r];have d2:decide (x < P)=false:=decide_eq_false c2;clear hPp
  go_enter Tryz.func95,Tryz.ntmps95
  go_wp2_with fail;rw [HW.out];go_wp2_with fail;go_ret;exact ⟨rfl,hkW⟩
 have d2:decide (x < P)=true:=decide_eq_true c2
 have r:memB q x=(powN (2*q+1) x q==1):=by unfold memB;rw [decide_eq_true c1,decide_eq_true (show x < ((2*q+1:Nat):Int) by omega)];simp
 rw [r];obtain ⟨c,hc⟩:∃ c,powN (2*q+1) x q=c:=⟨_,rfl⟩;rw [hc] at PW ⊢;have hb1:((c:Int)==1)=(c==1):=beq_cast c 1;clear hPp hc r
 go_enter Tryz.func95,Tryz.ntmps95
 go_wp2_with fail;rw [HW.out];go_wp2_with (go_at_call 159;with_reducible refine VG.out.mono ?_);rintro e w1 ⟨rfl,k1⟩;clear e0 e1 e2;have e0:=K0.out w1 k1;have e1:=K1.out w1 k1;go_wp2_with (go_at_call 96;with_reducible refine (PW.out w1).mono ?_);rintro e w3 ⟨rfl,k3⟩;go_wp2_with fail;go_ret;exact ⟨by rw [←hb1];simp,hkW.trans (k1.trans k3)⟩
theorem wrap_nat6 (p:Nat) (h:p < 9223372036854775808):IntKind.i64.wrap (p:Int)=p:=by
 rw [IntKind.wrap_i64];omega
/-- x to the power of k in a group -/
def pwrN (q:Nat) (x k:Int):Nat:=res (2*q+1) x ^ res q k % (2*q+1)
set_option maxRecDepth 100000 in
set_option maxHeartbeats 1000000 in
theorem power_grp (P Q G x k:Int) (q:Nat) (w:World) (hok:GrpOk P Q G q) (hx:Wire.I64 x) (hk:Wire.I64 k) :
  Calls Tryz.prog 137 #[.agg (grpV P Q G),.int .i64 x,.int .i64 k] w fun e w'=>e=.returned (.int .i64 ((pwrN q x k:Nat):Int))∧Kept [] w w':=by
 have hqq:=hok.hq;have hq5:=hok.h5;have hPp:=hok.hP;have hQp:=hok.hQ;obtain ⟨p,hp⟩:∃ p,2*q+1=p:=⟨_,rfl⟩
 unfold pwrN
 rw [hp] at hPp ⊢
 have hp2:2≤p:=by omega
 have hp3:p < 2305843009213693952:=by omega
 subst hPp hQp;obtain ⟨W,hW⟩:∃ W,w.alloc (.cells (grpV p q G) 23)=W:=⟨_,rfl⟩;have hb:Blk W w.heap.size 23 (grpV p q G):=hW▸Blk.new _ _ _;have hkW:Kept [] w W:=hW▸(Kept.refl _ _).alloc _;have k0:∀ w',Kept [] W w'→w'.cell? ⟨w.heap.size,0,none⟩=some (.int .i64 p):=Kept.cellOf (hb.cell 0);have k1:∀ w',Kept [] W w'→w'.cell? ⟨w.heap.size,1,none⟩=some (.int .i64 q):=Kept.cellOf (hb.cell 1);have e0:=k0 W (Kept.refl _ _);have e1:=k1 W (Kept.refl _ _);have HW:=Lib.hid hW;have V1:=Lib.hid (fvalid_any p W (by omega) (by omega));have V2:=Lib.hid (fvalid_any q W (by omega) (by omega));have l1:=res_lt p x (by omega);have l2:=res_lt q k (by omega);obtain ⟨X,hX⟩:∃ X,res p x=X:=⟨_,rfl⟩;obtain ⟨K,hK⟩:∃ K,res q k=K:=⟨_,rfl⟩
 have R1:Hid (∀ w,Calls Tryz.prog 156 #[.int .i64 p,.int .i64 x] w fun e w'=>e=.returned (.int .u64 ((X:Nat):Int))∧w=w'):=fun w=>by
  have:=residue_any p x w (by omega) (by omega) hx
  rwa [hX] at this
 have R2:Hid (∀ w,Calls Tryz.prog 156 #[.int .i64 q,.int .i64 k] w fun e w'=>e=.returned (.int .u64 ((K:Nat):Int))∧w=w'):=fun w=>by
  have:=residue_any q k w (by omega) (by omega) hk
  rwa [hK] at this
 rw [hX] at l1 ⊢;rw [hK] at l2 ⊢;have q4:X ^ K % p < p:=Nat.mod_lt _ (by omega);obtain ⟨r,hr⟩:∃ r,X ^ K % p=r:=⟨_,rfl⟩
 have HP:Hid (∀ w,Calls Tryz.prog 168 #[.int .i64 p,.int .u64 X,.int .u64 K] w fun e w'=>e=.returned (.int .u64 ((r:Nat):Int))∧Kept [] w w'):=fun w=>by
  have:=power_any p X K w (by omega) (by omega) l1 (by omega)
  rwa [hr] at this
 rw [hr] at q4 ⊢;clear hW hX hK hr hp hok
 go_enter Tryz.func137,Tryz.ntmps137
 go_wp2_with fail;rw [HW.out]
 go_wp2_with (first
  | (go_at_call 154;((with_reducible refine V1.out.mono ?_);rintro e w' ⟨rfl,rfl⟩))
  | (go_at_call 154;((with_reducible refine V2.out.mono ?_);rintro e w' ⟨rfl,rfl⟩)))
 clear e0 e1
 go_region_held3 (fun w'=>Kept [] W w') (first|assumption|exact (Kept.refl _ _).drew|exact Kept.alloc (by assumption) _)
  (first
   | (go_at_call 156;with_reducible refine (kept_from (W:=W) (by assumption) ((R1.out _).mono fun _ _ h=>⟨h.1,h.2▸Kept.refl _ _⟩)).mono ?_;rintro e w2 ⟨rfl,hk2⟩)
   | (go_at_call 156;with_reducible refine (kept_from (W:=W) (by assumption) ((R2.out _).mono fun _ _ h=>⟨h.1,h.2▸Kept.refl _ _⟩)).mono ?_;rintro e w2 ⟨rfl,hk2⟩)
   | (go_at_call 168;with_reducible refine (kept_from (W:=W) (by assumption) (HP.out _)).mono ?_;rintro e w3 ⟨rfl,hk3⟩))
 go_wp2;go_ret;exact ⟨by show Ending.returned (Value.int .i64 (IntKind.i64.wrap (r:Int)))=_;rw [wrap_nat6 r (by omega)],hkW.trans hk3⟩
end Go.Proofs.YtpcdfepndmconaaGreatDoor
namespace Go.Proofs.YtpcdfepndmconaaGreatDoor
open Go.RowKit
def stepQ (q:Nat) (o:Nat) (p:Int × Int):Nat:=mulN (2*q+1) (o:Int) ((pwrN q p.1 p.2:Nat):Int)
def prodQ (q:Nat) (bs es:List Int):Nat:=(bs.zip es).foldl (stepQ q) 1
theorem stepQ_lt (q o:Nat) (p:Int × Int):stepQ q o p < 2*q+1:=Nat.mod_lt _ (by omega)
theorem pwrQ_lt (q:Nat) (x k:Int):pwrN q x k < 2*q+1:=Nat.mod_lt _ (by omega)
set_option maxRecDepth 100000 in
set_option maxHeartbeats 1000000 in
theorem product_grp (P Q G:Int) (q:Nat) (vb ve:Value) (bs es:List Int) (w:World) (hok:GrpOk P Q G q) (hb:Row w 1 vb bs.length (ints bs)) (he:Row w 1 ve es.length (ints es)) (hl:bs.length=es.length)
  (ib:∀ x∈bs,Wire.I64 x) (ie:∀ x∈es,Wire.I64 x) :
  Calls Tryz.prog 97 #[.agg (grpV P Q G),vb,ve] w fun e w'=>e=.returned (.tuple #[.int .i64 ((prodQ q bs es:Nat):Int),.bool true])∧Kept [] w w':=by
 have hqq:=hok.hq;have hq5:=hok.h5;have hPp:=hok.hP;obtain ⟨ab,cb,rfl,hlb,_⟩:=hb.form;obtain ⟨ae,ce,rfl,hle,_⟩:=he.form;obtain ⟨W,hW⟩:∃ W,w.alloc (.cells #[.int .i64 P,.int .i64 Q,.int .i64 G] 23)=W:=⟨_,rfl⟩;have hbk:Blk W w.heap.size 23 #[.int .i64 P,.int .i64 Q,.int .i64 G]:=hW▸Blk.new _ _ _;have hkW:Kept [] w W:=hW▸(Kept.refl _ _).alloc _;have K0:Hid (∀ w',Kept [] W w'→w'.cell? ⟨w.heap.size,0,none⟩=some (.int .i64 P)):=Kept.cellOf (hbk.cell 0);have K1:Hid (∀ w',Kept [] W w'→w'.cell? ⟨w.heap.size,1,none⟩=some (.int .i64 Q)):=Kept.cellOf (hbk.cell 1);have K2:Hid (∀ w',Kept [] W w'→w'.cell? ⟨w.heap.size,2,none⟩=some (.int .i64 G)):=Kept.cellOf (hbk.cell 2);have e0:=K0.out W (Kept.refl _ _);have e1:=K1.out W (Kept.refl _ _);have HW:=Lib.hid hW
 have V1:Hid (Calls Tryz.prog 154 #[.int .i64 P] W fun e w'=>e=.returned (.bool true)∧W=w'):=by
  rw [hok.hP];exact fvalid_any (2*q+1) W (by omega) (by omega)
 have V2:Hid (Calls Tryz.prog 154 #[.int .i64 Q] W fun e w'=>e=.returned (.bool true)∧W=w'):=by
  rw [hok.hQ];exact fvalid_any q W (by omega) (by omega)
 have HB:=Lib.hid (hb.kept hkW);have HE:=Lib.hid (he.kept hkW);have IB:=Lib.hid ib;have IE:=Lib.hid ie
 have hlq:((bs.length:Int) != (es.length:Int))=false:=by simp;omega
 have hm1:(1:Int).tmod P=1:=by rw [hPp];exact tmod_nat (x:=1) (by omega)
 have hz':¬ P=0:=by omega
 have HOK:=Lib.hid hok;have HPP:=Lib.hid hPp;obtain ⟨T,hT⟩:∃ T,prodQ q bs es=T:=⟨_,rfl⟩;have H0:Hid (((bs.zip es).drop 0).foldl (stepQ q) 1=T):=hT;rw [hT];clear hW hbk hb he ib ie hT hok;clear hPp
 go_enter Tryz.func97,Tryz.ntmps97
 go_wp2_with fail;rw [HW.out]
 go_wp2_with (first
  | (go_at_call 154;with_reducible refine V1.out.mono ?_;rintro e w' ⟨rfl,rfl⟩)
  | (go_at_call 154;with_reducible refine V2.out.mono ?_;rintro e w' ⟨rfl,rfl⟩))
 clear e0 e1
 go_loopw [8,9,10,33] (fun vo _ _ vi wr=>∃ k o:Nat,k≤bs.length∧vi=.int .i64 k∧vo=.int .i64 o∧o < 2*q+1∧((bs.zip es).drop k).foldl (stepQ q) o=T∧Kept [] W wr) (fun _ _ _ vi _=>bs.length - (intOf vi).toNat)
 case atStart=>exact ⟨0,1,by omega,rfl,rfl,by omega,H0.out,Kept.refl _ _⟩
 case round =>
  obtain ⟨k,o,hk,rfl,rfl,ho,hr,hkr⟩:=hrel;have HR:=Lib.hid hr;clear hr
  by_cases hlt:k < bs.length
  ·have hlte:k < es.length:=by omega
   obtain ⟨ba,oa,rfl,hca⟩:=(HB.out.kept hkr).at_ (by omega);obtain ⟨bb,ob,rfl,hcb⟩:=(HE.out.kept hkr).at_ (by omega);have xb:=hca k _ (ints_get hlt);have xe:∀ w',Kept [] wr w'→w'.cell? ⟨bb,ob+k,none⟩=some (.int .i64 es[k]):=Kept.cellOf (hcb k _ (ints_get hlte));have k0:∀ w',Kept [] wr w'→w'.cell? ⟨w.heap.size,0,none⟩=some (.int .i64 P):=Kept.cellOf (K0.out _ hkr);have k1:∀ w',Kept [] wr w'→w'.cell? ⟨w.heap.size,1,none⟩=some (.int .i64 Q):=Kept.cellOf (K1.out _ hkr);have k2:∀ w',Kept [] wr w'→w'.cell? ⟨w.heap.size,2,none⟩=some (.int .i64 G):=Kept.cellOf (K2.out _ hkr);have ix:=IB.out bs[k] (List.getElem_mem hlt);have iy:=IE.out es[k] (List.getElem_mem hlte)
   have hz:(bs.zip es).drop k=(bs[k],es[k])::(bs.zip es).drop (k+1):=by
    rw [List.drop_eq_getElem_cons (by rw [List.length_zip];omega),List.getElem_zip]
   have hn:=HR.out;rw [hz,List.foldl_cons] at hn;have lst:=stepQ_lt q o (bs[k],es[k]);have HP:Hid (∀ w,Calls Tryz.prog 137 #[.agg #[.int .i64 P,.int .i64 Q,.int .i64 G],.int .i64 bs[k],.int .i64 es[k]] w fun e w'=>e=.returned (.int .i64 ((pwrN q bs[k] es[k]:Nat):Int))∧Kept [] w w'):=fun w=>power_grp P Q G bs[k] es[k] q w HOK.out ix iy;have lpw:=pwrQ_lt q bs[k] es[k];have HS:stepQ q o (bs[k],es[k])=mulN (2*q+1) (o:Int) ((pwrN q bs[k] es[k]:Nat):Int):=rfl;obtain ⟨t,ht⟩:∃ t,pwrN q bs[k] es[k]=t:=⟨_,rfl⟩;rw [ht] at HP HS lpw
   have HM:Hid (∀ w,Calls Tryz.prog 80 #[.int .i64 P,  .int .i64 o,.int .i64 t] w fun e w'=>e=.returned (.int .i64 ((mulN (2*q+1) (o:Int) (t:Int):Nat):Int))∧Kept [] w w') :=
    fun w=>by
     rw [HPP.out];exact fmul_any (2*q+1) o t w (by omega) (by omega) ⟨by omega,by omega⟩ ⟨by omega,by omega⟩
   rw [←HS] at HM;obtain ⟨s,hs⟩:∃ s,stepQ q o (bs[k],es[k])=s:=⟨_,rfl⟩;rw [hs] at HM hn lst;have HN:=Lib.hid hn;clear hn hs HS ht hz hca hcb ix iy;go_upto_region 7 with (fail);clear xb
   go_region_held3 (fun w'=>Kept [] wr w') (first|assumption|exact (Kept.refl _ _).drew|exact Kept.alloc (by assumption) _)
    (first
     | (go_at_call 137;with_reducible refine (kept_from (W:=wr) (by assumption) (HP.out _)).mono ?_;rintro e w2 ⟨rfl,hk2⟩)
     | (go_at_call 80;with_reducible refine (kept_from (W:=wr) (by assumption) (HM.out _)).mono ?_;rintro e w3 ⟨rfl,hk3⟩))
   clear k0 k1 k2 xe;go_wp2
   go_roundw
   case rel=>exact ⟨k+1,s,by omega,by go_num,rfl,lst,HN.out,hkr.trans hk3⟩
   case measure=>simp [intOf];omega
  ·obtain rfl:k=bs.length:=by omega
   have hn:=HR.out;rw [List.drop_eq_nil_of_le (by rw [List.length_zip];omega),List.foldl_nil] at hn;subst hn;go_wp2_with fail
   go_ret2
   exact ⟨rfl,hkW.trans hkr⟩
end Go.Proofs.YtpcdfepndmconaaGreatDoor
