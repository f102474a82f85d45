/- The reference's groups: ValidGroup, Member, Power. -/
import Derived.Test.YtpcdfepndmconaaGreatDoorPrq
import Derived.Test.YtpcdfepndmconaaGreatDoorZop
/- JOINED: Set2 Rf2 Rf3 -/
/- Setups: ValidSetup, for any setup. -/
namespace Go.Proofs.YtpcdfepndmconaaGreatDoor
open Go.RowKit
structure Stp where
 P:Int
 Q:Int
 G:Int
 bases:List Int
 blind:Int
abbrev stpA (s:Stp) (v:Value):Array Value:=#[.int .i64 s.P,.int .i64 s.Q,.int .i64 s.G,v,.int .i64 s.blind]
structure StpV (w:World) (v:Value) (s:Stp):Prop where
 form:∃ a c,v=.agg (stpA s (.slice a s.bases.length c))∧Row w 1 (.slice a s.bases.length c) s.bases.length (ints s.bases)
 ip:Wire.I64 s.P
 iq:Wire.I64 s.Q
 ig:Wire.I64 s.G
 ib:∀ x∈s.bases,Wire.I64 x
 il:Wire.I64 s.blind
theorem StpV.kept {w w':World} {v:Value} {s:Stp} (h:StpV w v s) (k:Kept [] w w'):StpV w' v s:=by
 obtain ⟨⟨a,c,h1,h2⟩,h3,h4,h5,h6,h7⟩:=h;exact ⟨⟨a,c,h1,h2.kept k⟩,h3,h4,h5,h6,h7⟩
def othB (q:Nat) (x:Int):Bool:=!(x==1)&&memB q x
def setupB (s:Stp):Bool:=groupB s.P s.Q s.G&&(decide (2≤s.bases.length)&&(decide (s.bases.length≤7)&&(s.bases.all (othB s.Q.toNat)&&othB s.Q.toNat s.blind)))
set_option maxRecDepth 100000 in
set_option maxHeartbeats 800000 in
theorem clo_oth (x:Int) (b:Nat) (v:Value) (s:Stp) (q:Nat) (w:World) (hb:Blk w b 26 (stpA s v)) (hok:GrpOk s.P s.Q s.G q) (hg:groupN q s.G=true) (hx:Wire.I64 x) (hE:Env2 w) :
  Calls Tryz.prog 160 #[.int .i64 x,.pointer (some ⟨b,0,none⟩)] w fun e w'=>e=.returned (.bool (othB q x))∧Kept [] w w':=by
 have e0:w.cell? ⟨b,0,none⟩=some (.int .i64 s.P):=hb.cell 0;have e1:w.cell? ⟨b,1,none⟩=some (.int .i64 s.Q):=hb.cell 1;have e2:w.cell? ⟨b,2,none⟩=some (.int .i64 s.G):=hb.cell 2;have HE:=Lib.hid (element_any s.P s.Q s.G x q w hok hg hx hE)
 unfold othB
 clear hb hok
 by_cases h1:x=1
 ·subst h1
  go_enter Tryz.func160,Tryz.ntmps160
  go_wp2_with fail;go_ret;exact ⟨rfl,Kept.refl _ _⟩
 ·have hne:(x != 1)=true:=by simpa using h1
  have hne':(x==1)=false:=by simpa using h1
  rw [hne'];obtain ⟨t,ht⟩:∃ t,memB q x=t:=⟨_,rfl⟩;rw [ht] at HE ⊢;clear ht hne'
  go_enter Tryz.func160,Tryz.ntmps160
  go_wp2_with (go_at_call 95;refine HE.out.mono ?_;rintro e w1 ⟨rfl,hk⟩);go_ret;exact ⟨rfl,hk⟩
theorem all_take_false {p:Int→Bool} {l:List Int} {k:Nat} (h:k < l.length) (hp:p l[k]=false):l.all p=false:=by
 rw [List.all_eq_false];exact ⟨l[k],List.getElem_mem h,by simp [hp]⟩
theorem all_of {p:Int→Bool} {l:List Int} (h:∀ j (hj:j < l.length),p l[j]=true):l.all p=true:=by
 rw [List.all_eq_true];intro x hx;obtain ⟨j,hj,rfl⟩:=List.mem_iff_getElem.1 hx;exact h j hj
set_option maxRecDepth 100000 in
set_option maxHeartbeats 1600000 in
theorem validSetup_any (v:Value) (s:Stp) (w:World) (h:StpV w v s) (hE:Env2 w):Calls Tryz.prog 84 #[v] w fun e w'=>e=.returned (.bool (setupB s))∧Kept [] w w':=by
 obtain ⟨⟨a,c,rfl,hrow⟩,ip,iq,ig,ib,il⟩:=h;obtain ⟨P,Q,G,bases,blind⟩:=s
 simp only at ip iq ig ib il hrow ⊢
 have hlen:=hrow.form;obtain ⟨_,_,_,hl1,_⟩:=hlen;obtain ⟨W,hW⟩:∃ W,w.alloc (.cells #[.int .i64 P,.int .i64 Q,.int .i64 G,.slice a bases.length c,.int .i64 blind] 26)=W:=⟨_,rfl⟩;have hb:Blk W w.heap.size 26 #[.int .i64 P,.int .i64 Q,.int .i64 G,.slice a bases.length c,.int .i64 blind]:=hW▸Blk.new _ _ _;have hkW:Kept [] w W:=hW▸(Kept.refl _ _).alloc _;have hEW:Env2 W:=hE.kept0 hkW;have HR:=Lib.hid (hrow.kept hkW);have HB:=Lib.hid hb;have K0:Hid (∀ w',Kept [] W w'→w'.cell? ⟨w.heap.size,0,none⟩=some (.int .i64 P)):=Kept.cellOf (hb.cell 0);have K1:Hid (∀ w',Kept [] W w'→w'.cell? ⟨w.heap.size,1,none⟩=some (.int .i64 Q)):=Kept.cellOf (hb.cell 1);have K2:Hid (∀ w',Kept [] W w'→w'.cell? ⟨w.heap.size,2,none⟩=some (.int .i64 G)):=Kept.cellOf (hb.cell 2);have K3:Hid (∀ w',Kept [] W w'→w'.cell? ⟨w.heap.size,3,none⟩=some (.slice a bases.length c)):=Kept.cellOf (hb.cell 3);have K4:Hid (∀ w',Kept [] W w'→w'.cell? ⟨w.heap.size,4,none⟩=some (.int .i64 blind)):=Kept.cellOf (hb.cell 4);have e0:=K0.out W (Kept.refl _ _);have e1:=K1.out W (Kept.refl _ _);have e2:=K2.out W (Kept.refl _ _);have HW:=Lib.hid hW;have hmf:∀ (fn:Fn) (first cap:Array Value) (w:World),(Instr.makeFunc fn first cap).run Tryz.prog w=.ok (.func fn first cap) w:=fun _ _ _ _=>rfl;have VG:=Lib.hid (validGroup_any P Q G W ip iq ig hEW);have IB:=Lib.hid ib;obtain ⟨g,hg⟩:∃ g,groupB P Q G=g:=⟨_,rfl⟩
 unfold setupB
 simp only
 rw [hg] at VG ⊢;have HG:=Lib.hid hg;clear hb hW hrow ib hg
 cases g
 ·rw [Bool.false_and]
  go_enter Tryz.func84,Tryz.ntmps84
  go_wp2_with fail;rw [HW.out];go_wp2_with (go_at_call 159;with_reducible refine VG.out.mono ?_);rintro e w1 ⟨rfl,k1⟩;go_wp2_with fail;go_ret;exact ⟨rfl,hkW.trans k1⟩
 rw [Bool.true_and]
 by_cases c1:bases.length < 2
 ·rw [decide_eq_false (show ¬ 2≤bases.length by omega),Bool.false_and]
  have d1:decide ((bases.length:Int) < 2)=true:=by simp;omega
  go_enter Tryz.func84,Tryz.ntmps84
  go_wp2_with fail;rw [HW.out];go_wp2_with (go_at_call 159;with_reducible refine VG.out.mono ?_);rintro e w1 ⟨rfl,k1⟩;clear e0 e1 e2;have e3:=K3.out w1 k1;go_wp2_with fail;go_ret;exact ⟨rfl,hkW.trans k1⟩
 have d1:decide ((bases.length:Int) < 2)=false:=by simp;omega
 rw [decide_eq_true (show 2≤bases.length by omega),Bool.true_and]
 by_cases c2:7 < bases.length
 ·rw [decide_eq_false (show ¬ bases.length≤7 by omega),Bool.false_and]
  have d2:decide ((7:Int) < (bases.length:Int))=true:=by simp;omega
  go_enter Tryz.func84,Tryz.ntmps84
  go_wp2_with fail;rw [HW.out];go_wp2_with (go_at_call 159;with_reducible refine VG.out.mono ?_);rintro e w1 ⟨rfl,k1⟩;clear e0 e1 e2;have e3:=K3.out w1 k1;go_wp2_with fail;go_ret;exact ⟨rfl,hkW.trans k1⟩
 have d2:decide ((7:Int) < (bases.length:Int))=false:=by simp;omega
 rw [decide_eq_true (show bases.length≤7 by omega),Bool.true_and];obtain ⟨q,hok,hgn⟩:=groupB_ok HG.out
 have hqt:Q.toNat=q:=by have:=hok.hQ;omega
 rw [hqt]
 have CL:Hid (∀ w' x,Kept [] W w'→Wire.I64 x→Calls Tryz.prog 160 #[.int .i64 x,.pointer (some ⟨w.heap.size,0,none⟩)] w' fun e w2=>e=.returned (.bool (othB q x))∧Kept [] w' w2) :=
  fun w' x k hx=>clo_oth x _ _ ⟨P,Q,G,bases,blind⟩ q w' (HB.out.kept k (by simp)) hok hgn hx (hEW.kept0 k)
 obtain ⟨R,hR⟩:∃ R,(bases.all (othB q)&&othB q blind)=R:=⟨_,rfl⟩;rw [hR];have HRR:=Lib.hid hR;clear hR hok hqt
 go_enter Tryz.func84,Tryz.ntmps84
 go_wp2_with fail;rw [HW.out];go_wp2_with (go_at_call 159;with_reducible refine VG.out.mono ?_);rintro e w1 ⟨rfl,k1⟩;clear e0 e1 e2;have e3:=K3.out w1 k1;go_wp2_with fail;clear e3
 go_loopw [5,26] (fun _ i wr=>∃ k:Nat,k≤bases.length∧i=.int .i64 k∧(∀ j (hj:j < bases.length),j < k→othB q bases[j]=true)∧Kept [] W wr) (fun _ i _=>bases.length - (intOf i).toNat)
 case atStart=>exact ⟨0,Nat.zero_le _,rfl,fun j _ hj=>by omega,k1⟩
 case round =>
  obtain ⟨k,hk,rfl,hm,hkr⟩:=hrel;have HM:=Lib.hid hm;clear hm
  by_cases hlt:k < bases.length
  ·obtain ⟨ba,oa,rfl,hca⟩:=(HR.out.kept hkr).at_ (by omega);have xa:=hca k _ (ints_get hlt);have HC:=Lib.hid (CL.out wr bases[k] hkr (IB.out _ (List.getElem_mem hlt)));obtain ⟨t,ht⟩:∃ t,othB q bases[k]=t:=⟨_,rfl⟩;rw [ht] at HC;have HT:=Lib.hid ht;clear hca ht
   cases t
   ·have hR:=HRR.out;rw [all_take_false hlt HT.out,Bool.false_and] at hR;subst hR;go_wp2_with (go_at_call 160;refine HC.out.mono ?_;rintro e w2 ⟨rfl,hk2⟩);go_ret;exact ⟨rfl,hkW.trans (hkr.trans hk2)⟩
   ·go_wp2_with (go_at_call 160;refine HC.out.mono ?_;rintro e w2 ⟨rfl,hk2⟩)
    go_roundw
    case rel=>exact ⟨k+1,by omega,by go_num,fun j hj hjk=>by
     rcases Nat.lt_or_ge j k with h|h
     ·exact HM.out j hj h
     ·obtain rfl:j=k:=by omega
      exact HT.out,hkr.trans hk2⟩
    case measure=>simp [intOf];omega
  ·obtain rfl:k=bases.length:=by omega
   have e4:=K4.out wr hkr;have hR:=HRR.out;rw [all_of (fun j hj=>HM.out j hj hj),Bool.true_and] at hR;have hcl:=CL.out wr blind hkr il;rw [hR] at hcl;have HC:=Lib.hid hcl;clear hR hcl;go_wp2_with (go_at_call 160;refine HC.out.mono ?_;rintro e w2 ⟨rfl,hk2⟩);go_ret;exact ⟨rfl,hkW.trans (hkr.trans hk2)⟩
end Go.Proofs.YtpcdfepndmconaaGreatDoor
/- The reference's primality test and groups: bases, passes, Prime, ValidGroup, Member, Power. -/
namespace Go.Proofs.YtpcdfepndmconaaGreatDoor
open Go.RowKit
set_option maxRecDepth 100000 in
theorem bases_any (w:World):Calls Tryz.prog 202 #[] w fun e w'=>e=.returned (.slice (some ⟨w.heap.size,0,none⟩) 12 12)∧w'=w.alloc (.cells smallV 3):=by
 go_enter Tryz.func202,Tryz.ntmps202
 go_wp2_with fail;go_ret;exact ⟨rfl,rfl⟩
theorem res_small {N b:Nat} (h:b < N):res N (b:Int)=b:=by
 unfold res
 rw [Int.emod_eq_of_lt (by omega) (by omega)];omega
set_option maxRecDepth 100000 in
set_option maxHeartbeats 1600000 in
theorem rpasses_any (N b:Nat) (w:World) (h1:2≤N) (h2:N < 2305843009213693952) (hb:b < N) :
  Calls Tryz.prog 203 #[.int .i64 N,.int .i64 b] w fun e w'=>e=.returned (.bool (Prm.passes N b))∧w=w':=by
 obtain ⟨m,rfl⟩:∃ m,N=m+1:=⟨N - 1,by omega⟩;obtain ⟨B,hB⟩:∃ B,Prm.passes (m+1) b=B:=⟨_,rfl⟩;rw [hB];have HB:=Lib.hid hB;rw [Int.natCast_add,Int.natCast_one];clear hB
 go_enter Tryz.func203,Tryz.ntmps203
 go_wp2_with fail
 go_loop [5,6] (fun vd vk=>∃ d k:Nat,vd=.int .i64 d∧vk=.int .i64 k∧1≤d∧d+k≤m∧m=d*2 ^ k) (fun vd _=>(intOf vd).toNat)
 case atStart=>exact ⟨m,0,rfl,rfl,by omega,by omega,by simp⟩
 case round =>
  obtain ⟨d,k,rfl,rfl,hd1,hdk,hm⟩:=hrel
  rcases Nat.mod_two_eq_zero_or_one d with h2'|h2'
  ·have hand:(d:Int) % 2=0:=by omega
   have hn:m=(d / 2)*2 ^ (k+1):=by
    rw [hm,Nat.pow_succ,Nat.mul_comm (2 ^ k) 2,←Nat.mul_assoc]
    congr 1
    omega
   have HN:=Lib.hid hn;clear hn hm;go_wp2_with fail
   go_round
   case rel=>exact ⟨d / 2,k+1,rfl,by go_num,by omega,by omega,HN.out⟩
   case measure=>simp [intOf];omega
  ·have hand:(d:Int) % 2=1:=by omega
   obtain ⟨c1,c2⟩:=Prm.ctz_eq (show 0 < m by omega) (by omega) hm h2';have hB:=HB.out
   unfold Prm.passes at hB
   rw [Nat.add_sub_cancel,c2,c1] at hB;have pw:=rpower_any (m+1) b d w h1 h2 ⟨by omega,by omega⟩ (by omega)
   unfold powN at pw
   rw [res_small hb] at pw;have lx:b ^ d % (m+1) < m+1:=Nat.mod_lt _ (by omega);obtain ⟨x0,hx0⟩:∃ x,b ^ d % (m+1)=x:=⟨_,rfl⟩;rw [hx0] at pw lx hB;rw [Int.natCast_add,Int.natCast_one] at pw;have PW:=Lib.hid pw;have HBB:=Lib.hid hB
   have hk63:k < 9223372036854775808:=by omega
   clear hm hB c1 c2 pw hx0
   by_cases h11:x0=1
   ·subst h11;go_wp2_with (go_at_call 171;refine PW.out.mono ?_;rintro e w1 ⟨rfl,rfl⟩);go_ret;exact ⟨by rw [←HBB.out];simp,rfl⟩
   ·have hd1:((x0:Int)==1)=false:=by simp;omega
    have hG:Prm.goes (m+1) x0 k=B:=by
     have:=HBB.out;rw [show (x0==1)=false by simpa using h11] at this
     simpa using this
    have HG:=Lib.hid hG;clear hG;go_wp2_with (go_at_call 171;refine PW.out.mono ?_;rintro e w1 ⟨rfl,rfl⟩)
    go_loop [7,8] (fun vx vi=>∃ i x:Nat,i≤k∧vi=.int .i64 i∧vx=.int .i64 x∧x < m+1∧Prm.goes (m+1) x (k - i)=B) (fun _ vi=>k - (intOf vi).toNat)
    case atStart=>exact ⟨0,x0,by omega,rfl,rfl,lx,HG.out⟩
    case round =>
     obtain ⟨i,x,hi,rfl,rfl,hx,hr⟩:=hrel
     by_cases hlt:i < k
     ·obtain ⟨j,hj⟩:∃ j,k - i=j+1:=⟨k - i - 1,by omega⟩;rw [hj] at hr
      by_cases he:x=m
      ·subst he;rw [goes_hit (by omega)] at hr;subst hr;go_wp2_with fail;go_ret;exact ⟨rfl,rfl⟩
      ·have hd:((x:Int)==(m:Int))=false:=by simp;omega
       rw [goes_step (by omega)] at hr;have ps:=rmul_any (m+1) x x w (by omega) h2 ⟨by omega,by omega⟩ ⟨by omega,by omega⟩
       unfold mulN at ps
       rw [res_small hx] at ps;have lz:x*x % (m+1) < m+1:=Nat.mod_lt _ (by omega);obtain ⟨z,hz⟩:∃ z,x*x % (m+1)=z:=⟨_,rfl⟩;rw [hz] at ps lz hr;rw [Int.natCast_add,Int.natCast_one] at ps;have PS:=Lib.hid ps;have HR:=Lib.hid hr;clear hr hz ps;go_wp2_with (go_at_call 82;refine PS.out.mono ?_;rintro e w2 ⟨rfl,rfl⟩)
       go_round
       case rel=>exact ⟨i+1,z,by omega,by go_num,rfl,lz,by rw [show k - (i+1)=j by omega];exact HR.out⟩
       case measure=>simp [intOf];omega
     ·obtain rfl:i=k:=by omega
      rw [Nat.sub_self] at hr;have hr':false=B:=hr;subst hr';go_wp2_with fail;go_ret;exact ⟨rfl,rfl⟩
theorem small_cell {w:World} {b:Nat} (h:Blk w b 3 smallV) (k:Nat) (hk:k < 12):w.cell? ⟨b,k,none⟩=some (.int .i64 (Prm.at_ k)):=by
 rw [h.cell k]
 rcases (by omega:k=0∨k=1∨k=2∨k=3∨k=4∨k=5∨k=6∨k=7∨k=8∨k=9∨k=10∨k=11) with rfl|rfl|rfl|rfl|rfl|rfl|rfl|rfl|rfl|rfl|rfl|rfl <;> rfl
set_option maxRecDepth 100000 in
set_option maxHeartbeats 1600000 in
theorem rprime_any (N:Nat) (w:World) (h1:2≤N) (h2:N < 2305843009213693952) :
  Calls Tryz.prog 173 #[.int .i64 N] w fun e w'=>e=.returned (.bool (Prm.primeN N))∧Kept [] w w':=by
 obtain ⟨W,hW⟩:∃ W,w.alloc (.cells smallV 3)=W:=⟨_,rfl⟩;have hbk:Blk W w.heap.size 3 smallV:=hW▸Blk.new _ _ _;have hkW:Kept [] w W:=hW▸(Kept.refl _ _).alloc _;have BK:=Lib.hid hbk;have BA:=Lib.hid (bases_any w);rw [hW] at BA;obtain ⟨B,hB⟩:∃ B,Prm.primeN N=B:=⟨_,rfl⟩;rw [hB];have HB:=Lib.hid hB;clear hB hW hbk
 go_enter Tryz.func173,Tryz.ntmps173
 go_wp2_with (go_at_call 202;refine BA.out.mono ?_;rintro e w1 ⟨rfl,hw⟩;obtain rfl:=hw.symm;clear hw)
 go_loop [4] (fun i=>∃ k:Nat,k≤12∧i=.int .i64 k∧∀ j,j < k→Prm.hits N j=false) (fun i=>12 - (intOf i).toNat)
 case atStart=>exact ⟨0,by omega,rfl,fun j hj=>by omega⟩
 case round =>
  obtain ⟨k,hk,rfl,hm⟩:=hrel;have HM:=Lib.hid hm;clear hm
  by_cases hlt:k < 12
  ·have ik:=small_cell BK.out k hlt;obtain ⟨p1,p2⟩:=Prm.at_lt hlt;have hits:Prm.hits N k=decide (N % Prm.at_ k=0):=rfl;obtain ⟨p,hp⟩:∃ p,Prm.at_ k=p:=⟨_,rfl⟩;have HP:=Lib.hid hp;rw [hp] at ik p1 p2 hits
   have hpz:¬ (p:Int)=0:=by omega
   clear hp
   by_cases hh:N % p=0
   ·have hd:((N:Int) % (p:Int)==0)=true:=by simp;omega
    have hB:=HB.out;rw [Prm.primeN_hit hlt HM.out (by rw [hits];simpa using hh),HP.out] at hB;have HBB:=Lib.hid hB;clear hB hits;go_wp2_with fail;go_ret;exact ⟨by rw [←HBB.out,←beq_cast];rfl,hkW⟩
   ·have hd:((N:Int) % (p:Int)==0)=false:=by simp;omega
    have hno:Prm.hits N k=false:=by rw [hits];simpa using hh
    have HN:=Lib.hid hno;clear hno hits;go_wp2_with fail
    go_round
    case rel=>exact ⟨k+1,by omega,by go_num,fun j hj=>by
     rcases Nat.lt_or_ge j k with h|h
     ·exact HM.out j h
     ·obtain rfl:j=k:=by omega
      exact HN.out⟩
    case measure=>simp [intOf];omega
  ·obtain rfl:k=12:=by omega
   have h37:=Prm.no_hits HM.out h1;go_wp2_with fail
   go_loop [5] (fun i=>∃ k:Nat,k≤12∧i=.int .i64 k∧(∀ j,j < k→Prm.passes N (Prm.at_ j)=true)) (fun i=>12 - (intOf i).toNat)
   case atStart=>exact ⟨0,by omega,rfl,fun j hj=>by omega⟩
   case round =>
    obtain ⟨k,hk,rfl,hm⟩:=hrel;have HQ:=Lib.hid hm;clear hm
    by_cases hlt:k < 12
    ·have ik:=small_cell BK.out k hlt;obtain ⟨p1,p2⟩:=Prm.at_lt hlt;have WT:=Lib.hid (rpasses_any N (Prm.at_ k) W h1 h2 (by omega));have AB:=Lib.hid (fun h=>Prm.primeN_bad (n:=N) (k:=k) HM.out hlt h)
     have AG:Hid (Prm.passes N (Prm.at_ k)=true→∀ j,j < k+1→Prm.passes N (Prm.at_ j)=true):=fun h j hj=>by
      rcases Nat.lt_or_ge j k with h'|h'
      ·exact HQ.out j h'
      ·obtain rfl:j=k:=by omega
       exact h
     obtain ⟨t,ht⟩:∃ t,Prm.passes N (Prm.at_ k)=t:=⟨_,rfl⟩;rw [ht] at WT AB AG;obtain ⟨p,hp⟩:∃ p,Prm.at_ k=p:=⟨_,rfl⟩;rw [hp] at ik p1 p2 WT;clear hp ht
     cases t
     ·have hB:=HB.out;rw [AB.out rfl] at hB;have HBB:=Lib.hid hB;clear hB;go_wp2_with (go_at_call 203;refine WT.out.mono ?_;rintro e w2 ⟨rfl,rfl⟩);go_ret;exact ⟨by rw [←HBB.out];rfl,hkW⟩
     ·go_wp2_with (go_at_call 203;refine WT.out.mono ?_;rintro e w2 ⟨rfl,rfl⟩)
      go_round
      case rel=>exact ⟨k+1,by omega,by go_num,AG.out (by first|trivial|rfl)⟩
      case measure=>simp [intOf];omega
    ·obtain rfl:k=12:=by omega
     have hB:=HB.out;rw [Prm.primeN_all HM.out HQ.out] at hB;have HBB:=Lib.hid hB;clear hB;go_wp2_with fail;go_ret;exact ⟨by rw [←HBB.out];rfl,hkW⟩
end Go.Proofs.YtpcdfepndmconaaGreatDoor
namespace Go.Proofs.YtpcdfepndmconaaGreatDoor
open Go.RowKit
set_option maxRecDepth 100000 in
set_option maxHeartbeats 2000000 in
theorem rvalidGroup_any (P Q G:Int) (w:World) (hP:Wire.I64 P) (hQ:Wire.I64 Q) (hG:Wire.I64 G) :
  Calls Tryz.prog 165 #[.agg (grpV P Q G)] w fun e w'=>e=.returned (.bool (groupB P Q G))∧Kept [] w w':=by
 obtain ⟨P1,P2⟩:=hP;obtain ⟨Q1,Q2⟩:=hQ;obtain ⟨G1,G2⟩:=hG;obtain ⟨W,hW⟩:∃ W,w.alloc (.cells (grpV P Q G) 23)=W:=⟨_,rfl⟩;have hb:Blk W w.heap.size 23 (grpV P Q G):=hW▸Blk.new _ _ _;have hkW:Kept [] w W:=hW▸(Kept.refl _ _).alloc _;have K0:Hid (∀ w',Kept [] W w'→w'.cell? ⟨w.heap.size,0,none⟩=some (.int .i64 P)):=Kept.cellOf (hb.cell 0);have K1:Hid (∀ w',Kept [] W w'→w'.cell? ⟨w.heap.size,1,none⟩=some (.int .i64 Q)):=Kept.cellOf (hb.cell 1);have K2:Hid (∀ w',Kept [] W w'→w'.cell? ⟨w.heap.size,2,none⟩=some (.int .i64 G)):=Kept.cellOf (hb.cell 2);have e0:=K0.out W (Kept.refl _ _);have e1:=K1.out W (Kept.refl _ _);have e2:=K2.out W (Kept.refl _ _);have HW:=Lib.hid hW;clear hW hb
 by_cases c1:Q < 5
 ·have r:groupB P Q G=false:=by unfold groupB;rw [decide_eq_false (by omega)];rfl
  rw [r];have d1:decide (Q < 5)=true:=decide_eq_true c1
  go_enter Tryz.func165,Tryz.ntmps165
  go_wp2_with fail;rw [HW.out];go_wp2_with fail;go_ret;exact ⟨rfl,hkW⟩
 have d1:decide (Q < 5)=false:=decide_eq_false c1
 by_cases c2:1152921504606846976≤Q
 ·have r:groupB P Q G=false:=by unfold groupB;rw [decide_eq_false (show ¬ Q < 1152921504606846976 by omega)];simp
  rw [r];have d2:decide (1152921504606846976≤Q)=true:=decide_eq_true c2
  go_enter Tryz.func165,Tryz.ntmps165
  go_wp2_with fail;rw [HW.out];go_wp2_with fail;go_ret;exact ⟨rfl,hkW⟩
 have d2:decide (1152921504606846976≤Q)=false:=decide_eq_false c2
 by_cases c3:P=2*Q+1
 case neg =>
  have r:groupB P Q G=false:=by unfold groupB;rw [decide_eq_false c3];simp
  rw [r]
  have d3:(P != 2*Q+1)=true:=by simpa using c3
  go_enter Tryz.func165,Tryz.ntmps165
  go_wp2_with fail;rw [HW.out];go_wp2_with fail;go_ret;exact ⟨rfl,hkW⟩
 have d3:(P != 2*Q+1)=false:=by simpa using c3
 have d3b:decide (2305843009213693952≤P)=false:=decide_eq_false (by omega)
 by_cases c4:G < 2
 ·have r:groupB P Q G=false:=by unfold groupB;rw [decide_eq_false (show ¬ 2≤G by omega)];simp
  rw [r];have d4:decide (G < 2)=true:=decide_eq_true c4;have D3:=Lib.hid c3;clear c3
  go_enter Tryz.func165,Tryz.ntmps165
  go_wp2_with fail;rw [HW.out];go_wp2_with fail;go_ret;exact ⟨rfl,hkW⟩
 have d4:decide (G < 2)=false:=decide_eq_false c4
 by_cases c5:P≤G
 ·have r:groupB P Q G=false:=by unfold groupB;rw [decide_eq_false (show ¬ G < P by omega)];simp
  rw [r];have d5:decide (P≤G)=true:=decide_eq_true c5;have D3:=Lib.hid c3;clear c3
  go_enter Tryz.func165,Tryz.ntmps165
  go_wp2_with fail;rw [HW.out];go_wp2_with fail;go_ret;exact ⟨rfl,hkW⟩
 have d5:decide (P≤G)=false:=decide_eq_false c5;obtain ⟨q,hq⟩:∃ q:Nat,Q=q:=⟨Q.toNat,by omega⟩;have hok:GrpOk P Q G q:=⟨hq,by omega,by omega,by omega,by omega,by omega⟩;rw [hok.eq]
 unfold groupN
 have PQ:Hid (∀ w',Kept [] W w'→Calls Tryz.prog 173 #[.int .i64 q] w' fun e w''=>e=.returned (.bool (Prm.primeN q))∧Kept [] w' w''):=fun w' _=>rprime_any q w' (by omega) (by omega)
 have PP:Hid (∀ w',Kept [] W w'→Calls Tryz.prog 173 #[.int .i64 P] w' fun e w''=>e=.returned (.bool (Prm.primeN (2*q+1)))∧Kept [] w' w''):=fun w' _=>by
  rw [hok.hP];exact rprime_any (2*q+1) w' (by omega) (by omega)
 have PW:Hid (∀ w',Calls Tryz.prog 171 #[.int .i64 P,.int .i64 G,.int .i64 q] w' fun e w''=>e=.returned (.int .i64 ((powN (2*q+1) G q:Nat):Int))∧w'=w''):=fun w'=>by
  rw [hok.hP];exact rpower_any (2*q+1) G q w' (by omega) (by omega) ⟨by omega,by omega⟩ (by omega)
 obtain ⟨a,ha⟩:∃ a,Prm.primeN q=a:=⟨_,rfl⟩;obtain ⟨b,hb⟩:∃ b,Prm.primeN (2*q+1)=b:=⟨_,rfl⟩;obtain ⟨c,hc⟩:∃ c,powN (2*q+1) G q=c:=⟨_,rfl⟩;rw [ha] at PQ ⊢;rw [hb] at PP ⊢;rw [hc] at PW ⊢;have D3:=Lib.hid c3;have HOK:=Lib.hid hok;subst hq;clear c3 hok ha hb hc;have hb1:((c:Int)==1)=(c==1):=beq_cast c 1
 cases a
 ·go_enter Tryz.func165,Tryz.ntmps165
  go_wp2_with fail;rw [HW.out];go_wp2_with (go_at_call 173;with_reducible refine (PQ.out W (Kept.refl _ _)).mono ?_);rintro e w1 ⟨rfl,k1⟩;go_wp2_with fail;go_ret;exact ⟨rfl,hkW.trans k1⟩
 ·go_enter Tryz.func165,Tryz.ntmps165
  go_wp2_with fail;rw [HW.out];go_wp2_with (go_at_call 173;with_reducible refine (PQ.out W (Kept.refl _ _)).mono ?_);rintro e w1 ⟨rfl,k1⟩;clear e0 e1 e2;have e0:=K0.out w1 k1;have e1:=K1.out w1 k1;have e2:=K2.out w1 k1;go_wp2_with (go_at_call 173;with_reducible refine (PP.out w1 k1).mono ?_);rintro e w2 ⟨rfl,k2⟩;replace k2:=k1.trans k2;clear e0 e1 e2;have e0:=K0.out w2 k2;have e1:=K1.out w2 k2;have e2:=K2.out w2 k2
  cases b
  ·go_wp2_with fail;go_ret;exact ⟨rfl,hkW.trans k2⟩
  ·go_wp2_with (go_at_call 171;((with_reducible refine (PW.out w2).mono ?_);rintro e w3 ⟨rfl,rfl⟩));go_ret;exact ⟨by rw [←hb1];simp,hkW.trans k2⟩
set_option maxRecDepth 100000 in
set_option maxHeartbeats 2000000 in
theorem rmember_any (P Q G x:Int) (q:Nat) (w:World) (hok:GrpOk P Q G q) (hx:Wire.I64 x) :
  Calls Tryz.prog 170 #[.agg (grpV P Q G),.int .i64 x] w fun e w'=>e=.returned (.bool (memB q x))∧Kept [] w w':=by
 obtain ⟨X1,X2⟩:=hx;have hqq:=hok.hq;have hq5:=hok.h5;have hPp:=hok.hP;obtain ⟨W,hW⟩:∃ W,w.alloc (.cells (grpV P Q G) 23)=W:=⟨_,rfl⟩;have hb:Blk W w.heap.size 23 (grpV P Q G):=hW▸Blk.new _ _ _;have hkW:Kept [] w W:=hW▸(Kept.refl _ _).alloc _;have e0:W.cell? ⟨w.heap.size,0,none⟩=some (.int .i64 P):=hb.cell 0;have e1:W.cell? ⟨w.heap.size,1,none⟩=some (.int .i64 Q):=hb.cell 1;have HW:=Lib.hid hW
 have pw:Calls Tryz.prog 171 #[.int .i64 P,.int .i64 x,.int .i64 Q] W fun e w''=>e=.returned (.int .i64 ((powN (2*q+1) x q:Nat):Int))∧W=w'':=by
  rw [hok.hP,hok.hQ];exact rpower_any (2*q+1) x q W (by omega) (by omega) ⟨by omega,by omega⟩ (by omega)
 have PW:=Lib.hid pw;clear hW hb pw
 by_cases c1:1≤x
 case neg =>
  have r:memB q x=false:=by unfold memB;rw [decide_eq_false c1];rfl
  rw [r];have d1:decide (1≤x)=false:=decide_eq_false c1;clear hPp
  go_enter Tryz.func170,Tryz.ntmps170
  go_wp2_with fail;rw [HW.out];go_wp2_with fail;go_ret;exact ⟨rfl,hkW⟩
 have d1:decide (1≤x)=true:=decide_eq_true c1
 by_cases c2:x < P
 case neg =>
  have r:memB q x=false:=by unfold memB;rw [decide_eq_false (show ¬ x < ((2*q+1:Nat):Int) by omega)];simp
  rw [r];have d2:decide (x < P)=false:=decide_eq_false c2;clear hPp
  go_enter Tryz.func170,Tryz.ntmps170
  go_wp2_with fail;rw [HW.out];go_wp2_with fail;go_ret;exact ⟨rfl,hkW⟩
 have d2:decide (x < P)=true:=decide_eq_true c2
 have r:memB q x=(powN (2*q+1) x q==1):=by unfold memB;rw [decide_eq_true c1,decide_eq_true (show x < ((2*q+1:Nat):Int) by omega)];simp
 rw [r];obtain ⟨c,hc⟩:∃ c,powN (2*q+1) x q=c:=⟨_,rfl⟩;rw [hc] at PW ⊢;have hb1:((c:Int)==1)=(c==1):=beq_cast c 1;clear hPp hc r
 go_enter Tryz.func170,Tryz.ntmps170
 go_wp2_with fail;rw [HW.out];go_wp2_with (go_at_call 171;((with_reducible refine PW.out.mono ?_);rintro e w3 ⟨rfl,rfl⟩));go_ret;exact ⟨by rw [←hb1];simp,hkW⟩
set_option maxRecDepth 100000 in
set_option maxHeartbeats 1000000 in
theorem rpower_grp (P Q G x k:Int) (q:Nat) (w:World) (hok:GrpOk P Q G q) (hx:Wire.I64 x) (hk:Wire.I64 k) :
  Calls Tryz.prog 102 #[.agg (grpV P Q G),.int .i64 x,.int .i64 k] w fun e w'=>e=.returned (.int .i64 ((pwrN q x k:Nat):Int))∧Kept [] w w':=by
 have hqq:=hok.hq;have hq5:=hok.h5;have hPp:=hok.hP;have hQp:=hok.hQ;obtain ⟨p,hp⟩:∃ p,2*q+1=p:=⟨_,rfl⟩
 unfold pwrN
 rw [hp] at hPp ⊢
 have hp2:2≤p:=by omega
 have hp3:p < 2305843009213693952:=by omega
 subst hPp hQp;obtain ⟨W,hW⟩:∃ W,w.alloc (.cells (grpV p q G) 23)=W:=⟨_,rfl⟩;have hb:Blk W w.heap.size 23 (grpV p q G):=hW▸Blk.new _ _ _;have hkW:Kept [] w W:=hW▸(Kept.refl _ _).alloc _;have k0:∀ w',Kept [] W w'→w'.cell? ⟨w.heap.size,0,none⟩=some (.int .i64 p):=Kept.cellOf (hb.cell 0);have k1:∀ w',Kept [] W w'→w'.cell? ⟨w.heap.size,1,none⟩=some (.int .i64 q):=Kept.cellOf (hb.cell 1);have e0:=k0 W (Kept.refl _ _);have e1:=k1 W (Kept.refl _ _);have HW:=Lib.hid hW;have V1:=Lib.hid (rvalid_any p W (by omega) (by omega));have V2:=Lib.hid (rvalid_any q W (by omega) (by omega));have l2:=res_lt q k (by omega);obtain ⟨K,hK⟩:∃ K,res q k=K:=⟨_,rfl⟩
 have R2:Hid (∀ w,Calls Tryz.prog 158 #[.int .i64 q,.int .i64 k] w fun e w'=>e=.returned (.int .i64 ((K:Nat):Int))∧w=w'):=fun w=>by
  have:=rresidue_any q k w (by omega) (by omega) hk
  rwa [hK] at this
 rw [hK] at l2 ⊢;have q4:res p x ^ K % p < p:=Nat.mod_lt _ (by omega);obtain ⟨r,hr⟩:∃ r,res p x ^ K % p=r:=⟨_,rfl⟩
 have HP:Hid (∀ w,Calls Tryz.prog 171 #[.int .i64 p,.int .i64 x,.int .i64 K] w fun e w'=>e=.returned (.int .i64 ((r:Nat):Int))∧w=w'):=fun w=>by
  have:=rpower_any p x K w (by omega) (by omega) hx (by omega)
  unfold powN at this
  rwa [hr] at this
 rw [hr] at q4 ⊢;clear hW hK hr hp hok
 go_enter Tryz.func102,Tryz.ntmps102
 go_wp2_with fail;rw [HW.out]
 go_wp2_with (first
  | (go_at_call 157;((with_reducible refine V1.out.mono ?_);rintro e w' ⟨rfl,rfl⟩))
  | (go_at_call 157;((with_reducible refine V2.out.mono ?_);rintro e w' ⟨rfl,rfl⟩)))
 clear e0 e1
 go_region_held3 (fun w'=>Kept [] W w') (first|assumption|exact (Kept.refl _ _).drew|exact Kept.alloc (by assumption) _)
  (first
   | (go_at_call 158;with_reducible refine (kept_from (W:=W) (by assumption) ((R2.out _).mono fun _ _ h=>⟨h.1,h.2▸Kept.refl _ _⟩)).mono ?_;rintro e w2 ⟨rfl,hk2⟩)
   | (go_at_call 171;with_reducible refine (kept_from (W:=W) (by assumption) ((HP.out _).mono fun _ _ h=>⟨h.1,h.2▸Kept.refl _ _⟩)).mono ?_;rintro e w3 ⟨rfl,hk3⟩))
 go_wp2;go_ret;exact ⟨rfl,hkW.trans hk3⟩
end Go.Proofs.YtpcdfepndmconaaGreatDoor
