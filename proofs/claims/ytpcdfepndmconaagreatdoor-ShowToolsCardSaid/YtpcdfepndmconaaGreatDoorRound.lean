/- A region that draws its order, in a round of a range over a function: walked as elsewhere. -/
import Derived.Test.YtpcdfepndmconaaGreatDoorExr
import Derived.Test.YtpcdfepndmconaaGreatDoorZop
import Derived.Test.YtpcdfepndmconaaGreatDoorSg1
import Derived.Lib.AppendZerosOnto
import Derived.Test.YtpcdfepndmconaaGreatDoorEnv
import Derived.RangeFuncBox
import Derived.RangeFuncLeaves
import Derived.RangeFuncCalls
import Derived.RangeFuncWrites
import Derived.Shelf.Abstract
import Derived.WalkKit
import Derived.OwnWalkIn
import Derived.TacticsInMore
import Derived.LoopNIn
import Derived.LoopIn
import Derived.OrdersHeld
import Derived.OrdersIn
/- JOINED: Cmt Chr Fld4 Set1 Cat Round -/
/- Commitments: the program's and the reference's. -/
namespace Go.Proofs.YtpcdfepndmconaaGreatDoor
open Go.RowKit
theorem res_nat {N x:Nat} (h:x < N):res N (x:Int)=x:=by
 have:=res_eq N (x:Int) (by omega);rw [Int.emod_eq_of_lt (by omega) (by omega)] at this;omega
theorem mul_one (N x:Nat) (h1:2≤N) (h:x < N):mulN N ((1:Nat):Int) (x:Int)=x:=by
 unfold mulN
 rw [res_nat (by omega),res_nat h,Nat.one_mul,Nat.mod_eq_of_lt h]
/-- a commitment in a group -/
def cmtQ (q:Nat) (g b v r:Int):Nat:=mulN (2*q+1) ((pwrN q g v:Nat):Int) ((pwrN q b r:Nat):Int)
theorem prod2 (q:Nat) (g b v r:Int) (h:1≤q):prodQ q [g,b] [v,r]=cmtQ q g b v r:=by
 unfold prodQ cmtQ
 simp only [List.zip_cons_cons,List.zip_nil_left,List.foldl_cons,List.foldl_nil,stepQ];rw [mul_one _ _ (by omega) (pwrQ_lt q g v)]
set_option maxRecDepth 100000 in
set_option maxHeartbeats 400000 in
theorem rtimes_grp (P Q G a b:Int) (q:Nat) (w:World) (hok:GrpOk P Q G q) (ha:Wire.I64 a) (hb:Wire.I64 b) :
  Calls Tryz.prog 101 #[.agg (grpV P Q G),.int .i64 a,.int .i64 b] w fun e w'=>e=.returned (.int .i64 ((mulN (2*q+1) a b:Nat):Int))∧Kept [] w w':=by
 have hqq:=hok.hq;have hq5:=hok.h5;obtain ⟨W,hW⟩:∃ W,w.alloc (.cells (grpV P Q G) 23)=W:=⟨_,rfl⟩;have hbk:Blk W w.heap.size 23 (grpV P Q G):=hW▸Blk.new _ _ _;have hkW:Kept [] w W:=hW▸(Kept.refl _ _).alloc _;have e0:W.cell? ⟨w.heap.size,0,none⟩=some (.int .i64 P):=hbk.cell 0;have e1:W.cell? ⟨w.heap.size,1,none⟩=some (.int .i64 Q):=hbk.cell 1;have HW:=Lib.hid hW
 have V:Hid (Calls Tryz.prog 157 #[.int .i64 Q] W fun e w'=>e=.returned (.bool true)∧W=w'):=by
  rw [hok.hQ];exact rvalid_any q W (by omega) (by omega)
 have M:Hid (Calls Tryz.prog 82 #[.int .i64 P,.int .i64 a,.int .i64 b] W fun e w'=>e=.returned (.int .i64 ((mulN (2*q+1) a b:Nat):Int))∧W=w'):=by
  rw [hok.hP];exact rmul_any (2*q+1) a b W (by omega) (by omega) ha hb
 clear hbk hW hok
 go_enter Tryz.func101,Tryz.ntmps101
 go_wp2_with fail;rw [HW.out]
 go_wp2_with (first
  | (go_at_call 157;refine V.out.mono ?_;rintro e w' ⟨rfl,rfl⟩)
  | (go_at_call 82;refine M.out.mono ?_;rintro e w' ⟨rfl,rfl⟩))
 go_ret;exact ⟨rfl,hkW⟩
set_option maxRecDepth 100000 in
set_option maxHeartbeats 1000000 in
theorem commit_any (s:Stp) (q:Nat) (sv:Value) (v r:Int) (w:World) (h:StpV w sv s) (hB:setupB s=true) (hok:GrpOk s.P s.Q s.G q) (hv:Wire.I64 v) (hr:Wire.I64 r) (hE:Env2 w) :
  Calls Tryz.prog 86 #[sv,.int .i64 v,.int .i64 r] w fun e w'=>e=.returned (.int .i64 ((cmtQ q s.G s.blind v r:Nat):Int))∧Kept [] w w':=by
 have h':=h;obtain ⟨⟨a,c,rfl,hrow⟩,ip,iq,ig,ib,il⟩:=h;obtain ⟨W,hW⟩:∃ W,w.alloc (.cells (stpA s (.slice a s.bases.length c)) 26)=W:=⟨_,rfl⟩;have hb:Blk W w.heap.size 26 (stpA s (.slice a s.bases.length c)):=hW▸Blk.new _ _ _;have hkW:Kept [] w W:=hW▸(Kept.refl _ _).alloc _;have vs:=validSetup_any _ s W (h'.kept hkW) (hE.kept0 hkW);rw [hB] at vs;have HV:=Lib.hid vs;have K0:Hid (∀ w',Kept [] W w'→w'.cell? ⟨w.heap.size,0,none⟩=some (.int .i64 s.P)):=Kept.cellOf (hb.cell 0);have K1:Hid (∀ w',Kept [] W w'→w'.cell? ⟨w.heap.size,1,none⟩=some (.int .i64 s.Q)):=Kept.cellOf (hb.cell 1);have K2:Hid (∀ w',Kept [] W w'→w'.cell? ⟨w.heap.size,2,none⟩=some (.int .i64 s.G)):=Kept.cellOf (hb.cell 2);have K3:Hid (∀ w',Kept [] W w'→w'.cell? ⟨w.heap.size,3,none⟩=some (.slice a s.bases.length c)):=Kept.cellOf (hb.cell 3);have K4:Hid (∀ w',Kept [] W w'→w'.cell? ⟨w.heap.size,4,none⟩=some (.int .i64 s.blind)):=Kept.cellOf (hb.cell 4);have e0:=K0.out W (Kept.refl _ _);have e1:=K1.out W (Kept.refl _ _);have e2:=K2.out W (Kept.refl _ _);have e3:=K3.out W (Kept.refl _ _);have e4:=K4.out W (Kept.refl _ _);have HW:Hid (w.alloc (.cells #[.int .i64 s.P,.int .i64 s.Q,.int .i64 s.G,.slice a s.bases.length c,.int .i64 s.blind] 26)=W):=hW
 have hq1:1≤q:=by have:=hok.h5;omega
 have HP:Hid (∀ w',Calls Tryz.prog 97 #[.agg #[.int .i64 s.P,.int .i64 s.Q,.int .i64 s.G],.slice (some ⟨w'.heap.size,0,none⟩) 2 2,.slice (some ⟨w'.heap.size+1,0,none⟩) 2 2]
   ((w'.alloc (.cells #[.int .i64 s.G,.int .i64 s.blind] 3)).alloc (.cells #[.int .i64 v,.int .i64 r] 3)) fun e w2=>e=.returned (.tuple #[.int .i64 ((cmtQ q s.G s.blind v r:Nat):Int),.bool true])∧Kept [] w' w2):=fun w'=>by
  have hk:Kept [] w' ((w'.alloc (.cells #[.int .i64 s.G,.int .i64 s.blind] 3)).alloc (.cells #[.int .i64 v,.int .i64 r] 3)):=((Kept.refl _ _).alloc _).alloc _
  have r1:Row ((w'.alloc (.cells #[.int .i64 s.G,.int .i64 s.blind] 3)).alloc (.cells #[.int .i64 v,.int .i64 r] 3)) 1 (.slice (some ⟨w'.heap.size,0,none⟩) 2 2) [s.G,s.blind].length (ints [s.G,s.blind]) :=
   row_of_blk ((Blk.new w' 3 #[.int .i64 s.G,.int .i64 s.blind]).alloc _) rfl (by decide)
  have r2:Row ((w'.alloc (.cells #[.int .i64 s.G,.int .i64 s.blind] 3)).alloc (.cells #[.int .i64 v,.int .i64 r] 3)) 1 (.slice (some ⟨w'.heap.size+1,0,none⟩) 2 2) [v,r].length (ints [v,r]):=by
   have:=Blk.new (w'.alloc (.cells #[.int .i64 s.G,.int .i64 s.blind] 3)) 3 #[.int .i64 v,.int .i64 r];rw [World.size_alloc] at this;exact row_of_blk this rfl (by decide)
  rw [←prod2 q s.G s.blind v r hq1]
  exact (product_grp s.P s.Q s.G q _ _ [s.G,s.blind] [v,r] _ hok r1 r2 rfl (by intro x hx;simp at hx;rcases hx with rfl|rfl <;> assumption) (by intro x hx;simp at hx;rcases hx with rfl|rfl <;> assumption)).mono
   fun e w2 h=>⟨h.1,hk.trans h.2⟩
 obtain ⟨t,ht⟩:∃ t,cmtQ q s.G s.blind v r=t:=⟨_,rfl⟩;rw [ht] at HP ⊢;clear hb hW hrow ht vs ib h' hok hB
 go_enter Tryz.func86,Tryz.ntmps86
 go_wp2_with fail;rw [HW.out];go_wp2_with (go_at_call 84;refine HV.out.mono ?_);rintro e w1 ⟨rfl,k1⟩;clear e0 e1 e2 e3 e4;have e0:=K0.out w1 k1;have e1:=K1.out w1 k1;have e2:=K2.out w1 k1;have e3:=K3.out w1 k1;have e4:=K4.out w1 k1;go_wp2_with (go_at_call 97;refine (HP.out w1).mono ?_);rintro e w2 ⟨rfl,k2⟩;go_wp2_with fail;go_ret;exact ⟨rfl,hkW.trans (k1.trans k2)⟩
set_option maxRecDepth 100000 in
set_option maxHeartbeats 1000000 in
theorem rcommit_any (s:Stp) (q:Nat) (sv:Value) (v r:Int) (w:World) (h:StpV w sv s) (hB:setupB s=true) (hok:GrpOk s.P s.Q s.G q) (hv:Wire.I64 v) (hr:Wire.I64 r) :
  Calls Tryz.prog 92 #[sv,.int .i64 v,.int .i64 r] w fun e w'=>e=.returned (.int .i64 ((cmtQ q s.G s.blind v r:Nat):Int))∧Kept [] w w':=by
 have h':=h;obtain ⟨⟨a,c,rfl,hrow⟩,ip,iq,ig,ib,il⟩:=h;obtain ⟨W,hW⟩:∃ W,w.alloc (.cells (stpA s (.slice a s.bases.length c)) 26)=W:=⟨_,rfl⟩;have hb:Blk W w.heap.size 26 (stpA s (.slice a s.bases.length c)):=hW▸Blk.new _ _ _;have hkW:Kept [] w W:=hW▸(Kept.refl _ _).alloc _;have vs:=rvalidSetup_any _ s W (h'.kept hkW);rw [hB] at vs;have HV:=Lib.hid vs;have K0:Hid (∀ w',Kept [] W w'→w'.cell? ⟨w.heap.size,0,none⟩=some (.int .i64 s.P)):=Kept.cellOf (hb.cell 0);have K1:Hid (∀ w',Kept [] W w'→w'.cell? ⟨w.heap.size,1,none⟩=some (.int .i64 s.Q)):=Kept.cellOf (hb.cell 1);have K2:Hid (∀ w',Kept [] W w'→w'.cell? ⟨w.heap.size,2,none⟩=some (.int .i64 s.G)):=Kept.cellOf (hb.cell 2);have K3:Hid (∀ w',Kept [] W w'→w'.cell? ⟨w.heap.size,3,none⟩=some (.slice a s.bases.length c)):=Kept.cellOf (hb.cell 3);have K4:Hid (∀ w',Kept [] W w'→w'.cell? ⟨w.heap.size,4,none⟩=some (.int .i64 s.blind)):=Kept.cellOf (hb.cell 4);have e0:=K0.out W (Kept.refl _ _);have e1:=K1.out W (Kept.refl _ _);have e2:=K2.out W (Kept.refl _ _);have e3:=K3.out W (Kept.refl _ _);have e4:=K4.out W (Kept.refl _ _);have HW:Hid (w.alloc (.cells #[.int .i64 s.P,.int .i64 s.Q,.int .i64 s.G,.slice a s.bases.length c,.int .i64 s.blind] 26)=W):=hW;have HP1:Hid (∀ w',Calls Tryz.prog 102 #[.agg #[.int .i64 s.P,.int .i64 s.Q,.int .i64 s.G],.int .i64 s.G,.int .i64 v] w' fun e w2=>e=.returned (.int .i64 ((pwrN q s.G v:Nat):Int))∧Kept [] w' w2):=fun w'=>rpower_grp s.P s.Q s.G s.G v q w' hok ig hv;have HP2:Hid (∀ w',Calls Tryz.prog 102 #[.agg #[.int .i64 s.P,.int .i64 s.Q,.int .i64 s.G],.int .i64 s.blind,.int .i64 r] w' fun e w2=>e=.returned (.int .i64 ((pwrN q s.blind r:Nat):Int))∧Kept [] w' w2):=fun w'=>rpower_grp s.P s.Q s.G s.blind r q w' hok il hr
 have l1:=pwrQ_lt q s.G v;have l2:=pwrQ_lt q s.blind r;have hqq:=hok.hq
 unfold cmtQ
 obtain ⟨x,hx⟩:∃ x,pwrN q s.G v=x:=⟨_,rfl⟩;obtain ⟨y,hy⟩:∃ y,pwrN q s.blind r=y:=⟨_,rfl⟩;rw [hx] at HP1 l1 ⊢;rw [hy] at HP2 l2 ⊢;have HT:Hid (∀ w',Calls Tryz.prog 101 #[.agg #[.int .i64 s.P,.int .i64 s.Q,.int .i64 s.G],.int .i64 x,.int .i64 y] w' fun e w2=>e=.returned (.int .i64 ((mulN (2*q+1) (x:Int) (y:Int):Nat):Int))∧Kept [] w' w2):=fun w'=>rtimes_grp s.P s.Q s.G x y q w' hok ⟨by omega,by omega⟩ ⟨by omega,by omega⟩;obtain ⟨t,ht⟩:∃ t,mulN (2*q+1) (x:Int) (y:Int)=t:=⟨_,rfl⟩;rw [ht] at HT ⊢;clear hb hW hrow ht hx hy vs ib h' hok hB
 go_enter Tryz.func92,Tryz.ntmps92
 go_wp2_with fail;rw [HW.out];go_wp2_with (go_at_call 89;refine HV.out.mono ?_);rintro e w1 ⟨rfl,k1⟩;clear e0 e1 e2 e3 e4;have x0:∀ w',Kept [] w1 w'→w'.cell? ⟨w.heap.size,0,none⟩=some (.int .i64 s.P):=Kept.cellOf (K0.out w1 k1);have x1:∀ w',Kept [] w1 w'→w'.cell? ⟨w.heap.size,1,none⟩=some (.int .i64 s.Q):=Kept.cellOf (K1.out w1 k1);have x2:∀ w',Kept [] w1 w'→w'.cell? ⟨w.heap.size,2,none⟩=some (.int .i64 s.G):=Kept.cellOf (K2.out w1 k1);have x4:∀ w',Kept [] w1 w'→w'.cell? ⟨w.heap.size,4,none⟩=some (.int .i64 s.blind):=Kept.cellOf (K4.out w1 k1);go_upto_region 3 with (fail)
 go_region_held3 (fun w'=>Kept [] w1 w') (first|assumption|exact (Kept.refl _ _).drew|exact Kept.alloc (by assumption) _)
  (first
   | (go_at_call 102;with_reducible refine (kept_from (W:=w1) (by assumption) (HP1.out _)).mono ?_;rintro e w2 ⟨rfl,hk2⟩)
   | (go_at_call 102;with_reducible refine (kept_from (W:=w1) (by assumption) (HP2.out _)).mono ?_;rintro e w2 ⟨rfl,hk2⟩)
   | (go_at_call 101;with_reducible refine (kept_from (W:=w1) (by assumption) (HT.out _)).mono ?_;rintro e w3 ⟨rfl,hk3⟩)
   | fail)
 all_goals go_wp2
 all_goals (
  go_ret
  exact ⟨rfl,hkW.trans (k1.trans hk3)⟩)
end Go.Proofs.YtpcdfepndmconaaGreatDoor
/- The reference's CheckPoint. -/
namespace Go.Proofs.YtpcdfepndmconaaGreatDoor
open Go.RowKit
def stepC (q:Nat) (j:Int) (t:Nat × Nat) (c:Int):Nat × Nat:=(mulN (2*q+1) (t.1:Int) ((pwrN q c ((mulN q (t.2:Int) j:Nat):Int):Nat):Int),mulN q (t.2:Int) j)
def chkW (q:Nat) (commit:Int) (esc:List Int) (j:Int):Nat:=(esc.foldl (stepC q j) (commit.toNat,1)).1
def chk2 (s:Stp) (q:Nat) (commit:Int) (esc:List Int) (j sh mk:Int):Bool :=
 decide (esc.length < 12)&&(esc.all (memB q)&&(memB q commit&&((decide (1≤j)&&(decide (j≤12)&&decide (j < s.Q)))&&(expoB s sh&&(expoB s mk&&(cmtQ q s.G s.blind sh mk==chkW q commit esc j))))))
def chkZ (s:Stp) (commit:Int) (esc:List Int) (j sh mk:Int):Bool:=setupB s&&chk2 s s.Q.toNat commit esc j sh mk
theorem memB_nat {q:Nat} {x:Int} (h:memB q x=true):∃ n:Nat,x=n∧1≤n∧n < 2*q+1:=by
 unfold memB at h
 simp at h;exact ⟨x.toNat,by omega,by omega,by omega⟩
theorem setupB_q {s:Stp} (h:setupB s=true):∃ q:Nat,GrpOk s.P s.Q s.G q∧groupN q s.G=true∧s.Q.toNat=q:=by
 unfold setupB at h
 rw [Bool.and_eq_true] at h;obtain ⟨q,h1,h2⟩:=groupB_ok h.1;exact ⟨q,h1,h2,by have:=h1.hQ;omega⟩
set_option maxHeartbeats 400000 in
theorem rin6_any (n lo hi:Int) (w:World):Calls Tryz.prog 100 #[.int .i64 n,.int .i64 lo,.int .i64 hi] w fun e w'=>e=.returned (.bool (decide (lo≤n)&&decide (n≤hi)))∧w=w':=by
 by_cases h1:lo≤n
 ·have d1:decide (lo≤n)=true:=by simpa using h1
  go_enter Tryz.func100,Tryz.ntmps100
  go_wp2_with fail;go_ret;exact ⟨by simp [h1],rfl⟩
 ·have d1:decide (lo≤n)=false:=by simpa using h1
  go_enter Tryz.func100,Tryz.ntmps100
  go_wp2_with fail;go_ret;exact ⟨by simp,rfl⟩
set_option maxRecDepth 100000 in
set_option maxHeartbeats 4000000 in
theorem rcheck_any (s:Stp) (sv v:Value) (commit:Int) (esc:List Int) (j sh mk:Int) (w:World) (hs:StpV w sv s) (hv:Row w 1 v esc.length (ints esc)) (hi:∀ x∈esc,Wire.I64 x)
  (hc:Wire.I64 commit) (hj:Wire.I64 j) (hsh:Wire.I64 sh) (hmk:Wire.I64 mk) :
  Calls Tryz.prog 40 #[sv,.int .i64 commit,v,.agg #[.int .i64 j,.int .i64 sh,.int .i64 mk]] w fun e w'=>e=.returned (.bool (chkZ s commit esc j sh mk))∧Kept [] w w':=by
 have hs':=hs;obtain ⟨⟨sa,sc,rfl,hrow⟩,ip,iq,ig,ib,il⟩:=hs;obtain ⟨ae,ce,rfl,hle,_⟩:=hv.form;obtain ⟨W,hW⟩:∃ W,((w.alloc (.cells (stpA s (.slice sa s.bases.length sc)) 26)).alloc (.cells #[.int .i64 j,.int .i64 sh,.int .i64 mk] 78))=W:=⟨_,rfl⟩;have hb:Blk W w.heap.size 26 (stpA s (.slice sa s.bases.length sc)):=hW▸(Blk.new _ _ _).alloc _
 have hp:Blk W (w.heap.size+1) 78 #[.int .i64 j,.int .i64 sh,.int .i64 mk]:=by
  have:=Blk.new (w.alloc (.cells (stpA s (.slice sa s.bases.length sc)) 26)) 78 #[.int .i64 j,.int .i64 sh,.int .i64 mk];rw [World.size_alloc] at this;exact hW▸this
 have hkW:Kept [] w W:=hW▸((Kept.refl _ _).alloc _).alloc _;have HS:=Lib.hid (hs'.kept hkW);have HE:=Lib.hid (hv.kept hkW);have HI:=Lib.hid hi
 have K:Hid (∀ w',Kept [] W w'→w'.cell? ⟨w.heap.size,0,none⟩=some (.int .i64 s.P)∧w'.cell? ⟨w.heap.size,1,none⟩=some (.int .i64 s.Q)∧w'.cell? ⟨w.heap.size,2,none⟩=some (.int .i64 s.G)∧w'.cell? ⟨w.heap.size,3,none⟩=some (.slice sa s.bases.length sc)∧w'.cell? ⟨w.heap.size,4,none⟩=some (.int .i64 s.blind)) :=
  fun w' k=>⟨(hb.kept k (by simp)).cell 0,(hb.kept k (by simp)).cell 1,(hb.kept k (by simp)).cell 2,(hb.kept k (by simp)).cell 3,(hb.kept k (by simp)).cell 4⟩
 have PK:Hid (∀ w',Kept [] W w'→w'.cell? ⟨w.heap.size+1,0,none⟩=some (.int .i64 j)∧w'.cell? ⟨w.heap.size+1,1,none⟩=some (.int .i64 sh)∧w'.cell? ⟨w.heap.size+1,2,none⟩=some (.int .i64 mk)) :=
  fun w' k=>⟨(hp.kept k (by simp)).cell 0,(hp.kept k (by simp)).cell 1,(hp.kept k (by simp)).cell 2⟩
 have HW:Hid (((w.alloc (.cells #[.int .i64 s.P,.int .i64 s.Q,.int .i64 s.G,.slice sa s.bases.length sc,.int .i64 s.blind] 26)).alloc (.cells #[.int .i64 j,.int .i64 sh,.int .i64 mk] 78))=W):=hW;obtain ⟨e0,e1,e2,e3,e4⟩:=K.out W (Kept.refl _ _);have vs:=rvalidSetup_any _ s W HS.out
 unfold chkZ
 cases hB:setupB s
 ·rw [hB] at vs;have VS:=Lib.hid vs;rw [Bool.false_and];clear hW hb hp hrow ib hs' vs hB hv hi
  go_enter Tryz.func40,Tryz.ntmps40
  go_wp2_with fail;rw [HW.out];go_wp2_with (go_at_call 89;refine VS.out.mono ?_);rintro e w1 ⟨rfl,k1⟩;go_wp2_with fail;go_ret;exact ⟨rfl,hkW.trans k1⟩
 rw [hB] at vs;have VS:=Lib.hid vs;rw [Bool.true_and];obtain ⟨q,hok,hg,hqt⟩:=setupB_q hB;rw [hqt];have hqq:=hok.hq;have hq5:=hok.h5;have hQp:=Lib.hid hok.hQ;have EL:Hid (∀ w',Calls Tryz.prog 98 #[.agg #[.int .i64 s.P,.int .i64 s.Q,.int .i64 s.G],.int .i64 commit] w' fun e w2=>e=.returned (.bool (memB q commit))∧Kept [] w' w2):=fun w'=>relement_any s.P s.Q s.G commit q w' hok hg hc
 have ES:Hid (∀ w',Kept [] W w'→Calls Tryz.prog 99 #[.agg #[.int .i64 s.P,.int .i64 s.Q,.int .i64 s.G,.slice sa s.bases.length sc,.int .i64 s.blind],.slice ae esc.length ce,.int .i64 esc.length] w' fun e w2=>e=.returned (.bool (esc.all (memB q)))∧Kept [] w' w2):=fun w' k=>by
  have:=relements_any s q _ _ esc esc.length w' (HS.out.kept k) (HE.out.kept k) hok hg hi
  unfold eltsB at this
  rwa [decide_eq_true rfl,Bool.true_and] at this
 have XS:Hid (∀ w',Kept [] W w'→Calls Tryz.prog 90 #[.agg #[.int .i64 s.P,.int .i64 s.Q,.int .i64 s.G,.slice sa s.bases.length sc,.int .i64 s.blind],.int .i64 sh] w' fun e w2=>e=.returned (.bool (expoB s sh))∧Kept [] w' w2):=fun w' k=>rexponent_any _ s sh w' (HS.out.kept k);have XM:Hid (∀ w',Kept [] W w'→Calls Tryz.prog 90 #[.agg #[.int .i64 s.P,.int .i64 s.Q,.int .i64 s.G,.slice sa s.bases.length sc,.int .i64 s.blind],.int .i64 mk] w' fun e w2=>e=.returned (.bool (expoB s mk))∧Kept [] w' w2):=fun w' k=>rexponent_any _ s mk w' (HS.out.kept k);have CM:Hid (∀ w',Kept [] W w'→Calls Tryz.prog 92 #[.agg #[.int .i64 s.P,.int .i64 s.Q,.int .i64 s.G,.slice sa s.bases.length sc,.int .i64 s.blind],.int .i64 sh,.int .i64 mk] w' fun e w2=>e=.returned (.int .i64 ((cmtQ q s.G s.blind sh mk:Nat):Int))∧Kept [] w' w2):=fun w' k=>rcommit_any s q _ sh mk w' (HS.out.kept k) hB hok hsh hmk
 have IN:Hid (∀ w',Calls Tryz.prog 100 #[.int .i64 j,.int .i64 1,.int .i64 (if 12≤s.Q - 1 then 12 else s.Q - 1)] w' fun e w2=>e=.returned (.bool (decide (1≤j)&&(decide (j≤12)&&decide (j < s.Q))))∧w'=w2):=fun w'=>by
  have h:=rin6_any j 1 (if 12≤s.Q - 1 then 12 else s.Q - 1) w'
  have e:(decide (1≤j)&&decide (j≤(if 12≤s.Q - 1 then 12 else s.Q - 1)))=(decide (1≤j)&&(decide (j≤12)&&decide (j < s.Q))):=by
   rw [Bool.eq_iff_iff]
   simp
   intro _
   split <;> omega
  rwa [e] at h
 have HOK:=Lib.hid hok;obtain ⟨T,hT⟩:∃ T,chk2 s q commit esc j sh mk=T:=⟨_,rfl⟩;rw [hT]
 unfold chk2 at hT
 obtain ⟨b1,hb1⟩:∃ b,memB q commit=b:=⟨_,rfl⟩;obtain ⟨b2,hb2⟩:∃ b,esc.all (memB q)=b:=⟨_,rfl⟩;obtain ⟨b3,hb3⟩:∃ b,(decide (1≤j)&&(decide (j≤12)&&decide (j < s.Q)))=b:=⟨_,rfl⟩;obtain ⟨b4,hb4⟩:∃ b,expoB s sh=b:=⟨_,rfl⟩;obtain ⟨b5,hb5⟩:∃ b,expoB s mk=b:=⟨_,rfl⟩;rw [hb1,hb2,hb3,hb4,hb5] at hT;rw [hb1] at EL;rw [hb2] at ES;rw [hb3] at IN;rw [hb4] at XS;rw [hb5] at XM;have HB1:=Lib.hid hb1;have HT:=Lib.hid hT
 have hwq:IntKind.i64.wrap (s.Q - 1)=s.Q - 1:=by rw [IntKind.wrap_i64];have:=hQp.out;omega
 clear hW hb hp hrow ib hs' vs hB hv hi hb1 hb2 hb3 hb4 hb5 hT hok hg hqt
 go_enter Tryz.func40,Tryz.ntmps40
 go_wp2_with fail;rw [HW.out];go_wp2_with (go_at_call 89;refine VS.out.mono ?_);rintro e w1 ⟨rfl,k1⟩;clear e0 e1 e2 e3 e4;obtain ⟨e0,e1,e2,e3,e4⟩:=K.out w1 k1;go_wp2_with (go_at_call 98;refine (EL.out _).mono ?_);rintro e w2 ⟨rfl,hk2⟩;have k2:=k1.trans hk2;clear e0 e1 e2 e3 e4 hk2;obtain ⟨e0,e1,e2,e3,e4⟩:=K.out w2 k2
 cases b1
 ·obtain rfl:T=false:=HT.out.symm.trans (by simp);go_wp2_with fail;go_ret;exact ⟨rfl,hkW.trans k2⟩
 by_cases hlen:esc.length < 12
 case neg =>
  obtain rfl:T=false:=HT.out.symm.trans (by rw [decide_eq_false hlen];rfl)
  have d1:decide ((12:Int)≤(esc.length:Int))=true:=by simp;omega
  go_wp2_with fail;go_ret;exact ⟨rfl,hkW.trans k2⟩
 have d1:decide ((12:Int)≤(esc.length:Int))=false:=by simp;omega
 go_wp2_with (go_at_call 99;refine (ES.out _ k2).mono ?_);rintro e w3 ⟨rfl,hk3⟩;have k3:=k2.trans hk3;clear e0 e1 e2 e3 e4 hk3;obtain ⟨e0,e1,e2,e3,e4⟩:=K.out w3 k3;obtain ⟨p0,p1,p2⟩:=PK.out w3 k3
 cases b2
 ·obtain rfl:T=false:=HT.out.symm.trans (by simp);go_wp2_with fail;go_ret;exact ⟨rfl,hkW.trans k3⟩
 go_wp2_with (go_at_call 100;refine (IN.out _).mono ?_);rintro e w' ⟨rfl,rfl⟩
 cases b3
 ·obtain rfl:T=false:=HT.out.symm.trans (by simp);go_wp2_with fail;go_ret;exact ⟨rfl,hkW.trans k3⟩
 go_wp2_with (go_at_call 90;with_reducible refine (XS.out _ k3).mono ?_);rintro e w4 ⟨rfl,hk4⟩;have k4:=k3.trans hk4;clear e0 e1 e2 e3 e4 p0 p1 p2 hk4;obtain ⟨e0,e1,e2,e3,e4⟩:=K.out w4 k4;obtain ⟨p0,p1,p2⟩:=PK.out w4 k4
 cases b4
 ·obtain rfl:T=false:=HT.out.symm.trans (by simp);go_wp2_with fail;go_ret;exact ⟨rfl,hkW.trans k4⟩
 go_wp2_with (go_at_call 90;with_reducible refine (XM.out _ k4).mono ?_);rintro e w5 ⟨rfl,hk5⟩;have k5:=k4.trans hk5;clear e0 e1 e2 e3 e4 p0 p1 p2 hk5;obtain ⟨e0,e1,e2,e3,e4⟩:=K.out w5 k5
 cases b5
 ·obtain rfl:T=false:=HT.out.symm.trans (by simp);go_wp2_with fail;go_ret;exact ⟨rfl,hkW.trans k5⟩
 obtain ⟨c0,hc0,hc1,hc2⟩:=memB_nat HB1.out;subst hc0
 have hF:Hid ((decide (cmtQ q s.G s.blind sh mk=((esc.drop 0).foldl (stepC q j) (c0,1)).1))=T):=by
  have:=HT.out;rw [decide_eq_true hlen] at this;simp only [Bool.true_and] at this;exact this
 obtain ⟨X,hX⟩:∃ X,cmtQ q s.G s.blind sh mk=X:=⟨_,rfl⟩;rw [hX] at CM hF;clear hX HT;go_wp2_with fail;clear e0 e1 e2 e3 e4
 go_loopw [10,11,12] (fun vw vp vi wr=>∃ (k u p:Nat),k≤esc.length∧vi=.int .i64 k∧vw=.int .i64 u∧vp=.int .i64 p∧u < 2*q+1∧p < q∧Hid ((decide (X=((esc.drop k).foldl (stepC q j) (u,p)).1))=T)∧Kept [] W wr) (fun _ _ vi _=>esc.length - (intOf vi).toNat)
 case atStart=>exact ⟨0,c0,1,Nat.zero_le _,rfl,rfl,rfl,hc2,by omega,hF,k5⟩
 case round =>
  obtain ⟨k,u,p,hk,rfl,rfl,rfl,hu,hp,hf,hkr⟩:=hrel
  by_cases hlt:k < esc.length
  ·obtain ⟨ba,oa,rfl,hca⟩:=(HE.out.kept hkr).at_ (by omega);have xa:∀ w',Kept [] wr w'→w'.cell? ⟨ba,oa+k,none⟩=some (.int .i64 esc[k]):=Kept.cellOf (hca k _ (ints_get hlt));have ix:=HI.out esc[k] (List.getElem_mem hlt);have hd:esc.drop k=esc[k]::esc.drop (k+1):=List.drop_eq_getElem_cons hlt;have hn:=hf.out;rw [hd,List.foldl_cons] at hn;have HST:stepC q j (u,p) esc[k]=(mulN (2*q+1) (u:Int) ((pwrN q esc[k] ((mulN q (p:Int) j:Nat):Int):Nat):Int),mulN q (p:Int) j):=rfl
   have MP:Hid (∀ w',Calls Tryz.prog 82 #[.int .i64 s.Q,.int .i64 p,.int .i64 j] w' fun e w2=>e=.returned (.int .i64 ((mulN q (p:Int) j:Nat):Int))∧w'=w2):=fun w'=>by
    rw [hQp.out];exact rmul_any q p j w' (by omega) (by omega) ⟨by omega,by omega⟩ hj
   have lp:=ltMul q (p:Int) j (by omega);obtain ⟨p',hp'⟩:∃ p',mulN q (p:Int) j=p':=⟨_,rfl⟩;rw [hp'] at MP HST lp;have PW:Hid (∀ w',Calls Tryz.prog 102 #[.agg #[.int .i64 s.P,.int .i64 s.Q,.int .i64 s.G],.int .i64 esc[k],.int .i64 p'] w' fun e w2=>e=.returned (.int .i64 ((pwrN q esc[k] (p':Int):Nat):Int))∧Kept [] w' w2):=fun w'=>rpower_grp s.P s.Q s.G esc[k] p' q w' HOK.out ix ⟨by omega,by omega⟩;have lw:=pwrQ_lt q esc[k] (p':Int);obtain ⟨y,hy⟩:∃ y,pwrN q esc[k] (p':Int)=y:=⟨_,rfl⟩;rw [hy] at PW HST lw;have TM:Hid (∀ w',Calls Tryz.prog 101 #[.agg #[.int .i64 s.P,.int .i64 s.Q,.int .i64 s.G],.int .i64 u,.int .i64 y] w' fun e w2=>e=.returned (.int .i64 ((mulN (2*q+1) (u:Int) (y:Int):Nat):Int))∧Kept [] w' w2):=fun w'=>rtimes_grp s.P s.Q s.G u y q w' HOK.out ⟨by omega,by omega⟩ ⟨by omega,by omega⟩;have lu:=ltMul (2*q+1) (u:Int) (y:Int) (by omega);obtain ⟨u',hu'⟩:∃ u',mulN (2*q+1) (u:Int) (y:Int)=u':=⟨_,rfl⟩;rw [hu'] at TM HST lu;rw [HST] at hn;have HN:=Lib.hid hn;clear hca hd hp' hy hu' HST hn hf;obtain ⟨p0,p1,p2⟩:=PK.out wr hkr;go_wp2_with (go_at_call 82;refine (MP.out _).mono ?_;rintro e w' ⟨rfl,rfl⟩);clear p0 p1 p2;have x0:∀ w',Kept [] wr w'→w'.cell? ⟨w.heap.size,0,none⟩=some (.int .i64 s.P):=fun w' kk=>(K.out w' (hkr.trans kk)).1;have x1:∀ w',Kept [] wr w'→w'.cell? ⟨w.heap.size,1,none⟩=some (.int .i64 s.Q):=fun w' kk=>(K.out w' (hkr.trans kk)).2.1;have x2:∀ w',Kept [] wr w'→w'.cell? ⟨w.heap.size,2,none⟩=some (.int .i64 s.G):=fun w' kk=>(K.out w' (hkr.trans kk)).2.2.1;go_upto_region 10 with (fail)
   go_region_held3 (fun w'=>Kept [] wr w') (first|assumption|exact (Kept.refl _ _).drew|exact Kept.alloc (by assumption) _)
    (first
     | (go_at_call 102;with_reducible refine (kept_from (W:=wr) (by assumption) (PW.out _)).mono ?_;rintro e w6 ⟨rfl,hk6⟩)
     | (go_at_call 101;with_reducible refine (kept_from (W:=wr) (by assumption) (TM.out _)).mono ?_;rintro e w7 ⟨rfl,hk7⟩)
     | fail)
   clear x0 x1 x2 xa;go_wp2
   go_roundw
   case rel=>exact ⟨k+1,u',p',by omega,by go_num,rfl,rfl,lu,lp,HN,hkr.trans hk7⟩
   case measure=>simp [intOf];omega
  ·obtain rfl:k=esc.length:=by omega
   have hR:=hf.out;rw [List.drop_length,List.foldl_nil] at hR;obtain ⟨e0,e1,e2,e3,e4⟩:=K.out wr hkr;obtain ⟨p0,p1,p2⟩:=PK.out wr hkr;have hbc:=beq_cast X u;have HR:=Lib.hid hR;clear hR hf;go_wp2_with (go_at_call 92;refine (CM.out _ hkr).mono ?_);intro e w8 he8 hk8;subst he8;go_wp2_with fail;go_ret;exact ⟨by rw [←HR.out];rfl,hkW.trans (hkr.trans hk8)⟩
end Go.Proofs.YtpcdfepndmconaaGreatDoor
/- The example's group: ValidGroup, Element, Power, Product. -/
namespace Go.Proofs.YtpcdfepndmconaaGreatDoor
open Go.RowKit
end Go.Proofs.YtpcdfepndmconaaGreatDoor
/- The example's setup: ValidSetup, Commit, exponents, elements. -/
namespace Go.Proofs.YtpcdfepndmconaaGreatDoor
open Go.RowKit
variable {v0:Value}
end Go.Proofs.YtpcdfepndmconaaGreatDoor
/- Two one-element lists joined: slices.Grow, slices.Concat. -/
namespace Go.Proofs.YtpcdfepndmconaaGreatDoor
open Go.RowKit
end Go.Proofs.YtpcdfepndmconaaGreatDoor
namespace Go.Proofs.YtpcdfepndmconaaGreatDoor
open Go.RowKit
def noDefer (o:Oper):Bool:=match o.op with
 | .defer _=>false
 | _=>true
theorem noDefer_ne {o:Oper} (h:noDefer o=true):∀ c,o.op≠.defer c:=by
 intro c hc
 unfold noDefer at h
 rw [hc] at h
 cases h
theorem oper_round {P:Program} {l n:Nat} {o:Oper} {a:Act} {w:World} {K:Act→World→Prop} {Q:Exit→Act→World→Prop} (hd:noDefer o=true) (h:o.wp P a w K Q) :
  o.wpIn (Fence.wide.inRound l) n P a w K Q:=by
 unfold Oper.wpIn
 unfold Oper.wp at h
 refine ⟨fun _ _=>trivial,?_⟩;rw [show (Fence.wide.inRound l).round=some l from rfl,Oper.semAt_some l _ _ (noDefer_ne hd)]
 generalize (execOp a.eval o).run P w=r at *
 cases r with
 | ok x w' =>
  cases x <;> simp only [Oper.upon,Oper.uponIn] at h ⊢ <;>
   first
    | exact h
    | exact ⟨fun h=>(by cases h),CallsIn.inRound l (callsIn_wide.2 h)⟩
    | exact ⟨fun h=>(by cases h),fun c cs _=>let ⟨v,w',r,s⟩:=h c cs;⟨v,w',r,stepsIn_wide.2 s⟩⟩
 | halt x w'=>cases x <;> simp only [Oper.upon,Oper.uponIn] at h ⊢ <;> exact h
theorem any_round {P:Program} {l n:Nat} {md:Region.Mode} {ops:Array Oper} {Q:Exit→Act→World→Prop} (hd:ops.toList.all noDefer=true) (hL:¬ LetsOut Q) :
  ∀ (fuel:Nat) (listed:Array Bool) (a:Act) (w:World),wpAny P md ops Q fuel listed a w→wpAnyIn (Fence.wide.inRound l) n P md ops Q fuel listed a w
 | 0,_,_,_,h=>h
 | fuel+1,listed,a,w,h=>by
  refine ⟨h.1,fun i hi=>?_⟩;have h2:=h.2 i hi
  unfold wpOp at h2
  unfold wpOpIn
  cases ho:ops[i]? with
  | none =>
   rw [ho] at h2;exact any_round hd hL fuel _ _ _ h2
  | some o =>
   rw [ho] at h2
   simp only at h2 ⊢
   have hno:noDefer o=true:=by
    rw [List.all_eq_true] at hd;exact hd o (Array.mem_toList_iff.2 (Array.mem_of_getElem? ho))
   split at h2
   ·next hw =>
    rw [if_pos hw]
    rcases h2 with h2|h2
    ·exact Oper.wpIn_mono (fun a w h=>any_round hd hL fuel _ a w h) (oper_round hno h2)
    ·exact absurd h2.2 hL
   ·next hw =>
    rw [if_neg hw];exact ⟨fun _ _=>trivial,any_round hd hL fuel _ _ _ h2⟩
theorem region_round {P:Program} {l n id:Nat} {ops:Array Oper} {Q:Exit→Act→World→Prop} {S:World→Prop} {a:Act} {w:World} (hm:P.follows .mixedOrders=true) (hd:ops.toList.all noDefer=true) (hL:¬ LetsOut Q)
  (h:wpAnyH P .any ops Q S ops.size (Array.replicate ops.size false) a w.drew):(Code.region id ops true).wpIn (Fence.wide.inRound l) n P Q a w :=
 wpIn_region_any hm (any_round hd hL _ _ _ _ (wpAny_of_held _ _ _ _ h))
/-- take an operation of a drawn region, told by its parts -/
theorem take_of {P:Program} {md:Region.Mode} {ops:Array Oper} {Q:Exit→Act→World→Prop} {S:World→Prop} {i:Nat} {d:Option Tmp} {op:Go.Op} {ty:TypeId} {pos:String} {after:Array Edge} {g:Option (Nat × Bool)}
  {v:Value} {fuel:Nat} {listed:Array Bool} {a:Act} {w:World} (hi:ops[i]?=some ⟨d,op,ty,pos,after,g⟩)
  (hs:Region.noSelect ops=true) (hf:Region.free md ops listed i=true) (hr:(Region.ready md ops listed).contains i=true)
  (hQ:∀ c a w,Q (.panic c) (a.put d v) w→Q (.panic c) a w) (hy:YieldsIf P ops S ⟨d,op,ty,pos,after,g⟩ v a) (hS:S w)
  (h:wpAnyH P md ops Q S fuel (listed.setIfInBounds i true) (a.put d v) w):wpAnyH P md ops Q S (fuel+1) listed a w :=
 wpAnyH_take hi hs hf hr hQ hy hS h
theorem Kept.keepsOthers {W W':World} (h:Kept [] W W'):KeepsOthers W W':=⟨h.size,fun k o hk _=>by
 have:=Array.getElem?_eq_some_iff.1 hk
 exact (h.block k this.1 (by simp)).trans hk⟩
end Go.Proofs.YtpcdfepndmconaaGreatDoor
