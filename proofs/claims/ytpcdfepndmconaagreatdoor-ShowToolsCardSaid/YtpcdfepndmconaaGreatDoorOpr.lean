/- The reference's Open. -/
import Derived.Test.YtpcdfepndmconaaGreatDoorOpp
import Derived.Test.YtpcdfepndmconaaGreatDoorPfE
namespace Go.Proofs.YtpcdfepndmconaaGreatDoor
open Go.RowKit Go.Maps
/-- three rows of the call's own -/
structure Tri (B:Nat) (w:World) (vx vf vg:Value) (kx kf kg:Nat) (X F G:List Int):Prop where
 ox:w.ownsRow B 3 1 vx kx (ints X)
 of_:w.ownsRow B 3 1 vf kf (ints F)
 og:w.ownsRow B 3 1 vg kg (ints G)
 dxf:∀ z∈obl vx,z∉obl vf
 dxg:∀ z∈obl vx,z∉obl vg
 dfg:∀ z∈obl vf,z∉obl vg
section
variable {B:Nat} {w y:World} {vx vf vg v':Value} {kx kf kg k':Nat} {X F G L:List Int}
theorem Tri.keep (h:Tri B w vx vf vg kx kf kg X F G) (k:Kept [] w y):Tri B y vx vf vg kx kf kg X F G :=
 ⟨own_keep h.ox k (by simp),own_keep h.of_ k (by simp),own_keep h.og k (by simp),h.dxf,h.dxg,h.dfg⟩
theorem Tri.px (h:Tri B w vx vf vg kx kf kg X F G) (o:y.ownsRow B 3 1 v' k' (ints L)) (k:Kept (obl vx) w y) (t:∀ z∈obl v',z∈obl vx∨z=w.heap.size):Tri B y v' vf vg k' kf kg L F G:=by
 refine ⟨o,own_keep h.of_ k (fun z hz hm=>h.dxf z hm hz),own_keep h.og k (fun z hz hm=>h.dxg z hm hz),fun z hz hm=>?_,fun z hz hm=>?_,h.dfg⟩
 ·rcases t z hz with h1|h1
  ·exact h.dxf z h1 hm
  ·have:=(own_ge h.of_ z hm).2;omega
 ·rcases t z hz with h1|h1
  ·exact h.dxg z h1 hm
  ·have:=(own_ge h.og z hm).2;omega
theorem Tri.pf (h:Tri B w vx vf vg kx kf kg X F G) (o:y.ownsRow B 3 1 v' k' (ints L)) (k:Kept (obl vf) w y) (t:∀ z∈obl v',z∈obl vf∨z=w.heap.size):Tri B y vx v' vg kx k' kg X L G:=by
 refine ⟨own_keep h.ox k (fun z hz hm=>h.dxf z hz hm),o,own_keep h.og k (fun z hz hm=>h.dfg z hm hz),fun z hz hm=>?_,h.dxg,fun z hz hm=>?_⟩
 ·rcases t z hm with h1|h1
  ·exact h.dxf z hz h1
  ·have:=(own_ge h.ox z hz).2;omega
 ·rcases t z hz with h1|h1
  ·exact h.dfg z h1 hm
  ·have:=(own_ge h.og z hm).2;omega
theorem Tri.pg (h:Tri B w vx vf vg kx kf kg X F G) (o:y.ownsRow B 3 1 v' k' (ints L)) (k:Kept (obl vg) w y) (t:∀ z∈obl v',z∈obl vg∨z=w.heap.size):Tri B y vx vf v' kx kf k' X F L:=by
 refine ⟨own_keep h.ox k (fun z hz hm=>h.dxg z hz hm),own_keep h.of_ k (fun z hz hm=>h.dfg z hz hm),o,h.dxf,fun z hz hm=>?_,fun z hz hm=>?_⟩
 ·rcases t z hm with h1|h1
  ·exact h.dxg z hz h1
  ·have:=(own_ge h.ox z hz).2;omega
 ·rcases t z hm with h1|h1
  ·exact h.dfg z hz h1
  ·have:=(own_ge h.of_ z hz).2;omega
end
set_option linter.unusedSimpArgs false
set_option maxRecDepth 100000 in
set_option maxHeartbeats 16000000 in
theorem ropen_any (s:Stp) (sv ve vp:Value) (commit:Int) (esc:List Int) (pts:List Pnt3) (w:World) (hs:StpV w sv s) (he:Row w 1 ve esc.length (ints esc)) (hp:Row w 3 vp pts.length (ints (flatP pts))) (hn15:pts.length≤15)
  (hie:∀ x∈esc,Wire.I64 x) (hic:Wire.I64 commit) (hip:∀ p∈pts,Wire.I64 p.1∧Wire.I64 p.2.1∧Wire.I64 p.2.2) (hel:esc.length≤1000) :
  Calls Tryz.prog 42 #[sv,.int .i64 commit,ve,vp] w (OpenQ s commit esc pts w):=by
 have hs':=hs;obtain ⟨⟨sa,sc,rfl,hrow⟩,_,_,_,_,_⟩:=hs;obtain ⟨ae,ce,rfl,hle,_⟩:=he.form;obtain ⟨n,hnl⟩:∃ n,n=pts.length:=⟨_,rfl⟩;rw [←hnl] at hp hn15;obtain ⟨ap,cp,rfl,hlp,_⟩:=hp.form;obtain ⟨W,hW⟩:∃ W,w.alloc (.cells (stpA s (.slice sa s.bases.length sc)) 26)=W:=⟨_,rfl⟩;have hb:Blk W w.heap.size 26 (stpA s (.slice sa s.bases.length sc)):=hW▸Blk.new _ _ _;have hkW:Kept [] w W:=hW▸(Kept.refl _ _).alloc _;have HS:=Lib.hid (hs'.kept hkW);have HE:=Lib.hid (he.kept hkW);have HP:=Lib.hid (hp.kept hkW);have HNL:=Lib.hid hnl
 have K:Hid (∀ w',Kept [] W w'→w'.cell? ⟨w.heap.size,0,none⟩=some (.int .i64 s.P)∧w'.cell? ⟨w.heap.size,1,none⟩=some (.int .i64 s.Q)∧w'.cell? ⟨w.heap.size,2,none⟩=some (.int .i64 s.G)∧w'.cell? ⟨w.heap.size,3,none⟩=some (.slice sa s.bases.length sc)∧w'.cell? ⟨w.heap.size,4,none⟩=some (.int .i64 s.blind)) :=
  fun w' k=>⟨(hb.kept k (by simp)).cell 0,(hb.kept k (by simp)).cell 1,(hb.kept k (by simp)).cell 2,(hb.kept k (by simp)).cell 3,(hb.kept k (by simp)).cell 4⟩
 have HW:Hid (w.alloc (.cells #[.int .i64 s.P,.int .i64 s.Q,.int .i64 s.G,.slice sa s.bases.length sc,.int .i64 s.blind] 26)=W):=hW
 have CH:Hid (∀ k (h:k < pts.length) w',Kept [] W w'→Calls Tryz.prog 40 #[.agg #[.int .i64 s.P,.int .i64 s.Q,.int .i64 s.G,.slice sa s.bases.length sc,.int .i64 s.blind],.int .i64 commit,.slice ae esc.length ce,.agg #[.int .i64 pts[k].1,.int .i64 pts[k].2.1,.int .i64 pts[k].2.2]] w' fun e w2=>e=.returned (.bool (chkP s commit esc pts[k]))∧Kept [] w' w2) :=
  fun k h w' kk=>rcheck_any s _ _ commit esc _ _ _ w' (HS.out.kept kk) (HE.out.kept kk) hie hic (hip _ (List.getElem_mem h)).1 (hip _ (List.getElem_mem h)).2.1 (hip _ (List.getElem_mem h)).2.2
 have PC:Hid (∀ k (h:k < pts.length),∃ bp op,ap=some ⟨bp,op,none⟩∧∀ w',Kept [] W w'→w'.cell? ⟨bp,op+k*3,none⟩=some (.int .i64 pts[k].1)∧w'.cell? ⟨bp,op+k*3+1,none⟩=some (.int .i64 pts[k].2.1)∧w'.cell? ⟨bp,op+k*3+2,none⟩=some (.int .i64 pts[k].2.2)):=fun k h=>by
  obtain ⟨bp,op,e,hc⟩:=HP.out.at_ (by omega);obtain ⟨f1,f2,f3⟩:=flatP_get pts k h;refine ⟨bp,op,e,fun w' kk=>⟨Kept.cellOf (hc (k*3) _ (by simp [ints,f1])) w' kk,?_,?_⟩⟩
  ·exact Kept.cellOf (hc (k*3+1) _ (by simp [ints,f2])) w' kk
  ·exact Kept.cellOf (hc (k*3+2) _ (by simp [ints,f3])) w' kk
 obtain ⟨X,hX⟩:∃ X,pts.map (·.1)=X:=⟨_,rfl⟩;obtain ⟨F,hF⟩:∃ X,pts.map (·.2.1)=X:=⟨_,rfl⟩;obtain ⟨G,hG⟩:∃ X,pts.map (·.2.2)=X:=⟨_,rfl⟩
 have hXl:X.length=n:=by rw [←hX];simp [hnl]
 have hFl:F.length=n:=by rw [←hF];simp [hnl]
 have hGl:G.length=n:=by rw [←hG];simp [hnl]
 have HXl:=Lib.hid hXl;have HFl:=Lib.hid hFl;have HGl:=Lib.hid hGl;have HXF:Hid (pts.map (·.1)=X∧pts.map (·.2.1)=F∧pts.map (·.2.2)=G):=⟨hX,hF,hG⟩
 have hXg:∀ k (h:k < pts.length) (h':k < X.length),X[k]=pts[k].1:=fun k h h'=>by subst hX;simp
 have hFg:∀ k (h:k < pts.length) (h':k < F.length),F[k]=pts[k].2.1:=fun k h h'=>by subst hF;simp
 have hGg:∀ k (h:k < pts.length) (h':k < G.length),G[k]=pts[k].2.2:=fun k h h'=>by subst hG;simp
 have HXG:=Lib.hid (And.intro hXg (And.intro hFg hGg))
 have EXA:Hid (∀ k (h:k < pts.length),X.take k++[pts[k].1]=X.take (k+1)):=fun k h=>by
  rw [List.take_succ_eq_append_getElem (by omega),hXg k h]
 have EFA:Hid (∀ k (h:k < pts.length),F.take k++[pts[k].2.1]=F.take (k+1)):=fun k h=>by
  rw [List.take_succ_eq_append_getElem (by omega),hFg k h]
 have EGA:Hid (∀ k (h:k < pts.length),G.take k++[pts[k].2.2]=G.take (k+1)):=fun k h=>by
  rw [List.take_succ_eq_append_getElem (by omega),hGg k h]
 have HIP:Hid (∀ k (h:k < pts.length),Wire.I64 pts[k].1∧Wire.I64 pts[k].2.1∧Wire.I64 pts[k].2.2):=fun k h=>hip _ (List.getElem_mem h);clear hW hb hrow he hp hs' hie hic hip hnl hX hF hG hXl hFl hGl hXg hFg hGg
 go_enter Tryz.func42,Tryz.ntmps42
 go_wp2_with fail;rw [HW.out]
 go_loopw [11] (fun vi wr=>∃ k:Nat,k≤n∧vi=.int .i64 k∧Hid (∀ i (h:i < pts.length),i < k→chkP s commit esc pts[i]=true)∧Kept [] W wr) (fun vi _=>n - (intOf vi).toNat)
 case atStart=>exact ⟨0,by omega,rfl,fun i h hi=>by omega,Kept.refl _ _⟩
 case round =>
  obtain ⟨k,hk,rfl,HA,hkr⟩:=hrel
  by_cases hlt:k < n
  ·have hltp:k < pts.length:=by have:=HNL.out;omega
   obtain ⟨bp,op,rfl,hpc⟩:=PC.out k hltp;have a0:∀ w',Kept [] wr w'→w'.cell? ⟨bp,op+k*3,none⟩=some (.int .i64 pts[k].1):=fun w' kk=>(hpc w' (hkr.trans kk)).1;have a1:∀ w',Kept [] wr w'→w'.cell? ⟨bp,op+k*3+1,none⟩=some (.int .i64 pts[k].2.1):=fun w' kk=>(hpc w' (hkr.trans kk)).2.1;have a2:∀ w',Kept [] wr w'→w'.cell? ⟨bp,op+k*3+2,none⟩=some (.int .i64 pts[k].2.2):=fun w' kk=>(hpc w' (hkr.trans kk)).2.2;have x0:∀ w',Kept [] wr w'→w'.cell? ⟨w.heap.size,0,none⟩=some (.int .i64 s.P):=fun w' kk=>(K.out w' (hkr.trans kk)).1;have x1:∀ w',Kept [] wr w'→w'.cell? ⟨w.heap.size,1,none⟩=some (.int .i64 s.Q):=fun w' kk=>(K.out w' (hkr.trans kk)).2.1;have x2:∀ w',Kept [] wr w'→w'.cell? ⟨w.heap.size,2,none⟩=some (.int .i64 s.G):=fun w' kk=>(K.out w' (hkr.trans kk)).2.2.1;have x3:∀ w',Kept [] wr w'→w'.cell? ⟨w.heap.size,3,none⟩=some (.slice sa s.bases.length sc):=fun w' kk=>(K.out w' (hkr.trans kk)).2.2.2.1;have x4:∀ w',Kept [] wr w'→w'.cell? ⟨w.heap.size,4,none⟩=some (.int .i64 s.blind):=fun w' kk=>(K.out w' (hkr.trans kk)).2.2.2.2;have CK:Hid (∀ w',Kept [] wr w'→Calls Tryz.prog 40 #[.agg #[.int .i64 s.P,.int .i64 s.Q,.int .i64 s.G,.slice sa s.bases.length sc,.int .i64 s.blind],.int .i64 commit,.slice ae esc.length ce,.agg #[.int .i64 pts[k].1,.int .i64 pts[k].2.1,.int .i64 pts[k].2.2]] w' fun e w2=>e=.returned (.bool (chkP s commit esc pts[k]))∧Kept [] w' w2):=fun w' kk=>CH.out k hltp w' (hkr.trans kk);have HBV:Hid (∃ B,chkP s commit esc pts[k]=B):=⟨_,rfl⟩;obtain ⟨B,hB⟩:=HBV.out;rw [hB] at CK;have HBB:Hid (∀ (h:k < pts.length),chkP s commit esc pts[k]=B):=fun _=>hB
   obtain ⟨j,hj⟩:∃ j,pts[k].1=j:=⟨_,rfl⟩;obtain ⟨s',hs⟩:∃ s,pts[k].2.1=s:=⟨_,rfl⟩;obtain ⟨m,hm⟩:∃ m,pts[k].2.2=m:=⟨_,rfl⟩;rw [hj] at a0 CK;rw [hs] at a1 CK;rw [hm] at a2 CK;clear hj hs hm hB hpc HBV;go_upto_region 4 with (fail)
   go_region_held3 (fun w'=>Kept [] wr w') (first|assumption|exact (Kept.refl _ _).drew|exact Kept.alloc (by assumption) _)
    (first
     | (go_at_call 40;with_reducible refine (kept_from (W:=wr) (by assumption) (CK.out _ (by assumption))).mono ?_;rintro e w6 ⟨rfl,hk6⟩)
     | fail)
   clear a0 a1 a2 x0 x1 x2 x3 x4
   cases B
   ·go_wp2_with fail
    go_ret3
    have hno:allB s commit esc pts=false:=Bool.eq_false_iff.2 fun h=>by
     have h1:=HBB.out hltp;rw [allB_mem h (List.getElem_mem hltp)] at h1
     cases h1
    exact ⟨⟨(0,0,1),Or.inl ⟨hno,rfl⟩,rfl⟩,hkW.trans (hkr.trans hk6)⟩
   ·have HA2:Hid (∀ i (h:i < pts.length),i < k+1→chkP s commit esc pts[i]=true):=fun i h hi=>by
     rcases Nat.lt_or_ge i k with h1|h1
     ·exact HA.out i h h1
     ·obtain rfl:i=k:=by omega
      exact HBB.out h
    go_wp2_with fail
    go_roundw
    case rel=>exact ⟨k+1,by omega,by go_num,HA2,hkr.trans hk6⟩
    case measure=>simp [intOf];omega
  ·obtain rfl:k=n:=by omega
   have HAL:Hid (allB s commit esc pts=true):=List.all_eq_true.2 fun p hp=>by
    obtain ⟨i,hi,rfl⟩:=List.mem_iff_getElem.1 hp;exact HA.out i hi (by have:=HNL.out;omega)
   obtain ⟨w1,hw1⟩:∃ W,W=wr:=⟨_,rfl⟩;subst hw1;have k1:=hkr;have hb1:=k1.size;clear HA CH hkr;go_wp2_with fail
   go_loopw [12,13,14,15] (fun vx vf vg vi wr=>∃ (i:Nat) (ax:Option Addr) (cx:Nat) (af:Option Addr) (cf:Nat) (ag:Option Addr) (cg:Nat),i≤k∧vi=.int .i64 i∧vx=.slice ax i cx∧vf=.slice af i cf∧vg=.slice ag i cg∧Hid (Tri w1.heap.size wr (.slice ax i cx) (.slice af i cf) (.slice ag i cg) i i i (X.take i) (F.take i) (G.take i))∧Hid ((X.take i).Pairwise (·≠·))∧Kept [] w1 wr) (fun _ _ _ vi _=>k - (intOf vi).toNat)
   case atStart=>exact ⟨0,none,0,none,0,none,0,by omega,rfl,rfl,rfl,rfl,⟨by simpa [ints] using World.ownsRow_nil _ _ _ _,by simpa [ints] using World.ownsRow_nil _ _ _ _,by simpa [ints] using World.ownsRow_nil _ _ _ _,by simp [obl,Value.ownBlock],by simp [obl,Value.ownBlock],by simp [obl,Value.ownBlock]⟩,List.Pairwise.nil,Kept.refl _ _⟩
   case round =>
    obtain ⟨i,ax,cx,af,cf,ag,cg,hik,rfl,rfl,rfl,rfl,HT,HD,hkr⟩:=hrel;have hsz:=hkr.size
    by_cases hlti:i < k
    ·have hip:i < pts.length:=by have:=HNL.out;omega
     have hix:i < X.length:=by have:=HXl.out;omega
     obtain ⟨bp,op,rfl,hpc⟩:=PC.out i hip;have HPC:=Lib.hid hpc;have EX:=Lib.hid (EXA.out i hip);have EF:=Lib.hid (EFA.out i hip);have EG:=Lib.hid (EGA.out i hip)
     have HYES:Hid (decide (X[i]∈X.take i)=true→nodupB pts=false):=fun hm=>by
      unfold nodupB
      rw [HXF.out.1];exact decide_eq_false (not_dup hix (of_decide_eq_true hm))
     have HNO:Hid (decide (X[i]∈X.take i)=false→(X.take (i+1)).Pairwise (·≠·)):=fun hm=>dup_next hix HD.out (of_decide_eq_false hm);have hXi:=HXG.out.1 i hip hix;rw [hXi] at HYES HNO
     have hlen:(X.take i).length=i:=by rw [List.length_take];omega
     have HH:Hid (∀ x,Calls Tryz.prog 104 #[.slice ax i cx,.int .i64 x] wr fun e w2=>e=.returned (.bool (decide (x∈X.take i)))∧Kept [] wr w2):=fun x=>by
      have:=rhas_any (.slice ax i cx) (X.take i) x wr (by rw [hlen];exact Row.of_own HT.out.ox (by omega));exact this
     have HHX:=Lib.hid (HH.out pts[i].1);obtain ⟨j,hj⟩:∃ j,pts[i].1=j:=⟨_,rfl⟩;obtain ⟨s',hs⟩:∃ s,pts[i].2.1=s:=⟨_,rfl⟩;obtain ⟨m,hm⟩:∃ m,pts[i].2.2=m:=⟨_,rfl⟩;rw [hj,hs,hm] at HPC;rw [hj] at EX HYES HNO HHX;rw [hs] at EF;rw [hm] at EG;obtain ⟨B,hB⟩:∃ B,decide (j∈X.take i)=B:=⟨_,rfl⟩;rw [hB] at HYES HNO HHX;clear hpc hXi hlen HH hj hs hm hB;have a0:=(HPC.out wr (k1.trans hkr)).1;go_wp2_with (go_at_call 104;refine HHX.out.mono ?_);rintro e w2 ⟨rfl,k2⟩;clear a0
     cases B
     ·have hD2:=Lib.hid (HNO.out (by first|rfl|trivial));have T2:=Lib.hid (HT.out.keep (k2.alloc (.cells #[.int .i64 j] 3)));have K2:Kept [] w1 (w2.alloc (.cells #[.int .i64 j] 3)):=(hkr.trans k2).alloc _;have a0:=(HPC.out w2 (k1.trans (hkr.trans k2))).1;have b2:=K2.size;go_wp2_with (at_builtin;refine wpList_append_ints rfl _ _ rfl w1.heap.size (.slice ax i cx) i (X.take i) rfl T2.out.ox _ 1 [j] rfl (Row.one1 _ _) (by omega) b2 ?_);intro a3 c3 w3 own3 kk3 t3;have T3:=Lib.hid (T2.out.px own3 kk3 (fun z hz=>(t3 z hz).imp id (fun e=>by rw [World.size_alloc];exact e)));have K3:Kept [] w1 w3:=K2.fresh kk3 (fun z hz=>(own_ge T2.out.ox z hz).1);clear own3 kk3 t3 T2 K2 a0 b2;have T4:=Lib.hid (T3.out.keep ((Kept.refl [] w3).alloc (.cells #[.int .i64 s'] 3)));have K4:Kept [] w1 (w3.alloc (.cells #[.int .i64 s'] 3)):=K3.alloc _;have a1:=(HPC.out w3 (k1.trans K3)).2.1;have b4:=K4.size;go_wp2_with (at_builtin;refine wpList_append_ints rfl _ _ rfl w1.heap.size (.slice af i cf) i (F.take i) rfl T4.out.of_ _ 1 [s'] rfl (Row.one1 _ _) (by omega) b4 ?_);intro a5 c5 w5 own5 kk5 t5;have T5:=Lib.hid (T4.out.pf own5 kk5 (fun z hz=>(t5 z hz).imp id (fun e=>by rw [World.size_alloc];exact e)));have K5:Kept [] w1 w5:=K4.fresh kk5 (fun z hz=>(own_ge T4.out.of_ z hz).1);clear own5 kk5 t5 T3 T4 K4 a1 b4 K3;have T6:=Lib.hid (T5.out.keep ((Kept.refl [] w5).alloc (.cells #[.int .i64 m] 3)));have K6:Kept [] w1 (w5.alloc (.cells #[.int .i64 m] 3)):=K5.alloc _;have a2:=(HPC.out w5 (k1.trans K5)).2.2;have b6:=K6.size
      go_wp2_with (at_builtin;refine wpList_append_ints rfl _ _ rfl w1.heap.size (.slice ag i cg) i (G.take i) rfl T6.out.og _ 1 [m] rfl (Row.one1 _ _) (by omega) b6 ?_);intro a7 c7 w7 own7 kk7 t7;have T7:=Lib.hid (T6.out.pg own7 kk7 (fun z hz=>(t7 z hz).imp id (fun e=>by rw [World.size_alloc];exact e)));have K7:Kept [] w1 w7:=K6.fresh kk7 (fun z hz=>(own_ge T6.out.og z hz).1);rw [EX.out,EF.out,EG.out] at T7;clear own7 kk7 t7 T5 T6 K6 a2 b6 K5;go_wp2_with fail
      go_roundw
      case rel=>exact ⟨i+1,a3,c3,a5,c5,a7,c7,by omega,by go_num,rfl,rfl,rfl,T7,hD2,K7⟩
      case measure=>simp [intOf];omega
     ·go_wp2_with fail
      go_ret3
      exact ⟨⟨(0,0,5),Or.inr (Or.inl ⟨HAL.out,HYES.out (by first|rfl|trivial),rfl⟩),rfl⟩,hkW.trans (k1.trans (hkr.trans k2))⟩
    ·obtain rfl:i=k:=by omega
     have HND:Hid (nodupB pts=true):=by
      show _=_
      unfold nodupB
      rw [HXF.out.1];have:=HD.out;rw [List.take_of_length_le (by have:=HXl.out;omega)] at this;exact decide_eq_true this
     have RX:Hid (Row wr 1 (.slice ax i cx) i (ints X)):=by
      have:=Row.of_own HT.out.ox (by omega)
      rwa [List.take_of_length_le (by have:=HXl.out;omega)] at this
     have RF:Hid (Row wr 1 (.slice af i cf) i (ints F)):=by
      have:=Row.of_own HT.out.of_ (by omega)
      rwa [List.take_of_length_le (by have:=HFl.out;omega)] at this
     have RG:Hid (Row wr 1 (.slice ag i cg) i (ints G)):=by
      have:=Row.of_own HT.out.og (by omega)
      rwa [List.take_of_length_le (by have:=HGl.out;omega)] at this
     have hk0:=hkW.trans (k1.trans hkr);have EQ:Hid (∀ w',Kept [] wr w'→w'.cell? ⟨w.heap.size,1,none⟩=some (.int .i64 s.Q)):=fun w' kk=>(K.out w' (k1.trans (hkr.trans kk))).2.1;obtain ⟨R,hR⟩:∃ R,R=wr:=⟨_,rfl⟩;subst hR
     have hwN:IntKind.i64.wrap ((esc.length:Int)+1)=((esc.length+1:Nat):Int):=by rw [IntKind.wrap_i64];omega
     obtain ⟨N1,hN1⟩:∃ N1,esc.length+1=N1:=⟨_,rfl⟩;rw [hN1] at hwN;have HN1:=Lib.hid hN1;clear HT HD hN1 EXA EFA EGA PC
     by_cases hq:i < N1
     ·go_wp2_with fail
      go_ret3
      exact ⟨⟨(0,0,18),Or.inr (Or.inr (Or.inl ⟨HAL.out,HND.out,by have:=HN1.out;have:=HNL.out;omega,rfl⟩)),rfl⟩,hk0⟩
     have hN0:0 < N1:=by have:=HN1.out;omega
     have hNi:N1≤i:=by omega
     have hne:0 < pts.length:=by have:=HNL.out;omega
     obtain ⟨hset,_,_⟩:=chkZ_yes (allB_mem HAL.out (List.getElem_mem hne));obtain ⟨q,hok,hg,hqt⟩:=setupB_q hset;have hpr:Prm.primeN q=true:=(Bool.and_eq_true_iff.1 hg).1;have hq5:=hok.h5;have hqq:=hok.hq;have hQ:=hok.hQ;have hpl:=places HAL.out hQ N1;rw [HXF.out.1] at hpl;have hdd:=nodupB_pw HND.out;rw [HXF.out.1] at hdd;have hddt:=hdd.sublist (List.take_sublist N1 X)
     have h12:X.length≤12:=few12 hdd (fun x hx=>by
      rw [←HXF.out.1] at hx;obtain ⟨p,hp,rfl⟩:=List.mem_map.1 hx;obtain ⟨_,_,h1,h2,_⟩:=chkZ_yes (allB_mem HAL.out hp)
      exact ⟨h1,h2⟩)
     have hXl:=HXl.out;have hFl:=HFl.out;have hGl:=HGl.out
     have hlX:(X.take N1).length=N1:=by rw [List.length_take];omega
     have hlF:(F.take N1).length=N1:=by rw [List.length_take];omega
     have hlG:(G.take N1).length=N1:=by rw [List.length_take];omega
     have hiF:∀ y∈F.take N1,Wire.I64 y:=fun y hy=>by
      have hy:=List.mem_of_mem_take hy;rw [←HXF.out.2.1] at hy;obtain ⟨p,hp,rfl⟩:=List.mem_map.1 hy;obtain ⟨z,hz,rfl⟩:=List.mem_iff_getElem.1 hp;exact (HIP.out z hz).2.1
     have hiG:∀ y∈G.take N1,Wire.I64 y:=fun y hy=>by
      have hy:=List.mem_of_mem_take hy;rw [←HXF.out.2.2] at hy;obtain ⟨p,hp,rfl⟩:=List.mem_map.1 hy;obtain ⟨z,hz,rfl⟩:=List.mem_iff_getElem.1 hp;exact (HIP.out z hz).2.2
     have hxc:=RX.out.cap;have hfc:=RF.out.cap;have hgc:=RG.out.cap
     have TA:Hid (∀ w',Kept [] R w'→Calls Tryz.prog 105 #[.int .i64 s.Q,.slice ax N1 cx,.slice af N1 cf] w' (ThrQ q (X.take N1) (F.take N1) w')):=fun w' k=>by
      have h1:=(RX.out.kept k).head N1 hNi;have h2:=(RF.out.kept k).head N1 hNi;rw [hQ];exact rthrough_any q (X.take N1) (F.take N1) _ _ w' (by omega) (by omega) hpr h1 h2 (by omega) (by omega) hpl hddt hiF
     have TB:Hid (∀ w',Kept [] R w'→Calls Tryz.prog 105 #[.int .i64 s.Q,.slice ax N1 cx,.slice ag N1 cg] w' (ThrQ q (X.take N1) (G.take N1) w')):=fun w' k=>by
      have h1:=(RX.out.kept k).head N1 hNi;have h2:=(RG.out.kept k).head N1 hNi;rw [hQ];exact rthrough_any q (X.take N1) (G.take N1) _ _ w' (by omega) (by omega) hpr h1 h2 (by omega) (by omega) hpl hddt hiG
     have ixc:(N1:Int)≤(cx:Int):=by omega
     have ifc:(N1:Int)≤(cf:Int):=by omega
     have igc:(N1:Int)≤(cg:Int):=by omega
     have HQ:=Lib.hid hQ;have HQT:=Lib.hid hqt;clear hset hok hg hqt hpr hQ hpl hdd hddt h12 hXl hFl hGl hlX hlF hlG hiF hiG;have eq:=EQ.out R (Kept.refl _ _);have hkq:Kept [] R R:=Kept.refl _ _;go_upto_region 21 with (fail);clear eq
     go_region_held3 (fun w'=>Kept [] R w') (repeat (first|(with_reducible assumption)|(with_reducible exact hkq)|(with_reducible refine Kept.drew ?_)))
      (first
       | ((go_at_call 105;refine (TA.out _ (by assumption)).mono ?_;rintro e w3 ⟨va,la,rfl,hla1,hla2,hla3,hva,hk3⟩;replace hla1:=Lib.hid hla1;have ht3:Kept [] R w3:=Kept.trans (by assumption) hk3))
       | fail)
     rename_i hHeld;clear hHeld;obtain ⟨aa,ca,rfl,_,_⟩:=hva.form
     have HLA:Hid ((la.length:Nat)=N1):=by show _=_;rw [hla1.out];rw [List.length_take];have:=HXl.out;omega
     go_upto_region 22 with (fail)
     go_region_held3 (fun w'=>Kept [] R w') (repeat (first|(with_reducible assumption)|(with_reducible exact ht3)|(with_reducible refine Kept.drew ?_)))
      (first
       | ((go_at_call 105;refine (TB.out _ (by assumption)).mono ?_;rintro e w4 ⟨vb,lb,rfl,hlb1,hlb2,hlb3,hvb,hk4⟩;replace hlb1:=Lib.hid hlb1;have hd4:Kept [] w3 w4:=((Kept.refl [] w3).drew).trans hk4;have ht4:Kept [] R w4:=Kept.trans (by assumption) hk4))
       | fail)
     rename_i hHeld;clear hHeld;obtain ⟨ab,cb,rfl,_,_⟩:=hvb.form
     have HLB:Hid ((lb.length:Nat)=N1):=by show _=_;rw [hlb1.out];rw [List.length_take];have:=HXl.out;omega
     have hva4:=hva.kept hd4
     have h1q:1≤q:=by omega
     have AA:Hid (∀ (x:Int) w',Wire.I64 x→Kept [] w4 w'→Calls Tryz.prog 93 #[.int .i64 s.Q,.slice aa la.length ca,.int .i64 x] w' fun e w2=>e=.returned (.int .i64 ((atZ q x la:Nat):Int))∧Kept [] w' w2):=fun x w' hx k=>by
      rw [HQ.out];exact rat_any q x la _ w' h1q (by omega) hx (hva4.kept k) (fun c hc=>by have:=hla2 c hc;exact ⟨by omega,by omega⟩)
     have BB:Hid (∀ (x:Int) w',Wire.I64 x→Kept [] w4 w'→Calls Tryz.prog 93 #[.int .i64 s.Q,.slice ab lb.length cb,.int .i64 x] w' fun e w2=>e=.returned (.int .i64 ((atZ q x lb:Nat):Int))∧Kept [] w' w2):=fun x w' hx k=>by
      rw [HQ.out];exact rat_any q x lb _ w' h1q (by omega) hx (hvb.kept k) (fun c hc=>by have:=hlb2 c hc;exact ⟨by omega,by omega⟩)
     have HTH:Hid (thruB s esc pts la lb):=by
      show thruB _ _ _ _ _
      unfold thruB
      rw [HQT.out,HXF.out.1,HXF.out.2.1,HXF.out.2.2,HN1.out];exact ⟨⟨hla1.out,hla2,hla3⟩,hlb1.out,hlb2,hlb3⟩
     clear hva hvb hva4 hd4 ht3 hla1 hla2 hla3 hlb1 hlb2 hlb3 TA TB;go_wp2_with fail
     go_loopw [22] (fun vi wr=>∃ z:Nat,z≤i∧vi=.int .i64 z∧Hid (∀ t (h:t < pts.length),t < z→(((atZ q pts[t].1 la:Nat):Int)==pts[t].2.1&&((atZ q pts[t].1 lb:Nat):Int)==pts[t].2.2)=true)∧Kept [] w4 wr) (fun vi _=>i - (intOf vi).toNat)
     case atStart=>exact ⟨0,by omega,rfl,fun t h hz=>by omega,Kept.refl _ _⟩
     case round =>
      obtain ⟨z,hz,rfl,HAG,hkz⟩:=hrel;have hkR:=ht4.trans hkz
      by_cases hlz:z < i
      ·have hzp:z < pts.length:=by have:=HNL.out;omega
       have hzX:z < X.length:=by have:=HXl.out;omega
       have hzF:z < F.length:=by have:=HFl.out;omega
       have hzG:z < G.length:=by have:=HGl.out;omega
       obtain ⟨bx,ox,rfl,hcx⟩:=RX.out.at_ (by omega);obtain ⟨bf,of_,rfl,hcf⟩:=RF.out.at_ (by omega);obtain ⟨bg,og,rfl,hcg⟩:=RG.out.at_ (by omega)
       have xa:∀ x:KW wr,x.val.cell? ⟨bx,ox+z,none⟩=some (.int .i64 pts[z].1):=fun x=>by
        rw [←HXG.out.1 z hzp hzX];exact Kept.cellOf (hcx z _ (ints_get hzX)) _ (hkR.trans x.property)
       have ya:∀ x:KW wr,x.val.cell? ⟨bf,of_+z,none⟩=some (.int .i64 pts[z].2.1):=fun x=>by
        rw [←HXG.out.2.1 z hzp hzF];exact Kept.cellOf (hcf z _ (ints_get hzF)) _ (hkR.trans x.property)
       have yb:∀ x:KW wr,x.val.cell? ⟨bg,og+z,none⟩=some (.int .i64 pts[z].2.2):=fun x=>by
        rw [←HXG.out.2.2 z hzp hzG];exact Kept.cellOf (hcg z _ (ints_get hzG)) _ (hkR.trans x.property)
       have hix:=(HIP.out z hzp).1;have C1:Hid (∀ x:KW wr,Calls Tryz.prog 93 #[.int .i64 s.Q,.slice aa la.length ca,.int .i64 pts[z].1] x.val fun e w2=>e=.returned (.int .i64 ((atZ q pts[z].1 la:Nat):Int))∧Kept [] x.val w2):=fun x=>AA.out _ _ hix (hkz.trans x.property);have C2:Hid (∀ x:KW wr,Calls Tryz.prog 93 #[.int .i64 s.Q,.slice ab lb.length cb,.int .i64 pts[z].1] x.val fun e w2=>e=.returned (.int .i64 ((atZ q pts[z].1 lb:Nat):Int))∧Kept [] x.val w2):=fun x=>BB.out _ _ hix (hkz.trans x.property)
       have HNX:Hid ((((atZ q pts[z].1 la:Nat):Int)==pts[z].2.1&&((atZ q pts[z].1 lb:Nat):Int)==pts[z].2.2)=true→∀ t (h:t < pts.length),t < z+1→(((atZ q pts[t].1 la:Nat):Int)==pts[t].2.1&&((atZ q pts[t].1 lb:Nat):Int)==pts[t].2.2)=true):=fun e t h ht=>by
        rcases Nat.lt_or_ge t z with h1|h1
        ·exact HAG.out t h h1
        ·obtain rfl:t=z:=by omega
         exact e
       have HFL:Hid ((((atZ q pts[z].1 la:Nat):Int)==pts[z].2.1&&((atZ q pts[z].1 lb:Nat):Int)==pts[z].2.2)=false→agreeB q la lb pts=false):=fun e=>by
        unfold agreeB
        refine Bool.eq_false_iff.2 fun h=>?_;have:=List.all_eq_true.1 h _ (List.getElem_mem hzp);rw [e] at this
        cases this
       obtain ⟨xz,hxz⟩:∃ y,pts[z].1=y:=⟨_,rfl⟩;obtain ⟨fz,hfz⟩:∃ y,pts[z].2.1=y:=⟨_,rfl⟩;obtain ⟨gz,hgz⟩:∃ y,pts[z].2.2=y:=⟨_,rfl⟩;rw [hxz] at xa C1 C2 HNX HFL;rw [hfz] at ya HNX HFL;rw [hgz] at yb HNX HFL;obtain ⟨A,hA⟩:∃ y,atZ q xz la=y:=⟨_,rfl⟩;obtain ⟨B,hB⟩:∃ y,atZ q xz lb=y:=⟨_,rfl⟩;rw [hA] at C1 HNX HFL;rw [hB] at C2 HNX HFL;clear hcx hcf hcg hxz hfz hgz hA hB hix
       cases e0:((A:Int) != fz)
       ·cases e1:((B:Int) != gz)
        ·have HN2:=Lib.hid (HNX.out (by rw [show ((A:Int)==fz)=true by simpa using e0,show ((B:Int)==gz)=true by simpa using e1];rfl));clear HNX HFL;go_upto_region 26 with (fail);refine wp_region_kept wr (Kept.refl _ _) (by kernel_rfl) (by kernel_rfl) ?_
         repeat (go_big_quiet_step (first|(go_at_call_of 93 (Value.slice aa la.length ca);exact quiet_kept (C1.out _))|(go_at_call_of 93 (Value.slice ab lb.length cb);exact quiet_kept (C2.out _))))
         refine wpQuiet_nil ?_;rintro w5 ⟨⟨_,hk5⟩,rfl⟩;go_wp2_with fail
         go_roundw
         case rel=>exact ⟨z+1,by omega,by go_num,HN2,hkz.trans hk5⟩
         case measure=>simp [intOf];omega
        ·have HN2:=Lib.hid (HFL.out (by rw [show ((B:Int)==gz)=false by simpa using e1];simp));clear HNX HFL;go_upto_region 26 with (fail);refine wp_region_kept wr (Kept.refl _ _) (by kernel_rfl) (by kernel_rfl) ?_
         repeat (go_big_quiet_step (first|(go_at_call_of 93 (Value.slice aa la.length ca);exact quiet_kept (C1.out _))|(go_at_call_of 93 (Value.slice ab lb.length cb);exact quiet_kept (C2.out _))))
         refine wpQuiet_nil ?_;rintro w5 ⟨⟨_,hk5⟩,rfl⟩;go_wp2_with fail
         go_ret3
         refine ⟨⟨(0,0,20),Or.inr (Or.inr (Or.inr ⟨HAL.out,HND.out,by have:=HN1.out;have:=HNL.out;omega,la,lb,HTH.out,?_⟩)),rfl⟩,hk0.trans (hkR.trans hk5)⟩;rw [HQT.out,HN2.out]
         rfl
       ·have HN2:=Lib.hid (HFL.out (by rw [show ((A:Int)==fz)=false by simpa using e0];simp));clear HNX HFL;go_upto_region 26 with (fail);refine wp_region_kept wr (Kept.refl _ _) (by kernel_rfl) (by kernel_rfl) ?_
        repeat (go_big_quiet_step (first|(go_at_call_of 93 (Value.slice aa la.length ca);exact quiet_kept (C1.out _))|(go_at_call_of 93 (Value.slice ab lb.length cb);exact quiet_kept (C2.out _))))
        refine wpQuiet_nil ?_;rintro w5 ⟨⟨_,hk5⟩,rfl⟩;go_wp2_with fail
        go_ret3
        refine ⟨⟨(0,0,20),Or.inr (Or.inr (Or.inr ⟨HAL.out,HND.out,by have:=HN1.out;have:=HNL.out;omega,la,lb,HTH.out,?_⟩)),rfl⟩,hk0.trans (hkR.trans hk5)⟩;rw [HQT.out,HN2.out]
        rfl
      ·obtain rfl:z=i:=by omega
       have HN2:Hid (agreeB q la lb pts=true):=by
        show _=_
        unfold agreeB
        refine List.all_eq_true.2 fun p hp=>?_;obtain ⟨t,ht,rfl⟩:=List.mem_iff_getElem.1 hp;exact HAG.out t ht (by have:=HNL.out;omega)
       have C1:=Lib.hid (AA.out 0 wr ⟨by omega,by omega⟩ hkz);go_wp2_with (go_at_call_of 93 (Value.slice aa la.length ca);refine C1.out.mono ?_);rintro e w5 ⟨rfl,hk5⟩;have C2:=Lib.hid (BB.out 0 w5 ⟨by omega,by omega⟩ (hkz.trans hk5));go_wp2_with (go_at_call_of 93 (Value.slice ab lb.length cb);refine C2.out.mono ?_);rintro e w6 ⟨rfl,hk6⟩;go_wp2_with fail
       go_ret3
       refine ⟨⟨(((atZ q 0 la:Nat):Int),((atZ q 0 lb:Nat):Int),0),Or.inr (Or.inr (Or.inr ⟨HAL.out,HND.out,by have:=HN1.out;have:=HNL.out;omega,la,lb,HTH.out,?_⟩)),rfl⟩,hk0.trans (hkR.trans (hk5.trans hk6))⟩;rw [HQT.out,HN2.out]
       rfl
end Go.Proofs.YtpcdfepndmconaaGreatDoor
