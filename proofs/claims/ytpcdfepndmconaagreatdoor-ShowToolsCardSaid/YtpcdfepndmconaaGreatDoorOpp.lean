/- The program's Open. -/
import Derived.Test.YtpcdfepndmconaaGreatDoorNwh
import Derived.Test.YtpcdfepndmconaaGreatDoorThp
import Derived.Test.YtpcdfepndmconaaGreatDoorAtf
namespace Go.Proofs.YtpcdfepndmconaaGreatDoor
open Go.RowKit Go.Maps
theorem atKeyI (l:List Int) (x:Int):∀ k,k≤l.length→(setOf tru ((l.take k).map (Lit.int .i64))).atKey (.int .i64 x) (.lit (.bool false))=.lit (.bool (decide (x∈l.take k)))
 | 0,_=>by
  rw [List.take_zero,List.map_nil];exact atKey_of_not_has rfl _
 | k+1,h=>by
  have hlt:k < l.length:=by omega
  rw [List.take_succ_eq_append_getElem hlt,List.map_append,List.map_cons,List.map_nil,setOf_snoc]
  by_cases he:x=l[k]
  ·have hm:l[k]∈l.take k++[l[k]]:=List.mem_append_right _ List.mem_cons_self;rw [he,atKey_put_same (tidy_setOf tru _ (keyLit .i64 _)).isMap (by trivial),decide_eq_true hm]
  ·have hm:x∈l.take k++[l[k]]↔x∈l.take k:=⟨fun h=>(List.mem_append.1 h).elim id (fun h=>absurd (List.mem_singleton.1 h) he),fun h=>List.mem_append_left _ h⟩;rw [atKey_put_other (key_ne he),atKeyI l x k (by omega),decide_eq_decide.2 hm]
set_option maxRecDepth 100000 in
theorem look_z {w:World} {b n:Nat} {D:DataW Unit} (h:w.ownsMap Tryz.prog 3 (plainElem Tryz.prog 4) b n D) (key:Int) (B:Bool) (hw:(Lit.int .i64 key).wf=true) (hat:D.atKey (.int .i64 key) (.lit (.bool false))=.lit (.bool B)) :
  (Instr.lookup 128 (.map (some b)) (.int .i64 key) false).run Tryz.prog w=.ok (.bool B) w:=by
 obtain ⟨v,ps,hrun,hv⟩:=h.lookup keyedI Tryz.underlying128 (zeroB w) (plainElem_bool Tryz.underlying4 false) (keyOf_int_mk Tryz.underlying3 hw);rw [hat] at hv
 have:v=.bool B:=by
  unfold plainElem at hv
  rw [Tryz.underlying4] at hv
  cases v <;> simp at hv
  rename_i x;rw [hv.1]
 rw [hrun,this]
theorem Row.head {w:World} {n c:Nat} {a:Option Addr} {l:List Int} (h:Row w 1 (.slice a n c) n (ints l)) (m:Nat) (hm:m≤n):Row w 1 (.slice a m c) (l.take m).length (ints (l.take m)):=by
 obtain ⟨h1,h2,a',c',hv,hcc,hc⟩:=h;injection hv with e1 e2 e3;subst e1;subst e3
 have hl:l.length=n:=by simpa [ints] using h1
 have hlm:(l.take m).length=m:=by rw [List.length_take];omega
 rw [hlm];refine ⟨by simp [ints];omega,by omega,a,c,rfl,by omega,fun hm0=>?_⟩;obtain ⟨b,off,ha,hcell⟩:=hc (by omega);refine ⟨b,off,ha,fun k u hu=>hcell k u ?_⟩;simp only [ints,List.map_take,List.getElem?_take] at hu
 split at hu
 ·exact hu
 ·cases hu
/-- how Open ends -/
def OpenQ (s:Stp) (commit:Int) (esc:List Int) (pts:List Pnt3) (w:World) (e:Ending) (w':World):Prop:=(∃ r,OpenR s commit esc pts r∧e=.returned (ansV r))∧Kept [] w w'
theorem not_dup {X:List Int} {k:Nat} (hk:k < X.length) (hm:X[k]∈X.take k):¬ X.Pairwise (·≠·):=fun h=>by
 obtain ⟨i,hi,he⟩:=List.mem_iff_getElem.1 hm;rw [List.length_take] at hi;rw [List.getElem_take] at he;exact List.pairwise_iff_getElem.1 h i k (by omega) hk (by omega) he
theorem dup_next {X:List Int} {k:Nat} (hk:k < X.length) (h:(X.take k).Pairwise (·≠·)) (hm:¬ X[k]∈X.take k):(X.take (k+1)).Pairwise (·≠·):=by
 rw [List.take_succ_eq_append_getElem hk,List.pairwise_append];refine ⟨h,List.pairwise_singleton _ _,fun a ha b hb=>?_⟩;rw [List.mem_singleton] at hb;subst hb;exact fun e=>hm (e▸ha)
set_option linter.unusedSimpArgs false
set_option maxRecDepth 100000 in
set_option maxHeartbeats 16000000 in
theorem open_any (s:Stp) (sv ve vp:Value) (commit:Int) (esc:List Int) (pts:List Pnt3) (w:World) (hs:StpV w sv s) (he:Row w 1 ve esc.length (ints esc)) (hp:Row w 3 vp pts.length (ints (flatP pts))) (hn15:pts.length≤15)
  (hie:∀ x∈esc,Wire.I64 x) (hic:Wire.I64 commit) (hip:∀ p∈pts,Wire.I64 p.1∧Wire.I64 p.2.1∧Wire.I64 p.2.2) (hel:esc.length≤1000) (hEn:Env2 w) :
  Calls Tryz.prog 41 #[sv,.int .i64 commit,ve,vp] w (OpenQ s commit esc pts w):=by
 have hs':=hs;obtain ⟨⟨sa,sc,rfl,hrow⟩,_,_,_,_,_⟩:=hs;obtain ⟨ae,ce,rfl,hle,_⟩:=he.form;obtain ⟨n,hnl⟩:∃ n,n=pts.length:=⟨_,rfl⟩;rw [←hnl] at hp hn15;obtain ⟨ap,cp,rfl,hlp,_⟩:=hp.form;obtain ⟨W,hW⟩:∃ W,w.alloc (.cells (stpA s (.slice sa s.bases.length sc)) 26)=W:=⟨_,rfl⟩;have hb:Blk W w.heap.size 26 (stpA s (.slice sa s.bases.length sc)):=hW▸Blk.new _ _ _;have hkW:Kept [] w W:=hW▸(Kept.refl _ _).alloc _;have hEW:Env2 W:=hEn.kept0 hkW;have HS:=Lib.hid (hs'.kept hkW);have HE:=Lib.hid (he.kept hkW);have HP:=Lib.hid (hp.kept hkW);have HNL:=Lib.hid hnl
 have K:Hid (∀ w',Kept [] W w'→w'.cell? ⟨w.heap.size,0,none⟩=some (.int .i64 s.P)∧w'.cell? ⟨w.heap.size,1,none⟩=some (.int .i64 s.Q)∧w'.cell? ⟨w.heap.size,2,none⟩=some (.int .i64 s.G)∧w'.cell? ⟨w.heap.size,3,none⟩=some (.slice sa s.bases.length sc)∧w'.cell? ⟨w.heap.size,4,none⟩=some (.int .i64 s.blind)) :=
  fun w' k=>⟨(hb.kept k (by simp)).cell 0,(hb.kept k (by simp)).cell 1,(hb.kept k (by simp)).cell 2,(hb.kept k (by simp)).cell 3,(hb.kept k (by simp)).cell 4⟩
 have HW:Hid (w.alloc (.cells #[.int .i64 s.P,.int .i64 s.Q,.int .i64 s.G,.slice sa s.bases.length sc,.int .i64 s.blind] 26)=W):=hW
 have CH:Hid (∀ k (h:k < pts.length) w',Kept [] W w'→Calls Tryz.prog 39 #[.agg #[.int .i64 s.P,.int .i64 s.Q,.int .i64 s.G,.slice sa s.bases.length sc,.int .i64 s.blind],.int .i64 commit,.slice ae esc.length ce,.agg #[.int .i64 pts[k].1,.int .i64 pts[k].2.1,.int .i64 pts[k].2.2]] w' fun e w2=>e=.returned (.bool (chkP s commit esc pts[k]))∧Kept [] w' w2) :=
  fun k h w' kk=>check_any s _ _ commit esc _ _ _ w' (HS.out.kept kk) (HE.out.kept kk) hie hic (hip _ (List.getElem_mem h)).1 (hip _ (List.getElem_mem h)).2.1 (hip _ (List.getElem_mem h)).2.2 (hEW.kept0 kk)
 have PC:Hid (∀ k (h:k < pts.length),∃ bp op,ap=some ⟨bp,op,none⟩∧∀ w',Kept [] W w'→w'.cell? ⟨bp,op+k*3,none⟩=some (.int .i64 pts[k].1)∧w'.cell? ⟨bp,op+k*3+1,none⟩=some (.int .i64 pts[k].2.1)∧w'.cell? ⟨bp,op+k*3+2,none⟩=some (.int .i64 pts[k].2.2)):=fun k h=>by
  obtain ⟨bp,op,e,hc⟩:=HP.out.at_ (by omega);obtain ⟨f1,f2,f3⟩:=flatP_get pts k h;refine ⟨bp,op,e,fun w' kk=>⟨Kept.cellOf (hc (k*3) _ (by simp [ints,f1])) w' kk,?_,?_⟩⟩
  ·exact Kept.cellOf (hc (k*3+1) _ (by simp [ints,f2])) w' kk
  ·exact Kept.cellOf (hc (k*3+2) _ (by simp [ints,f3])) w' kk
 obtain ⟨X,hX⟩:∃ X,pts.map (·.1)=X:=⟨_,rfl⟩;obtain ⟨F,hF⟩:∃ X,pts.map (·.2.1)=X:=⟨_,rfl⟩;obtain ⟨G,hG⟩:∃ X,pts.map (·.2.2)=X:=⟨_,rfl⟩
 have hXl:X.length=n:=by rw [←hX];simp [hnl]
 have hFl:F.length=n:=by rw [←hF];simp [hnl]
 have hGl:G.length=n:=by rw [←hG];simp [hnl]
 have HXl:=Lib.hid hXl;have HFl:=Lib.hid hFl;have HGl:=Lib.hid hGl;have HXF:Hid (pts.map (·.1)=X∧pts.map (·.2.1)=F∧pts.map (·.2.2)=G):=⟨hX,hF,hG⟩
 have hXg:∀ k (h:k < pts.length) (h':k < X.length),X[k]=pts[k].1:=fun k h h'=>by subst hX;simp
 have hFg:∀ k (h:k < pts.length) (h':k < F.length),F[k]=pts[k].2.1:=fun k h h'=>by subst hF;simp
 have hGg:∀ k (h:k < pts.length) (h':k < G.length),G[k]=pts[k].2.2:=fun k h h'=>by subst hG;simp
 have HXG:=Lib.hid (And.intro hXg (And.intro hFg hGg))
 have EXA:Hid (∀ k (h:k < pts.length),ints (X.take k)++[.int .i64 pts[k].1]=ints (X.take (k+1))):=fun k h=>by
  rw [List.take_succ_eq_append_getElem (by omega),hXg k h];simp [ints]
 have EFA:Hid (∀ k (h:k < pts.length),ints (F.take k)++[.int .i64 pts[k].2.1]=ints (F.take (k+1))):=fun k h=>by
  rw [List.take_succ_eq_append_getElem (by omega),hFg k h];simp [ints]
 have EGA:Hid (∀ k (h:k < pts.length),ints (G.take k)++[.int .i64 pts[k].2.2]=ints (G.take (k+1))):=fun k h=>by
  rw [List.take_succ_eq_append_getElem (by omega),hGg k h];simp [ints]
 have HIP:Hid (∀ k (h:k < pts.length),Wire.I64 pts[k].1∧Wire.I64 pts[k].2.1∧Wire.I64 pts[k].2.2):=fun k h=>hip _ (List.getElem_mem h);have hmm:=@run_makeMap Tryz.prog;obtain ⟨i0,hi,hz0,hz1,hz2⟩:=info_parts infoInt;clear hW hb hrow he hp hs' hie hic hip hnl hX hF hG hXl hFl hGl hXg hFg hGg
 go_enter Tryz.func41,Tryz.ntmps41
 go_wp2_with fail;rw [HW.out]
 go_loopw [11,12,13,15,29] (fun vx vf vg _ vi wr=>∃ (k:Nat) (ax:Option Addr) (cx:Nat) (af:Option Addr) (cf:Nat) (ag:Option Addr) (cg:Nat),k≤n∧vi=.int .i64 k∧vx=.slice ax k cx∧vf=.slice af k cf∧vg=.slice ag k cg ∧
   Dis ax af∧Dis ax ag∧Dis af ag∧wr.ownsRow W.heap.size 3 1 (.slice ax k cx) k (ints (X.take k))∧wr.ownsRow W.heap.size 3 1 (.slice af k cf) k (ints (F.take k)) ∧
   wr.ownsRow W.heap.size 3 1 (.slice ag k cg) k (ints (G.take k))∧Hid (∀ i (h:i < pts.length),i < k→chkP s commit esc pts[i]=true)∧Kept [] W wr) (fun _ _ _ _ vi _=>n - (intOf vi).toNat)
 case atStart=>exact ⟨0,none,0,none,0,none,0,by omega,rfl,rfl,rfl,rfl,by simp [Dis,bl],by simp [Dis,bl],by simp [Dis,bl],by simpa [ints] using World.ownsRow_nil _ _ _ _,by simpa [ints] using World.ownsRow_nil _ _ _ _,by simpa [ints] using World.ownsRow_nil _ _ _ _,fun i h hi=>by omega,Kept.refl _ _⟩
 case round =>
  obtain ⟨k,ax,cx,af,cf,ag,cg,hk,rfl,rfl,rfl,rfl,nxf,nxg,nfg,ox,of_,og,HA,hkr⟩:=hrel;have HX:=Lib.hid ox;have HF:=Lib.hid of_;have HG:=Lib.hid og
  by_cases hlt:k < n
  ·have hltp:k < pts.length:=by have:=HNL.out;omega
   obtain ⟨bp,op,rfl,hpc⟩:=PC.out k hltp;obtain ⟨a0,a1,a2⟩:=hpc wr hkr;have HC:=Lib.hid (CH.out k hltp);have EX:=Lib.hid (EXA.out k hltp);have EF:=Lib.hid (EFA.out k hltp);have EG:=Lib.hid (EGA.out k hltp);have HBV:Hid (∃ B,chkP s commit esc pts[k]=B):=⟨_,rfl⟩;obtain ⟨B,hB⟩:=HBV.out;rw [hB] at HC;have HBB:Hid (∀ (h:k < pts.length),chkP s commit esc pts[k]=B):=fun _=>hB;obtain ⟨j,hj⟩:∃ j,pts[k].1=j:=⟨_,rfl⟩;obtain ⟨s',hs⟩:∃ s,pts[k].2.1=s:=⟨_,rfl⟩;obtain ⟨m,hm⟩:∃ m,pts[k].2.2=m:=⟨_,rfl⟩;rw [hj] at a0 HC EX;rw [hs] at a1 HC EF;rw [hm] at a2 HC EG;have kZ:Kept [] W (wr.alloc (.cells #[.int .i64 j,.int .i64 s',.int .i64 m] 78)):=hkr.alloc _;have bZ:=Blk.new wr 78 #[.int .i64 j,.int .i64 s',.int .i64 m];obtain ⟨Zw,hZ⟩:∃ Z',wr.alloc (.cells #[.int .i64 j,.int .i64 s',.int .i64 m] 78)=Z':=⟨_,rfl⟩;have kwZ:Kept [] wr Zw:=hZ▸(Kept.refl _ _).alloc _;obtain ⟨b,hbq⟩:∃ b,wr.heap.size=b:=⟨_,rfl⟩;rw [hZ] at kZ bZ;rw [hbq] at bZ;have HZ:=Lib.hid hZ;obtain ⟨e0,e1,e2,e3,e4⟩:=K.out Zw kZ;clear hZ hj hs hm hB hpc HBV;go_upto_region 5 with (fail);rw [HZ.out];have b0:Zw.cell? ⟨b,0,none⟩=some (.int .i64 j):=bZ.cell 0;have b1:Zw.cell? ⟨b,1,none⟩=some (.int .i64 s'):=bZ.cell 1;have b2:Zw.cell? ⟨b,2,none⟩=some (.int .i64 m):=bZ.cell 2;go_wp2_with (go_at_call 39;refine (HC.out _ kZ).mono ?_);rintro e w1 ⟨rfl,hk1⟩;clear e0 e1 e2 e3 e4 b0 b1 b2 a0 a1 a2
   cases B
   ·go_wp2_with fail
    go_ret3
    have hno:allB s commit esc pts=false:=Bool.eq_false_iff.2 fun h=>by
     have h1:=HBB.out hltp;rw [allB_mem h (List.getElem_mem hltp)] at h1
     cases h1
    exact ⟨⟨(0,0,1),Or.inl ⟨hno,rfl⟩,rfl⟩,hkW.trans (kZ.trans hk1)⟩
   have HA2:Hid (∀ i (h:i < pts.length),i < k+1→chkP s commit esc pts[i]=true):=fun i h hi=>by
    rcases Nat.lt_or_ge i k with h1|h1
    ·exact HA.out i h h1
    ·obtain rfl:i=k:=by omega
     exact HBB.out h
   have k1:=kZ.trans hk1;have kw1:=kwZ.trans hk1;have hs1:=k1.size;have hsw:=kw1.size;have bZ1:=bZ.kept hk1 (by simp);have lx:=own_bl_lt ox;have lf:=own_bl_lt of_;have lg:=own_bl_lt og;have ox1:=own_nk ox kw1 (by simp);have of1:=own_nk of_ kw1 (by simp);have og1:=own_nk og kw1 (by simp);rw [hbq] at lx lf lg
   have hbS:b∉bl ax++(bl af++bl ag):=by
    simp only [List.mem_append];rintro (h|h|h)
    ·have:=lx b h;omega
    ·have:=lf b h;omega
    ·have:=lg b h;omega
   have dis_x:∀ z∈bl ax,z∉bl af++bl ag:=fun z hz h=>(List.mem_append.1 h).elim (nxf z hz) (nxg z hz);have dis_f:∀ z∈bl af,z∉bl ax++bl ag:=fun z hz h=>(List.mem_append.1 h).elim (fun h=>nxf z h hz) (nfg z hz);have dis_g:∀ z∈bl ag,z∉bl ax++bl af:=fun z hz h=>(List.mem_append.1 h).elim (fun h=>nxg z h hz) (fun h=>nfg z h hz);have q0:∀ w',Kept (bl ax++(bl af++bl ag)) w1 w'→w'.cell? ⟨b,0,none⟩=some (.int .i64 j):=fun w' k=>(k.cell (p:=⟨b,0,none⟩) bZ1.lt hbS).trans (bZ1.cell 0);have q1:∀ w',Kept (bl ax++(bl af++bl ag)) w1 w'→w'.cell? ⟨b,1,none⟩=some (.int .i64 s'):=fun w' k=>(k.cell (p:=⟨b,1,none⟩) bZ1.lt hbS).trans (bZ1.cell 1);have q2:∀ w',Kept (bl ax++(bl af++bl ag)) w1 w'→w'.cell? ⟨b,2,none⟩=some (.int .i64 m):=fun w' k=>(k.cell (p:=⟨b,2,none⟩) bZ1.lt hbS).trans (bZ1.cell 2)
   have lx1:∀ z∈bl ax,z < w1.heap.size:=fun z hz=>by have:=lx z hz;omega
   have lf1:∀ z∈bl af,z < w1.heap.size:=fun z hz=>by have:=lf z hz;omega
   have lg1:∀ z∈bl ag,z < w1.heap.size:=fun z hz=>by have:=lg z hz;omega
   have LX:=Lib.hid lx;have LF:=Lib.hid lf;have LG:=Lib.hid lg;have NXF:=Lib.hid nxf;have NXG:=Lib.hid nxg;have NFG:=Lib.hid nfg;clear lx lf lg nxf nxg nfg ox of_ og;go_upto_region 7 with (fail)
   go_region_held3 (fun w'=>Kept (bl ax++(bl af++bl ag)) w1 w') (repeat (first|(with_reducible assumption)|(with_reducible exact Kept.refl _ _)|(with_reducible refine Kept.drew ?_)|(with_reducible refine Kept.alloc ?_ _)|(with_reducible refine Kept.grownS (by assumption) ?_ (by intro z hz;simp only [List.mem_append];first|exact Or.inl hz|exact Or.inr (Or.inl hz)|exact Or.inr (Or.inr hz)|exact Or.inr hz|exact hz))))
    (first
     | ((refine step_append_lies _ rfl _ _ 24 rfl W.heap.size 3 i0 (.int .i64 0) 1 8 Tryz.underlying24 hi hz0 hz1 hz2 rfl (by decide) (.slice ax k cx) _ _ rfl (own_nk (S:=bl af++bl ag) ox1 (by (repeat (first|(with_reducible assumption)|(with_reducible exact Kept.refl _ _)|(with_reducible refine Kept.drew ?_)|(with_reducible refine Kept.alloc ?_ _)|(with_reducible refine Kept.grownS (by assumption) ?_ (by intro z hz;simp only [List.mem_append];first|exact Or.inl hz|exact Or.inr (Or.inl hz)|exact Or.inr (Or.inr hz)|exact Or.inr hz|exact hz))))) (dis_x)) _ 1 1 [.int .i64 j] rfl rfl (news_blk (T:=3) (by (repeat (first|(refine blk_new' (by simp only [World.size_alloc,World.drew]) _ _)|(with_reducible refine Blk.alloc ?_ _)|(with_reducible refine Blk.drew ?_)|(refine nb_grown (by assumption) ?_ (by intro h;(first|(have h1:=lx1 _ h)|(have h1:=lf1 _ h)|(have h1:=lg1 _ h));(try have sX:=hgX.size);(try have sF:=hgF.size);(try simp only [World.size_alloc,World.drew] at h1);(try simp only [World.size_alloc,World.drew] at sX);(try simp only [World.size_alloc,World.drew] at sF);omega)))))) (by intro u hu;rw [List.mem_singleton] at hu;subst hu;rfl) (by omega) (by unfold maxLen;omega) (by omega) (Nat.le_trans (m:=w1.heap.size) hs1 (Kept.size (S:=bl ax++(bl af++bl ag)) (w:=w1) (by (repeat (first|(with_reducible assumption)|(with_reducible exact Kept.refl _ _)|(with_reducible refine Kept.drew ?_)|(with_reducible refine Kept.alloc ?_ _)|(with_reducible refine Kept.grownS (by assumption) ?_ (by intro z hz;simp only [List.mem_append];first|exact Or.inl hz|exact Or.inr (Or.inl hz)|exact Or.inr (Or.inr hz)|exact Or.inr hz|exact hz))))))) _ rfl ?_;intro gX cX wX hownX hgX hlX hltX))
     | ((refine step_append_lies _ rfl _ _ 24 rfl W.heap.size 3 i0 (.int .i64 0) 1 8 Tryz.underlying24 hi hz0 hz1 hz2 rfl (by decide) (.slice af k cf) _ _ rfl (own_nk (S:=bl ax++bl ag) of1 (by (repeat (first|(with_reducible assumption)|(with_reducible exact Kept.refl _ _)|(with_reducible refine Kept.drew ?_)|(with_reducible refine Kept.alloc ?_ _)|(with_reducible refine Kept.grownS (by assumption) ?_ (by intro z hz;simp only [List.mem_append];first|exact Or.inl hz|exact Or.inr (Or.inl hz)|exact Or.inr (Or.inr hz)|exact Or.inr hz|exact hz))))) (dis_f)) _ 1 1 [.int .i64 s'] rfl rfl (news_blk (T:=3) (by (repeat (first|(refine blk_new' (by simp only [World.size_alloc,World.drew]) _ _)|(with_reducible refine Blk.alloc ?_ _)|(with_reducible refine Blk.drew ?_)|(refine nb_grown (by assumption) ?_ (by intro h;(first|(have h1:=lx1 _ h)|(have h1:=lf1 _ h)|(have h1:=lg1 _ h));(try have sX:=hgX.size);(try have sF:=hgF.size);(try simp only [World.size_alloc,World.drew] at h1);(try simp only [World.size_alloc,World.drew] at sX);(try simp only [World.size_alloc,World.drew] at sF);omega)))))) (by intro u hu;rw [List.mem_singleton] at hu;subst hu;rfl) (by omega) (by unfold maxLen;omega) (by omega) (Nat.le_trans (m:=w1.heap.size) hs1 (Kept.size (S:=bl ax++(bl af++bl ag)) (w:=w1) (by (repeat (first|(with_reducible assumption)|(with_reducible exact Kept.refl _ _)|(with_reducible refine Kept.drew ?_)|(with_reducible refine Kept.alloc ?_ _)|(with_reducible refine Kept.grownS (by assumption) ?_ (by intro z hz;simp only [List.mem_append];first|exact Or.inl hz|exact Or.inr (Or.inl hz)|exact Or.inr (Or.inr hz)|exact Or.inr hz|exact hz))))))) _ rfl ?_;intro gF cF wF hownF hgF hlF hltF))
     | ((refine step_append_lies _ rfl _ _ 24 rfl W.heap.size 3 i0 (.int .i64 0) 1 8 Tryz.underlying24 hi hz0 hz1 hz2 rfl (by decide) (.slice ag k cg) _ _ rfl (own_nk (S:=bl ax++bl af) og1 (by (repeat (first|(with_reducible assumption)|(with_reducible exact Kept.refl _ _)|(with_reducible refine Kept.drew ?_)|(with_reducible refine Kept.alloc ?_ _)|(with_reducible refine Kept.grownS (by assumption) ?_ (by intro z hz;simp only [List.mem_append];first|exact Or.inl hz|exact Or.inr (Or.inl hz)|exact Or.inr (Or.inr hz)|exact Or.inr hz|exact hz))))) (dis_g)) _ 1 1 [.int .i64 m] rfl rfl (news_blk (T:=3) (by (repeat (first|(refine blk_new' (by simp only [World.size_alloc,World.drew]) _ _)|(with_reducible refine Blk.alloc ?_ _)|(with_reducible refine Blk.drew ?_)|(refine nb_grown (by assumption) ?_ (by intro h;(first|(have h1:=lx1 _ h)|(have h1:=lf1 _ h)|(have h1:=lg1 _ h));(try have sX:=hgX.size);(try have sF:=hgF.size);(try simp only [World.size_alloc,World.drew] at h1);(try simp only [World.size_alloc,World.drew] at sX);(try simp only [World.size_alloc,World.drew] at sF);omega)))))) (by intro u hu;rw [List.mem_singleton] at hu;subst hu;rfl) (by omega) (by unfold maxLen;omega) (by omega) (Nat.le_trans (m:=w1.heap.size) hs1 (Kept.size (S:=bl ax++(bl af++bl ag)) (w:=w1) (by (repeat (first|(with_reducible assumption)|(with_reducible exact Kept.refl _ _)|(with_reducible refine Kept.drew ?_)|(with_reducible refine Kept.alloc ?_ _)|(with_reducible refine Kept.grownS (by assumption) ?_ (by intro z hz;simp only [List.mem_append];first|exact Or.inl hz|exact Or.inr (Or.inl hz)|exact Or.inr (Or.inr hz)|exact Or.inr hz|exact hz))))))) _ rfl ?_;intro gG cG wG hownG hgG hlG hltG)))
   all_goals rename_i hHeld
   all_goals clear q0 q1 q2
   all_goals clear hHeld
   all_goals
    have sX:=hgX.size;have sF:=hgF.size;have sG:=hgG.size;simp only [World.size_alloc,World.drew] at sX sF sG hlX hlF hlG;have hb1:=bZ1.lt
    have dXF:gX≠gF:=by
     intro h
     rcases hlX with h1|h1 <;> rcases hlF with h2|h2
     ·exact NXF.out gX (own_bl h1) (h▸own_bl h2)
     ·have:=LX.out gX (own_bl h1);omega
     ·have:=LF.out gF (own_bl h2);omega
     ·omega
    have dXG:gX≠gG:=by
     intro h
     rcases hlX with h1|h1 <;> rcases hlG with h2|h2
     ·exact NXG.out gX (own_bl h1) (h▸own_bl h2)
     ·have:=LX.out gX (own_bl h1);omega
     ·have:=LG.out gG (own_bl h2);omega
     ·omega
    have dFG:gF≠gG:=by
     intro h
     rcases hlF with h1|h1 <;> rcases hlG with h2|h2
     ·exact NFG.out gF (own_bl h1) (h▸own_bl h2)
     ·have:=LF.out gF (own_bl h1);omega
     ·have:=LG.out gG (own_bl h2);omega
     ·omega
    have nX:∀ z∈bl (some ⟨gX,0,none⟩),z∉bl af++bl ag:=by
     intro z hz;simp only [bl,List.mem_singleton] at hz;subst hz
     rcases hlX with h1|h1
     ·exact dis_x _ (own_bl h1)
     ·intro h
      rcases List.mem_append.1 h with h|h
      ·have:=LF.out _ h;omega
      ·have:=LG.out _ h;omega
    have nF:∀ z∈bl (some ⟨gF,0,none⟩),z∉bl ax++bl ag:=by
     intro z hz;simp only [bl,List.mem_singleton] at hz;subst hz
     rcases hlF with h1|h1
     ·exact dis_f _ (own_bl h1)
     ·intro h
      rcases List.mem_append.1 h with h|h
      ·have:=LX.out _ h;omega
      ·have:=LG.out _ h;omega
    have nG:∀ z∈bl (some ⟨gG,0,none⟩),z∉bl ax++bl af:=by
     intro z hz;simp only [bl,List.mem_singleton] at hz;subst hz
     rcases hlG with h1|h1
     ·exact dis_g _ (own_bl h1)
     ·intro h
      rcases List.mem_append.1 h with h|h
      ·have:=LX.out _ h;omega
      ·have:=LF.out _ h;omega
    rw [EX.out] at hownX;rw [EF.out] at hownF;rw [EG.out] at hownG
    have hSB:∀ z∈bl ax++(bl af++bl ag),W.heap.size≤z:=by
     intro z hz;simp only [List.mem_append] at hz
     rcases hz with h|h|h
     ·exact (LX.out z h).1
     ·exact (LF.out z h).1
     ·exact (LG.out z h).1
    clear sX sF sG hlX hlF hlG hltX hltF hltG;go_wp2_with fail
    go_roundw
    case rel=>exact ⟨k+1,_,_,_,_,_,_,by omega,by go_num,rfl,rfl,rfl,by intro z hz;simp [bl] at hz ⊢;omega,by intro z hz;simp [bl] at hz ⊢;omega,by intro z hz;simp [bl] at hz ⊢;omega,own_nk (S:=bl af++bl ag) hownX (by (repeat (first|(with_reducible assumption)|(with_reducible exact Kept.refl _ _)|(with_reducible refine Kept.drew ?_)|(with_reducible refine Kept.alloc ?_ _)|(with_reducible refine Kept.grownS (by assumption) ?_ (by intro z hz;simp only [List.mem_append];first|exact Or.inl hz|exact Or.inr (Or.inl hz)|exact Or.inr (Or.inr hz)|exact Or.inr hz|exact hz))))) nX,own_nk (S:=bl ax++bl ag) hownF (by (repeat (first|(with_reducible assumption)|(with_reducible exact Kept.refl _ _)|(with_reducible refine Kept.drew ?_)|(with_reducible refine Kept.alloc ?_ _)|(with_reducible refine Kept.grownS (by assumption) ?_ (by intro z hz;simp only [List.mem_append];first|exact Or.inl hz|exact Or.inr (Or.inl hz)|exact Or.inr (Or.inr hz)|exact Or.inr hz|exact hz))))) nF,own_nk (S:=bl ax++bl af) hownG (by (repeat (first|(with_reducible assumption)|(with_reducible exact Kept.refl _ _)|(with_reducible refine Kept.drew ?_)|(with_reducible refine Kept.alloc ?_ _)|(with_reducible refine Kept.grownS (by assumption) ?_ (by intro z hz;simp only [List.mem_append];first|exact Or.inl hz|exact Or.inr (Or.inl hz)|exact Or.inr (Or.inr hz)|exact Or.inr hz|exact hz))))) nG,HA2,k1.fresh (S':=bl ax++(bl af++bl ag)) (by (repeat (first|(with_reducible assumption)|(with_reducible exact Kept.refl _ _)|(with_reducible refine Kept.drew ?_)|(with_reducible refine Kept.alloc ?_ _)|(with_reducible refine Kept.grownS (by assumption) ?_ (by intro z hz;simp only [List.mem_append];first|exact Or.inl hz|exact Or.inr (Or.inl hz)|exact Or.inr (Or.inr hz)|exact Or.inr hz|exact hz))))) hSB⟩
    case measure=>simp [intOf];omega
  ·obtain rfl:k=n:=by omega
   have RX:Hid (Row wr 1 (.slice ax k cx) k (ints X)):=by
    have:=Row.of_own HX.out (by omega)
    rwa [List.take_of_length_le (by have:=HXl.out;omega)] at this
   have RF:Hid (Row wr 1 (.slice af k cf) k (ints F)):=by
    have:=Row.of_own HF.out (by omega)
    rwa [List.take_of_length_le (by have:=HFl.out;omega)] at this
   have RG:Hid (Row wr 1 (.slice ag k cg) k (ints G)):=by
    have:=Row.of_own HG.out (by omega)
    rwa [List.take_of_length_le (by have:=HGl.out;omega)] at this
   have HAL:Hid (allB s commit esc pts=true):=List.all_eq_true.2 fun p hp=>by
    obtain ⟨i,hi,rfl⟩:=List.mem_iff_getElem.1 hp;exact HA.out i hi (by have:=HNL.out;omega)
   have hk0:=hkW.trans hkr;have hEr:Env2 wr:=hEW.kept0 hkr;have EQ:Hid (∀ w',Kept [] wr w'→w'.cell? ⟨w.heap.size,1,none⟩=some (.int .i64 s.Q)):=fun w' kk=>(K.out w' (hkr.trans kk)).2.1;clear nxf nxg nfg ox of_ og HX HF HG CH PC HA EXA EFA EGA;obtain ⟨e0,e1,e2,e3,e4⟩:=K.out wr hkr;have HER:=Lib.hid hEr;clear e0 e1 e2 e3 e4 hEr;go_wp2_with fail;have hown0:=World.ownsMap_made (H:=Unit) wr Tryz.prog 3 (plainElem Tryz.prog 4);have hkM:Kept [] wr (wr.alloc (.map #[] 0)):=(Kept.refl _ _).alloc _;obtain ⟨R,hR⟩:∃ R,wr=R:=⟨_,rfl⟩;rw [hR] at hown0 hkM ⊢;rw [hR] at hk0 RX RF RG EQ HER;have HO0:=Lib.hid hown0;clear hR hown0
   go_loopw [18,58] (fun _ vi wr=>∃ i:Nat,i≤k∧vi=.int .i64 i∧Hid (wr.ownsMap Tryz.prog 3 (plainElem Tryz.prog 4) R.heap.size i (setOf tru ((X.take i).map (Lit.int .i64))))∧Hid ((X.take i).Pairwise (·≠·))∧Kept [] R wr) (fun _ vi _=>k - (intOf vi).toNat)
   case atStart=>exact ⟨0,by omega,rfl,HO0,List.Pairwise.nil,hkM⟩
   case round =>
    obtain ⟨i,hik,rfl,HO,HD,hkq⟩:=hrel
    by_cases hlti:i < k
    ·obtain ⟨bx,ox,rfl,hcx⟩:=RX.out.at_ (by omega)
     have hix:i < X.length:=by have:=HXl.out;omega
     have hip:i < pts.length:=by have:=HNL.out;omega
     have xa:wr.cell? ⟨bx,ox+i,none⟩=some (.int .i64 X[i]):=Kept.cellOf (hcx i _ (ints_get hix)) wr hkq
     have hii:Wire.I64 X[i]:=by rw [HXG.out.1 i hip hix];exact (HIP.out i hip).1
     have hat:=atKeyI X X[i] i (by omega)
     have HN:Hid ((setOf tru ((X.take i).map (Lit.int .i64))).put (.int .i64 X[i]) tru=setOf tru ((X.take (i+1)).map (Lit.int .i64))):=by
      show _=_
      rw [List.take_succ_eq_append_getElem hix,List.map_append,List.map_cons,List.map_nil,setOf_snoc]
     have HYES:Hid (X[i]∈X.take i→nodupB pts=false):=fun hm=>by
      unfold nodupB
      rw [HXF.out.1];exact decide_eq_false (not_dup hix hm)
     have HNO:Hid (¬ X[i]∈X.take i→(X.take (i+1)).Pairwise (·≠·)):=fun hm=>dup_next hix HD.out hm;have hdec:∃ B,decide (X[i]∈X.take i)=B:=⟨_,rfl⟩;obtain ⟨B,hB⟩:=hdec;have HBB:Hid (decide (X[i]∈X.take i)=B):=hB;rw [hB] at hat;have HX':Hid (B=true→nodupB pts=false):=fun e=>HYES.out (of_decide_eq_true (hB.trans e));have HN':Hid (B=false→(X.take (i+1)).Pairwise (·≠·)):=fun e=>HNO.out (of_decide_eq_false (hB.trans e));clear HYES HNO HBB hB;obtain ⟨x,hx⟩:∃ x,X[i]=x:=⟨_,rfl⟩;rw [hx] at xa hii hat HN;obtain ⟨D,hD⟩:∃ D,setOf tru ((X.take i).map (Lit.int .i64))=D:=⟨_,rfl⟩;rw [hD] at HO HN hat;have hown:=HO.out;have hwf:(Lit.int .i64 x).wf=true:=WalkArith.wf_i64 ⟨hii.1,by have:=hii.2;omega⟩;have hl:=look_z hown x B hwf hat;clear hcx hx hD hat hii
     cases B
     ·go_wp2_with (at_mapUpdate;refine wpList_mapUpdate_own _ rfl _ _ _ 128 rfl 3 4 keyedI Tryz.underlying128 _ R.heap.size i _ rfl hown (by unfold maxLen;omega) _ _ _ rfl rfl (keyOf_int_mk Tryz.underlying3 hwf) _ [] (plainElem_bool Tryz.underlying4 true) ?_;intro w2 hown2 hgrow2);have hk2:Kept [] R w2:=hkq.grown hgrow2 (fun k e=>by cases e;exact Or.inr (Nat.le_refl _))
      have HO2:Hid (w2.ownsMap Tryz.prog 3 (plainElem Tryz.prog 4) R.heap.size (i+1) (setOf tru ((X.take (i+1)).map (Lit.int .i64)))):=by
       rw [←HN.out];exact hown2
      clear hgrow2 hl xa hown hown2;go_wp2_with fail
      go_roundw
      case rel=>exact ⟨i+1,by omega,by go_num,HO2,HN'.out (by first|rfl|trivial),hk2⟩
      case measure=>simp [intOf];omega
     ·go_wp2_with fail
      go_ret3
      exact ⟨⟨(0,0,5),Or.inr (Or.inl ⟨HAL.out,HX'.out (by first|rfl|trivial),rfl⟩),rfl⟩,hk0.trans hkq⟩
    ·obtain rfl:i=k:=by omega
     have HND:Hid (nodupB pts=true):=by
      show _=_
      unfold nodupB
      rw [HXF.out.1];have:=HD.out;rw [List.take_of_length_le (by have:=HXl.out;omega)] at this;exact decide_eq_true this
     have hwN:IntKind.i64.wrap ((esc.length:Int)+1)=((esc.length+1:Nat):Int):=by rw [IntKind.wrap_i64];omega
     obtain ⟨N1,hN1⟩:∃ N1,esc.length+1=N1:=⟨_,rfl⟩;rw [hN1] at hwN;have HN1:=Lib.hid hN1;clear HO HD hN1
     by_cases hq:i < N1
     ·go_wp2_with fail
      go_ret3
      exact ⟨⟨(0,0,18),Or.inr (Or.inr (Or.inl ⟨HAL.out,HND.out,by have:=HN1.out;have:=HNL.out;omega,rfl⟩)),rfl⟩,hk0.trans hkq⟩
     have hN0:0 < N1:=by have:=HN1.out;omega
     have hNi:N1≤i:=by omega
     have hne:0 < pts.length:=by have:=HNL.out;omega
     obtain ⟨hset,_,_⟩:=chkZ_yes (allB_mem HAL.out (List.getElem_mem hne));obtain ⟨q,hok,hg,hqt⟩:=setupB_q hset;have hpr:Prm.primeN q=true:=(Bool.and_eq_true_iff.1 hg).1;have hq5:=hok.h5;have hqq:=hok.hq;have hQ:=hok.hQ;have hpl:=places HAL.out hQ N1;rw [HXF.out.1] at hpl;have hdd:=nodupB_pw HND.out;rw [HXF.out.1] at hdd;have hddt:=hdd.sublist (List.take_sublist N1 X)
     have h12:X.length≤12:=few12 hdd (fun x hx=>by
      rw [←HXF.out.1] at hx;obtain ⟨p,hp,rfl⟩:=List.mem_map.1 hx;obtain ⟨_,_,h1,h2,_⟩:=chkZ_yes (allB_mem HAL.out hp)
      exact ⟨h1,h2⟩)
     have hXl:=HXl.out;have hFl:=HFl.out;have hGl:=HGl.out
     have hlX:(X.take N1).length=N1:=by rw [List.length_take];omega
     have hlF:(F.take N1).length=N1:=by rw [List.length_take];omega
     have hlG:(G.take N1).length=N1:=by rw [List.length_take];omega
     have hiF:∀ y∈F.take N1,Wire.I64 y:=fun y hy=>by
      have hy:=List.mem_of_mem_take hy;rw [←HXF.out.2.1] at hy;obtain ⟨p,hp,rfl⟩:=List.mem_map.1 hy;obtain ⟨z,hz,rfl⟩:=List.mem_iff_getElem.1 hp;exact (HIP.out z hz).2.1
     have hiG:∀ y∈G.take N1,Wire.I64 y:=fun y hy=>by
      have hy:=List.mem_of_mem_take hy;rw [←HXF.out.2.2] at hy;obtain ⟨p,hp,rfl⟩:=List.mem_map.1 hy;obtain ⟨z,hz,rfl⟩:=List.mem_iff_getElem.1 hp;exact (HIP.out z hz).2.2
     have hxc:=RX.out.cap;have hfc:=RF.out.cap;have hgc:=RG.out.cap
     have TA:Hid (∀ w',Kept [] R w'→Calls Tryz.prog 103 #[.int .i64 s.Q,.slice ax N1 cx,.slice af N1 cf] w' (ThrQ q (X.take N1) (F.take N1) w')):=fun w' k=>by
      have h1:=(RX.out.kept k).head N1 hNi;have h2:=(RF.out.kept k).head N1 hNi;rw [hQ];exact fthrough_any q (X.take N1) (F.take N1) _ _ w' (by omega) (by omega) hpr h1 h2 (by omega) (by omega) (by omega) hpl hddt hiF (HER.out.kept0 k)
     have TB:Hid (∀ w',Kept [] R w'→Calls Tryz.prog 103 #[.int .i64 s.Q,.slice ax N1 cx,.slice ag N1 cg] w' (ThrQ q (X.take N1) (G.take N1) w')):=fun w' k=>by
      have h1:=(RX.out.kept k).head N1 hNi;have h2:=(RG.out.kept k).head N1 hNi;rw [hQ];exact fthrough_any q (X.take N1) (G.take N1) _ _ w' (by omega) (by omega) hpr h1 h2 (by omega) (by omega) (by omega) hpl hddt hiG (HER.out.kept0 k)
     have ixc:(N1:Int)≤(cx:Int):=by omega
     have ifc:(N1:Int)≤(cf:Int):=by omega
     have igc:(N1:Int)≤(cg:Int):=by omega
     have HQ:=Lib.hid hQ;have HQT:=Lib.hid hqt;have hd0:decide ((i:Int) < (N1:Int))=false:=decide_eq_false (by omega);clear hset hok hg hqt hpr hQ hpl hdd hddt h12 hXl hFl hGl hlX hlF hlG hiF hiG;have eq:=EQ.out wr hkq;go_upto_region 21 with (fail);clear eq
     go_region_held3 (fun w'=>Kept [] R w') (repeat (first|(with_reducible assumption)|(with_reducible exact hkq)|(with_reducible refine Kept.drew ?_)))
      (first
       | ((go_at_call 103;refine (TA.out _ (by assumption)).mono ?_;rintro e w3 ⟨va,la,rfl,hla1,hla2,hla3,hva,hk3⟩;replace hla1:=Lib.hid hla1;have ht3:Kept [] R w3:=Kept.trans (by assumption) hk3))
       | fail)
     rename_i hHeld;clear hHeld;obtain ⟨aa,ca,rfl,_,_⟩:=hva.form
     have HLA:Hid ((la.length:Nat)=N1):=by show _=_;rw [hla1.out];rw [List.length_take];have:=HXl.out;omega
     go_upto_region 22 with (fail)
     go_region_held3 (fun w'=>Kept [] R w') (repeat (first|(with_reducible assumption)|(with_reducible exact ht3)|(with_reducible refine Kept.drew ?_)))
      (first
       | ((go_at_call 103;refine (TB.out _ (by assumption)).mono ?_;rintro e w4 ⟨vb,lb,rfl,hlb1,hlb2,hlb3,hvb,hk4⟩;replace hlb1:=Lib.hid hlb1;have hd4:Kept [] w3 w4:=((Kept.refl [] w3).drew).trans hk4;have ht4:Kept [] R w4:=Kept.trans (by assumption) hk4))
       | fail)
     rename_i hHeld;clear hHeld;obtain ⟨ab,cb,rfl,_,_⟩:=hvb.form
     have HLB:Hid ((lb.length:Nat)=N1):=by show _=_;rw [hlb1.out];rw [List.length_take];have:=HXl.out;omega
     have hva4:=hva.kept hd4
     have h1q:1≤q:=by omega
     have AA:Hid (∀ (x:Int) w',Wire.I64 x→Kept [] w4 w'→Calls Tryz.prog 88 #[.int .i64 s.Q,.slice aa la.length ca,.int .i64 x] w' fun e w2=>e=.returned (.int .i64 ((atZ q x la:Nat):Int))∧Kept [] w' w2):=fun x w' hx k=>by
      rw [HQ.out];exact fat_any q x la _ w' h1q (by omega) hx (hva4.kept k) (fun c hc=>by have:=hla2 c hc;exact ⟨by omega,by omega⟩) (by have:=HLA.out;omega) (by have:=HLA.out;omega)
     have BB:Hid (∀ (x:Int) w',Wire.I64 x→Kept [] w4 w'→Calls Tryz.prog 88 #[.int .i64 s.Q,.slice ab lb.length cb,.int .i64 x] w' fun e w2=>e=.returned (.int .i64 ((atZ q x lb:Nat):Int))∧Kept [] w' w2):=fun x w' hx k=>by
      rw [HQ.out];exact fat_any q x lb _ w' h1q (by omega) hx (hvb.kept k) (fun c hc=>by have:=hlb2 c hc;exact ⟨by omega,by omega⟩) (by have:=HLB.out;omega) (by have:=HLB.out;omega)
     have HTH:Hid (thruB s esc pts la lb):=by
      show thruB _ _ _ _ _
      unfold thruB
      rw [HQT.out,HXF.out.1,HXF.out.2.1,HXF.out.2.2,HN1.out];exact ⟨⟨hla1.out,hla2,hla3⟩,hlb1.out,hlb2,hlb3⟩
     clear hva hvb hva4 hd4 ht3 hla1 hla2 hla3 hlb1 hlb2 hlb3 TA TB;go_wp2_with fail
     go_loopw [25,26,102] (fun _ _ vi wr=>∃ z:Nat,z≤i∧vi=.int .i64 z∧Hid (∀ t (h:t < pts.length),t < z→(((atZ q pts[t].1 la:Nat):Int)==pts[t].2.1&&((atZ q pts[t].1 lb:Nat):Int)==pts[t].2.2)=true)∧Kept [] w4 wr) (fun _ _ vi _=>i - (intOf vi).toNat)
     case atStart=>exact ⟨0,by omega,rfl,fun t h hz=>by omega,Kept.refl _ _⟩
     case round =>
      obtain ⟨z,hz,rfl,HAG,hkz⟩:=hrel;have hkR:=ht4.trans hkz
      by_cases hlz:z < i
      ·have hzp:z < pts.length:=by have:=HNL.out;omega
       have hzX:z < X.length:=by have:=HXl.out;omega
       have hzF:z < F.length:=by have:=HFl.out;omega
       have hzG:z < G.length:=by have:=HGl.out;omega
       obtain ⟨bx,ox,rfl,hcx⟩:=RX.out.at_ (by omega);obtain ⟨bf,of_,rfl,hcf⟩:=RF.out.at_ (by omega);obtain ⟨bg,og,rfl,hcg⟩:=RG.out.at_ (by omega)
       have xa:wr.cell? ⟨bx,ox+z,none⟩=some (.int .i64 pts[z].1):=by
        rw [←HXG.out.1 z hzp hzX];exact Kept.cellOf (hcx z _ (ints_get hzX)) wr hkR
       have ya:∀ x:KW wr,x.val.cell? ⟨bf,of_+z,none⟩=some (.int .i64 pts[z].2.1):=fun x=>by
        rw [←HXG.out.2.1 z hzp hzF];exact Kept.cellOf (hcf z _ (ints_get hzF)) _ (hkR.trans x.property)
       have yb:∀ x:KW wr,x.val.cell? ⟨bg,og+z,none⟩=some (.int .i64 pts[z].2.2):=fun x=>by
        rw [←HXG.out.2.2 z hzp hzG];exact Kept.cellOf (hcg z _ (ints_get hzG)) _ (hkR.trans x.property)
       have hix:=(HIP.out z hzp).1;have C1:Hid (∀ x:KW wr,Calls Tryz.prog 88 #[.int .i64 s.Q,.slice aa la.length ca,.int .i64 pts[z].1] x.val fun e w2=>e=.returned (.int .i64 ((atZ q pts[z].1 la:Nat):Int))∧Kept [] x.val w2):=fun x=>AA.out _ _ hix (hkz.trans x.property);have C2:Hid (∀ x:KW wr,Calls Tryz.prog 88 #[.int .i64 s.Q,.slice ab lb.length cb,.int .i64 pts[z].1] x.val fun e w2=>e=.returned (.int .i64 ((atZ q pts[z].1 lb:Nat):Int))∧Kept [] x.val w2):=fun x=>BB.out _ _ hix (hkz.trans x.property)
       have HNX:Hid ((((atZ q pts[z].1 la:Nat):Int)==pts[z].2.1&&((atZ q pts[z].1 lb:Nat):Int)==pts[z].2.2)=true→∀ t (h:t < pts.length),t < z+1→(((atZ q pts[t].1 la:Nat):Int)==pts[t].2.1&&((atZ q pts[t].1 lb:Nat):Int)==pts[t].2.2)=true):=fun e t h ht=>by
        rcases Nat.lt_or_ge t z with h1|h1
        ·exact HAG.out t h h1
        ·obtain rfl:t=z:=by omega
         exact e
       have HFL:Hid ((((atZ q pts[z].1 la:Nat):Int)==pts[z].2.1&&((atZ q pts[z].1 lb:Nat):Int)==pts[z].2.2)=false→agreeB q la lb pts=false):=fun e=>by
        unfold agreeB
        refine Bool.eq_false_iff.2 fun h=>?_;have:=List.all_eq_true.1 h _ (List.getElem_mem hzp);rw [e] at this
        cases this
       obtain ⟨xz,hxz⟩:∃ y,pts[z].1=y:=⟨_,rfl⟩;obtain ⟨fz,hfz⟩:∃ y,pts[z].2.1=y:=⟨_,rfl⟩;obtain ⟨gz,hgz⟩:∃ y,pts[z].2.2=y:=⟨_,rfl⟩;rw [hxz] at xa C1 C2 HNX HFL;rw [hfz] at ya HNX HFL;rw [hgz] at yb HNX HFL;obtain ⟨A,hA⟩:∃ y,atZ q xz la=y:=⟨_,rfl⟩;obtain ⟨B,hB⟩:∃ y,atZ q xz lb=y:=⟨_,rfl⟩;rw [hA] at C1 HNX HFL;rw [hB] at C2 HNX HFL;clear hcx hcf hcg hxz hfz hgz hA hB hix
       cases e0:((A:Int) != fz)
       ·cases e1:((B:Int) != gz)
        ·have HN2:=Lib.hid (HNX.out (by rw [show ((A:Int)==fz)=true by simpa using e0,show ((B:Int)==gz)=true by simpa using e1];rfl));clear HNX HFL;go_upto_region 26 with (fail);refine wp_region_kept wr (Kept.refl _ _) (by kernel_rfl) (by kernel_rfl) ?_
         repeat (go_big_quiet_step (first|(go_at_call_of 88 (Value.slice aa la.length ca);exact quiet_kept (C1.out _))|(go_at_call_of 88 (Value.slice ab lb.length cb);exact quiet_kept (C2.out _))))
         refine wpQuiet_nil ?_;rintro w5 ⟨⟨_,hk5⟩,rfl⟩;go_wp2_with fail
         go_roundw
         case rel=>exact ⟨z+1,by omega,by go_num,HN2,hkz.trans hk5⟩
         case measure=>simp [intOf];omega
        ·have HN2:=Lib.hid (HFL.out (by rw [show ((B:Int)==gz)=false by simpa using e1];simp));clear HNX HFL;go_upto_region 26 with (fail);refine wp_region_kept wr (Kept.refl _ _) (by kernel_rfl) (by kernel_rfl) ?_
         repeat (go_big_quiet_step (first|(go_at_call_of 88 (Value.slice aa la.length ca);exact quiet_kept (C1.out _))|(go_at_call_of 88 (Value.slice ab lb.length cb);exact quiet_kept (C2.out _))))
         refine wpQuiet_nil ?_;rintro w5 ⟨⟨_,hk5⟩,rfl⟩;go_wp2_with fail
         go_ret3
         refine ⟨⟨(0,0,20),Or.inr (Or.inr (Or.inr ⟨HAL.out,HND.out,by have:=HN1.out;have:=HNL.out;omega,la,lb,HTH.out,?_⟩)),rfl⟩,hk0.trans (hkR.trans hk5)⟩;rw [HQT.out,HN2.out]
         rfl
       ·have HN2:=Lib.hid (HFL.out (by rw [show ((A:Int)==fz)=false by simpa using e0];simp));clear HNX HFL;go_upto_region 26 with (fail);refine wp_region_kept wr (Kept.refl _ _) (by kernel_rfl) (by kernel_rfl) ?_
        repeat (go_big_quiet_step (first|(go_at_call_of 88 (Value.slice aa la.length ca);exact quiet_kept (C1.out _))|(go_at_call_of 88 (Value.slice ab lb.length cb);exact quiet_kept (C2.out _))))
        refine wpQuiet_nil ?_;rintro w5 ⟨⟨_,hk5⟩,rfl⟩;go_wp2_with fail
        go_ret3
        refine ⟨⟨(0,0,20),Or.inr (Or.inr (Or.inr ⟨HAL.out,HND.out,by have:=HN1.out;have:=HNL.out;omega,la,lb,HTH.out,?_⟩)),rfl⟩,hk0.trans (hkR.trans hk5)⟩;rw [HQT.out,HN2.out]
        rfl
      ·obtain rfl:z=i:=by omega
       have HN2:Hid (agreeB q la lb pts=true):=by
        show _=_
        unfold agreeB
        refine List.all_eq_true.2 fun p hp=>?_;obtain ⟨t,ht,rfl⟩:=List.mem_iff_getElem.1 hp;exact HAG.out t ht (by have:=HNL.out;omega)
       have C1:=Lib.hid (AA.out 0 wr ⟨by omega,by omega⟩ hkz);go_wp2_with (go_at_call_of 88 (Value.slice aa la.length ca);refine C1.out.mono ?_);rintro e w5 ⟨rfl,hk5⟩;have C2:=Lib.hid (BB.out 0 w5 ⟨by omega,by omega⟩ (hkz.trans hk5));go_wp2_with (go_at_call_of 88 (Value.slice ab lb.length cb);refine C2.out.mono ?_);rintro e w6 ⟨rfl,hk6⟩;go_wp2_with fail
       go_ret3
       refine ⟨⟨(((atZ q 0 la:Nat):Int),((atZ q 0 lb:Nat):Int),0),Or.inr (Or.inr (Or.inr ⟨HAL.out,HND.out,by have:=HN1.out;have:=HNL.out;omega,la,lb,HTH.out,?_⟩)),rfl⟩,hk0.trans (hkR.trans (hk5.trans hk6))⟩;rw [HQT.out,HN2.out]
       rfl
end Go.Proofs.YtpcdfepndmconaaGreatDoor
