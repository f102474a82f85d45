/- The example's points: CheckPoint. -/
import Derived.Test.YtpcdfepndmconaaGreatDoorRound
import Derived.Test.YtpcdfepndmconaaGreatDoorZop
import Derived.Maps.Own
import Derived.Maps.OwnSet
import Derived.StillTailTactics
import Derived.Deep.RegionWith
import Derived.Deep.AppendLies
/- JOINED: At At2 Wit Pnt Thr Deal Chk -/
/- The value of a polynomial: slices.Backward, At. -/
namespace Go.Proofs.YtpcdfepndmconaaGreatDoor
open Go.RowKit Go.Shelf
attribute [local go_sem] Oper.semAt_some
/-- what has come when k rounds are over -/
def upto {α:Type} (f:Nat→α) (k:Nat):List α:=(List.range k).map f
theorem upto_succ {α:Type} (f:Nat→α) (k:Nat):upto f (k+1)=upto f k++[f k]:=by simp [upto,List.range_succ]
theorem upto_length {α:Type} (f:Nat→α) (k:Nat):(upto f k).length=k:=by simp [upto]
/-- an int that is one -/
abbrev Z:={ x:Int // Wire.I64 x }
def z0:Z:=⟨0,by decide,by decide⟩
/-- the pairs that Backward gives: the last index first -/
def back (zs:List Z) (j:Nat):Nat × Z:=(zs.length - 1 - j,zs[zs.length - 1 - j]?.getD z0)
abbrev encs2 (x:Nat × Z):Array Value:=#[.int .i64 (x.1:Int),.int .i64 x.2.1]
/-- what lay below n₀ lies as it lay, but for one block -/
def KB (n₀ o:Nat) (W W':World):Prop:=W.heap.size≤W'.heap.size∧∀ k,k < n₀→k≠o→W'.heap[k]?=W.heap[k]?
theorem KB.refl (n₀ o:Nat) (W:World):KB n₀ o W W:=⟨Nat.le_refl _,fun _ _ _=>rfl⟩
theorem KB.trans {n₀ o:Nat} {A B C:World} (h:KB n₀ o A B) (k:KB n₀ o B C):KB n₀ o A C:=⟨Nat.le_trans h.1 k.1,fun i hi ho=>(k.2 i hi ho).trans (h.2 i hi ho)⟩
theorem KB.cell {n₀ o:Nat} {W W':World} (h:KB n₀ o W W') {p:Addr} (h1:p.block < n₀) (h2:p.block≠o):W'.cell? p=W.cell? p:=World.cell?_of_block (h.2 _ h1 h2)
theorem KB.kb {n₀ o:Nat} {w:World} (hn:n₀≤w.heap.size) (W:World) (l:Nat) (ob o':Obj) (hl:w.heap.size≤l) (h:W.heap[l]?=some ob) (_:ob.isCells=false) (_:ob.isWalk=false):KB n₀ o W (W.putObj l o'):=by
 have hg:=grownBy_putObj' W l o';refine ⟨hg.size,fun k hk _=>hg.block k (by have:=(Array.getElem?_eq_some_iff.1 h).1;omega) (fun e=>by cases e;omega)⟩
set_option maxRecDepth 100000 in
set_option maxHeartbeats 2000000 in
theorem backward1 (l Bs n₀ o b off len cap:Nat) (zs:List Z) (hlen:zs.length=len) (hreach:len*8≤140737488351232) (hb:b < n₀) (hbo:b≠o) (J Jx:List (Nat × Z)→World→Prop)
  (hY:∀ pre x W,J pre W→pre.length < len→YieldAt Fence.wide (2 - 1) Tryz.prog l #[.int .i64 (x.1:Int),.int .i64 x.2.1] W fun e W' =>
   (e=.returned (.bool true)∧J (pre++[x]) W'∧KB n₀ o W W')∨(e=.returned (.bool false)∧Jx (pre++[x]) W'))
  (W:World) (hBs:W.cell? ⟨Bs,0,none⟩=some (.slice (some ⟨b,off,none⟩) len cap)) (hBl:Bs < n₀) (hBo:Bs≠o) (hc:∀ j,j < len→W.cell? ⟨b,off+j,none⟩=some (.int .i64 (zs[j]?.getD z0).1)) (h0:J [] W) :
  CallsIn Fence.wide 2 Tryz.prog 201 #[.func (.yield l) #[] #[],.pointer (some ⟨Bs,0,none⟩)] W fun e W'=>(∃ v,e=.returned v) ∧
   ((∃ ys,ys=upto (back zs) len∧J ys W')∨(∃ pre,(∃ k,k≤len∧pre=upto (back zs) k)∧Jx pre W')):=by
 refine callsIn_of_wp Tryz.func201 rfl trivial ?_ rfl;simp only [Tryz.ntmps201,List.size_toArray,List.length_cons,List.length_nil,Nat.reduceAdd,Nat.reduceSub,Array.replicate_succ,Array.replicate_zero,List.push_toArray,List.append_toArray,List.nil_append,List.cons_append]
 gi_wp2
 gi_loopw [3] (fun i wr=>∃ m:Nat,m≤len∧i=.int .i64 ((m:Int) - 1)∧J (upto (back zs) (len - m)) wr∧KB n₀ o W wr)
  (fun i _=>(intOf i+1).toNat)
 case atStart=>exact ⟨len,Nat.le_refl _,rfl,by rw [Nat.sub_self];exact h0,KB.refl _ _ _⟩
 case round =>
  obtain ⟨m,hm,rfl,hJs,hnx⟩:=hrel;have hBs':wr.cell? ⟨Bs,0,none⟩=some (.slice (some ⟨b,off,none⟩) len cap):=(hnx.cell (p:=⟨Bs,0,none⟩) hBl hBo).trans hBs
  rcases m with _|i
  ·gi_wp2
   go_end0
   exact ⟨⟨_,rfl⟩,.inl ⟨_,rfl,by simpa using hJs⟩⟩
  ·have hcx:wr.cell? ⟨b,off+i,none⟩=some (.int .i64 (zs[i]?.getD z0).1):=(hnx.cell (p:=⟨b,off+i,none⟩) hb hbo).trans (hc i (by omega));obtain ⟨fn,tmps,assign,body,hy,hR⟩:=hY _ (i,zs[i]?.getD z0) wr hJs (by rw [upto_length];omega)
   dsimp only at hy
   have hbk:back zs (len - (i+1))=(i,zs[i]?.getD z0):=by
    unfold back
    rw [hlen,show len - 1 - (len - (i+1))=i by omega]
   have hnext:upto (back zs) (len - i)=upto (back zs) (len - (i+1))++[(i,zs[i]?.getD z0)]:=by
    rw [←hbk,←upto_succ,show len - (i+1)+1=len - i by omega]
   gi_wp2
   refine hR.mono ?_;rintro e W3 (⟨rfl,hJ3,hk3⟩|⟨rfl,hJx3⟩)
   ·gi_wp2
    go_roundw
    case rel=>exact ⟨i,by omega,by go_num,by rw [hnext];exact hJ3,hnx.trans hk3⟩
    case measure=>simp [intOf]
   ·gi_wp2
    refine bodyPost_ret (results_none rfl _ _ _) rfl ?_;exact ⟨⟨_,rfl⟩,.inr ⟨_,⟨len - i,by omega,hnext.symm⟩,hJx3⟩⟩
set_option maxHeartbeats 1000000 in
theorem backward_in (a:Option Addr) (len cap:Nat) (w:World) :
  CallsIn Fence.wide 2 Tryz.prog 164 #[.slice a len cap] w fun e w'=>e=.returned (.func (.func 201) #[] #[.pointer (some ⟨w.heap.size,0,none⟩)])∧w'=w.alloc (.cells #[.slice a len cap] 24):=by
 refine callsIn_of_wp Tryz.func164 rfl trivial ?_ rfl;simp only [Tryz.ntmps164,List.size_toArray,List.length_cons,List.length_nil,Nat.reduceAdd,Nat.reduceSub,Array.replicate_succ,Array.replicate_zero,List.push_toArray,List.append_toArray,List.nil_append,List.cons_append]
 gi_wp2
 go_ret;exact ⟨rfl,rfl⟩
theorem backward_stops (Bs n₀ o b off len cap:Nat) (zs:List Z) (hlen:zs.length=len) (hreach:len*8≤140737488351232) (w:World) (hb:b < n₀) (hbo:b≠o) (hn:n₀≤w.heap.size)
  (hBs:w.cell? ⟨Bs,0,none⟩=some (.slice (some ⟨b,off,none⟩) len cap)) (hBl:Bs < n₀) (hBo:Bs≠o) (hc:∀ j,j < len→w.cell? ⟨b,off+j,none⟩=some (.int .i64 (zs[j]?.getD z0).1)) :
  SeqStopsK Fence.wide 2 Tryz.prog 201 #[.pointer (some ⟨Bs,0,none⟩)] encs2 (KB n₀ o) (fun ys=>ys=upto (back zs) len) (fun pre=>∃ k,k≤len∧pre=upto (back zs) k) len w :=
 fun l J Jx W hW _ _ hY h0 =>
  backward1 l Bs n₀ o b off len cap zs hlen hreach hb hbo J Jx hY W ((hW.cell (p:=⟨Bs,0,none⟩) (Nat.lt_of_lt_of_le hBl hn)).trans hBs) hBl hBo
   (fun j hj=>(hW.cell (p:=⟨b,off+j,none⟩) (Nat.lt_of_lt_of_le hb hn)).trans (hc j hj)) h0
end Go.Proofs.YtpcdfepndmconaaGreatDoor
/- The value of a polynomial modulo a small number: At. -/
namespace Go.Proofs.YtpcdfepndmconaaGreatDoor
open Go.RowKit Go.Shelf
attribute [local go_sem] Oper.semAt_some
def accN (N:Nat) (x:Int) (pre:List (Nat × Z)):Nat:=pre.foldl (fun o p=>addN N ((mulN N (o:Int) x:Nat):Int) p.2.1) 0
def atN (N:Nat) (x:Int) (zs:List Z):Nat:=accN N x (upto (back zs) zs.length)
theorem accN_snoc (N:Nat) (x:Int) (pre:List (Nat × Z)) (p:Nat × Z):accN N x (pre++[p])=addN N ((mulN N ((accN N x pre:Nat):Int) x:Nat):Int) p.2.1:=by simp [accN]
theorem addN_lt (N:Nat) (a b:Int) (h:1≤N):addN N a b < N:=Nat.mod_lt _ (by omega)
theorem mulN_lt (N:Nat) (a b:Int) (h:1≤N):mulN N a b < N:=Nat.mod_lt _ (by omega)
theorem accN_lt (N:Nat) (x:Int) (pre:List (Nat × Z)) (h:1≤N):accN N x pre < N:=by
 rcases List.eq_nil_or_concat pre with rfl|⟨l,p,rfl⟩
 ·show 0 < N;omega
 ·rw [List.concat_eq_append,accN_snoc];exact addN_lt _ _ _ h
set_option maxRecDepth 100000 in
set_option maxHeartbeats 2000000 in
theorem at_any (N:Nat) (x:Int) (zs:List Z) (v:Value) (w:World) (h1:1≤N) (h2:N < 2305843009213693952) (hx:Wire.I64 x) (hv:Row w 1 v zs.length (ints (zs.map (·.1)))) (hl:0 < zs.length) (hln:zs.length≤1000) :
  Calls Tryz.prog 88 #[.int .i64 N,v,.int .i64 x] w fun e w'=>e=.returned (.int .i64 ((atN N x zs:Nat):Int))∧Kept [] w w':=by
 have hv0:=hv;obtain ⟨a0,cap,rfl,_,_⟩:=hv0.form;obtain ⟨b,off,rfl,hcell⟩:=hv.at_ hl
 have hbl:b < w.heap.size:=by
  have h0:=hcell 0 _ (ints_get (l:=zs.map (·.1)) (by rw [List.length_map];exact hl));exact World.block_lt_of_cell? w _ h0
 have hcz:∀ j,j < zs.length→w.cell? ⟨b,off+j,none⟩=some (.int .i64 (zs[j]?.getD z0).1):=fun j hj=>by
  have:=hcell j _ (ints_get (l:=zs.map (·.1)) (by rw [List.length_map];exact hj));rw [this,List.getElem_map,List.getElem?_eq_getElem hj]
  rfl
 refine (callsIn_wide (n:=3)).1 ?_;refine callsIn_of_wp_marks Tryz.func88 rfl trivial ?_ rfl;simp only [Tryz.ntmps88,List.size_toArray,List.length_cons,List.length_nil,Nat.reduceAdd,Nat.reduceSub,Array.replicate_succ,Array.replicate_zero,List.push_toArray,List.append_toArray,List.nil_append,List.cons_append]
 gi_wp2_with (refine ⟨trivial,?_⟩;gi_at_call 164;refine (backward_in _ _ _ _).mono ?_;rintro e w' ⟨rfl,rfl⟩)
 obtain ⟨W0,hW0⟩:∃ W0,(((w.alloc (.cells #[.int .i64 N] 3)).alloc (.cells #[.int .i64 x] 3)).alloc (.cells #[.int .i64 0] 3)).alloc (.cells #[.slice (some ⟨b,off,none⟩) zs.length cap] 24)=W0:=⟨_,rfl⟩
 have hs0:W0.heap.size=w.heap.size+4:=by rw [←hW0];simp only [World.size_alloc]
 have hk0:Kept [] w W0:=hW0▸((((Kept.refl _ _).alloc _).alloc _).alloc _).alloc _;have bq:Blk W0 w.heap.size 3 #[.int .i64 N]:=hW0▸(((Blk.new w _ _).alloc _).alloc _).alloc _
 have bx:Blk W0 (w.heap.size+1) 3 #[.int .i64 x]:=by
  have:=Blk.new (w.alloc (.cells #[.int .i64 N] 3)) 3 #[.int .i64 x];rw [World.size_alloc] at this;exact hW0▸(this.alloc _).alloc _
 have bo:Blk W0 (w.heap.size+1+1) 3 #[.int .i64 0]:=by
  have:=Blk.new ((w.alloc (.cells #[.int .i64 N] 3)).alloc (.cells #[.int .i64 x] 3)) 3 #[.int .i64 0];rw [World.size_alloc,World.size_alloc] at this;exact hW0▸this.alloc _
 have bs:Blk W0 (w.heap.size+1+1+1) 24 #[.slice (some ⟨b,off,none⟩) zs.length cap]:=by
  have:=Blk.new (((w.alloc (.cells #[.int .i64 N] 3)).alloc (.cells #[.int .i64 x] 3)).alloc (.cells #[.int .i64 0] 3)) 24 #[.slice (some ⟨b,off,none⟩) zs.length cap];rw [World.size_alloc,World.size_alloc,World.size_alloc] at this;exact hW0▸this
 rw [hW0];have HZ:∀ j,j < zs.length→W0.cell? ⟨b,off+j,none⟩=some (.int .i64 (zs[j]?.getD z0).1):=fun j hj=>(hk0.cell (p:=⟨b,off+j,none⟩) hbl (by simp)).trans (hcz j hj);clear hW0 hcz hcell hv hv0
 refine wpIn_rangeFunc_ownG rfl (by omega) (gf:=201) (lb:=#[.pointer (some ⟨w.heap.size+1+1+1,0,none⟩)]) rfl trivial (enters_of Tryz.func201 (by kernel_rfl) rfl)
  (backward_stops (w.heap.size+1+1+1) (w.heap.size+4) (w.heap.size+1+1) b off zs.length cap zs rfl (by omega) W0 (by omega) (by omega) (by omega) (bs.cell 0) (by omega) (by omega) HZ)
  KB.trans (KB.kb (by omega)) (Below.refl _ _) (fun _=>rfl)
  (fun pre W=>((W.cell? ⟨w.heap.size,0,none⟩=some (.int .i64 N)∧W.cell? ⟨w.heap.size+1,0,none⟩=some (.int .i64 x)∧W.cell? ⟨w.heap.size+1+1,0,none⟩=some (.int .i64 ((accN N x pre:Nat):Int))∧W.frozen? ⟨w.heap.size+1+1,0,none⟩=false)∧w.heap.size+4≤W.heap.size)∧Below w.heap.size w W)
  (fun _ _ _=>False)
  (OwnFrom.and (Own.from (fun s A B row hs hg hr=>⟨⟨cell_kept hs.1.1 hg hr,cell_kept hs.1.2.1 hg hr,cell_kept hs.1.2.2.1 hg hr,(frozen_kept hs.1.2.2.1 hg hr).trans hs.1.2.2.2⟩,Nat.le_trans hs.2 hg.size⟩) _) (ownFrom_below (Nat.le_refl _) (by omega)))
  (fun _ _ _ _ _ hs _ _=>hs)
  ⟨⟨⟨bq.cell 0,bx.cell 0,bo.cell 0,bo.frozen 0⟩,by omega⟩,hk0.below⟩
  (fun p=>{ tmps:=#[.int .i64 N,.slice (some ⟨b,off,none⟩) zs.length cap,.int .i64 x,.pointer (some ⟨w.heap.size,0,none⟩),undef,.pointer (some ⟨w.heap.size+1,0,none⟩),.int .i64 0,.pointer (some ⟨w.heap.size+1+1,0,none⟩),undef,.int .i64 p.2.1,
   .slice (some ⟨b,off,none⟩) zs.length cap,.func (.func 201) #[] #[.pointer (some ⟨w.heap.size+1+1+1,0,none⟩)],.int .i64 (p.1:Int),.int .i64 p.2.1,undef,undef,undef,undef,undef,undef,undef,undef],defers:=[] }) ?assign ?body ?done ?stop
 case assign =>
  intro l x W K hK
  gi_wp2
  exact hK
 case body =>
  rintro l pre p W ⟨⟨⟨hq,hx',ho,hf⟩,hs4⟩,hB⟩ _;have hOl:w.heap.size+1+1 < W.heap.size:=World.block_lt_of_cell? W _ ho
  have k0:∀ w',Kept [w.heap.size+1+1] W w'→w'.cell? ⟨w.heap.size,0,none⟩=some (.int .i64 N) :=
   fun w' k=>(k.cell (p:=⟨w.heap.size,0,none⟩) (by show w.heap.size < _;omega) (by simp;omega)).trans hq
  have k1:∀ w',Kept [w.heap.size+1+1] W w'→w'.cell? ⟨w.heap.size+1,0,none⟩=some (.int .i64 x) :=
   fun w' k=>(k.cell (p:=⟨w.heap.size+1,0,none⟩) (by show w.heap.size+1 < _;omega) (by simp)).trans hx'
  have k2:∀ w',Kept [] W w'→w'.cell? ⟨w.heap.size+1+1,0,none⟩=some (.int .i64 ((accN N x pre:Nat):Int)):=Kept.cellOf ho;have hac:=accN_lt N x pre h1;have hnx:=accN_snoc N x pre p;obtain ⟨A,hA⟩:∃ A,accN N x pre=A:=⟨_,rfl⟩;rw [hA] at k2 hac hnx ho
  have HM:Hid (∀ w,Calls Tryz.prog 80 #[.int .i64 N,.int .i64 A,.int .i64 x] w fun e w'=>e=.returned (.int .i64 ((mulN N (A:Int) x:Nat):Int))∧Kept [] w w') :=
   fun w=>fmul_any N A x w h1 h2 ⟨by omega,by omega⟩ hx
  have hml:=mulN_lt N A x h1;obtain ⟨M,hM⟩:∃ M,mulN N (A:Int) x=M:=⟨_,rfl⟩;rw [hM] at HM hml hnx
  have HA:Hid (∀ w,Calls Tryz.prog 138 #[.int .i64 N,.int .i64 M,.int .i64 p.2.1] w fun e w'=>e=.returned (.int .i64 ((addN N (M:Int) p.2.1:Nat):Int))∧Kept [] w w') :=
   fun w=>fadd_any N M p.2.1 w h1 h2 ⟨by omega,by omega⟩ p.2.2
  rw [←hnx] at HA;obtain ⟨R,hR⟩:∃ R,accN N x (pre++[p])=R:=⟨_,rfl⟩;rw [hR] at HA;have HF:=Lib.hid hf;have HB:=Lib.hid hB;have HO:=Lib.hid ho;have HS:=Lib.hid hs4;have HK0:=Lib.hid k0;have HK1:=Lib.hid k1;clear hq hx' ho hf hB hnx hA hM
  gi_wp2
  refine region_round (S:=fun w'=>Kept [w.heap.size+1+1] W w') (by kernel_rfl) (by rfl) ?hL ?_
  case hL=>rintro ⟨a,w,h⟩;exact h
  have hHeld:Kept [w.heap.size+1+1] W W.drew:=(Kept.refl _ _).drew;refine take_of (i:=0) (v:=?v0) rfl (by kernel_rfl) (by kernel_rfl) (by kernel_rfl) (fun _ _ _ h=>h) (Or.inl ⟨by rfl,?hy0⟩) hHeld ?rest0
  case hy0=>intro w' hSw;(try dsimp only at hSw);go_simp;first|done|with_reducible rfl
  simp only [Act.put,List.setIfInBounds_toArray,List.set_cons_zero,List.set_cons_succ];refine take_of (i:=1) (v:=?v1) rfl (by kernel_rfl) (by kernel_rfl) (by kernel_rfl) (fun _ _ _ h=>h) (Or.inl ⟨by rfl,?hy1⟩) hHeld ?rest1
  case hy1=>intro w' hSw;(try dsimp only at hSw);go_simp;first|done|with_reducible rfl
  simp only [Act.put,List.setIfInBounds_toArray,List.set_cons_zero,List.set_cons_succ];refine take_of (i:=3) (v:=?v3) rfl (by kernel_rfl) (by kernel_rfl) (by kernel_rfl) (fun _ _ _ h=>h) (Or.inl ⟨by rfl,?hy3⟩) hHeld ?rest3
  case hy3=>intro w' hSw;(try dsimp only at hSw);go_simp;first|done|with_reducible rfl
  simp only [Act.put,List.setIfInBounds_toArray,List.set_cons_zero,List.set_cons_succ];refine take_of (i:=5) (v:=?v5) rfl (by kernel_rfl) (by kernel_rfl) (by kernel_rfl) (fun _ _ _ h=>h) (Or.inl ⟨by rfl,?hy5⟩) hHeld ?rest5
  case hy5=>intro w' hSw;(try dsimp only at hSw);go_simp;first|done|with_reducible rfl
  simp only [Act.put,List.setIfInBounds_toArray,List.set_cons_zero,List.set_cons_succ];have ho2:W.drew.cell? ⟨w.heap.size+1+1,0,none⟩=some (.int .i64 A):=k2 _ (Kept.refl _ _).drew;refine wpAnyH_ready (rs:=[2]) (by kernel_rfl) (by simp) ?_;refine AllReadyH.cons rfl (fun K hK=>?_) AllReadyH.nil;go_simp;refine hK.out _ _ hHeld (fun _=>?_);clear hK K ho2 k0 k1 k2
  (try simp only [Act.put,List.setIfInBounds_toArray,List.set_cons_zero,List.set_cons_succ])
  refine wpAnyH_ready (rs:=[4]) (by kernel_rfl) (by simp) ?_;refine AllReadyH.cons rfl (fun K hK=>?_) AllReadyH.nil;go_simp;refine (HM.out _).mono ?_;rintro e w2 ⟨rfl,hk2⟩;have hk2':Kept [] W w2:=(Kept.refl [] W).drew.trans hk2;refine hK.out _ _ (hk2'.mono (by simp)) (fun _=>?_);clear hK K
  (try simp only [Act.put,List.setIfInBounds_toArray,List.set_cons_zero,List.set_cons_succ])
  refine wpAnyH_ready (rs:=[6]) (by kernel_rfl) (by simp) ?_;refine AllReadyH.cons rfl (fun K hK=>?_) AllReadyH.nil;go_simp;refine (HA.out _).mono ?_;rintro e w3 ⟨rfl,hk3⟩;have hk3':Kept [] W w3:=hk2'.trans hk3;refine hK.out _ _ (hk3'.mono (by simp)) (fun _=>?_);clear hK K
  (try simp only [Act.put,List.setIfInBounds_toArray,List.set_cons_zero,List.set_cons_succ])
  have hf3:w3.frozen? ⟨w.heap.size+1+1,0,none⟩=false:=(hk3'.frozen (p:=⟨w.heap.size+1+1,0,none⟩) hOl (by simp)).trans HF.out;have hc3:w3.cell? ⟨w.heap.size+1+1,0,none⟩=some (.int .i64 A):=(hk3'.cell (p:=⟨w.heap.size+1+1,0,none⟩) hOl (by simp)).trans HO.out;refine wpAnyH_ready (rs:=[7]) (by kernel_rfl) (by simp) ?_;refine AllReadyH.cons rfl (fun K hK=>?_) AllReadyH.nil;go_simp;have hkF:Kept [w.heap.size+1+1] W (w3.setCell ⟨w.heap.size+1+1,0,none⟩ (.int .i64 R)):=Kept.setCell (hk3'.mono (S':=[w.heap.size+1+1]) (by simp)) (p:=⟨w.heap.size+1+1,0,none⟩) (Or.inl (by simp)) _;refine hK.out _ _ hkF (fun _=>?_);clear hK K
  (try simp only [Act.put,List.setIfInBounds_toArray,List.set_cons_zero,List.set_cons_succ])
  refine wpAnyH_done (by kernel_rfl) ?_ _
  exact ⟨((hk3'.keepsOthers).trans (KeepsOthers.setCell _ _ _)).from _,⟨hkF.size,fun k hk hno=>hkF.block k (by omega) (by simpa using hno)⟩,
   ⟨⟨HK0.out _ hkF,HK1.out _ hkF,by rw [hR];exact World.cell?_setCell_same' _ _ _ (by rw [hc3];rfl),by rw [World.frozen?_setCell];exact hf3⟩,Nat.le_trans HS.out hkF.size⟩,HB.out.trans (Kept.below_of hkF (by omega) (by simp;omega))⟩
 case done =>
  rintro D ys W hD rfl ⟨⟨⟨hq,hx',ho,hf⟩,_⟩,hB⟩ hK
  gi_wp2
  refine ⟨by simp,.inl ⟨_,_,rfl,run_takeDeferred hK,?_⟩⟩;exact ⟨_,results_tmp rfl _ _ _,rfl,Kept.of_below (hB.trans (belowK_b (w:=w) (Nat.le_refl _) W D _ _ (by omega) hK rfl rfl))⟩
 case stop =>
  rintro D c pre W _ _ h _;exact h.elim
end Go.Proofs.YtpcdfepndmconaaGreatDoor
/- Witness, Update, Width, and an inverse. -/
namespace Go.Proofs.YtpcdfepndmconaaGreatDoor
open Go.RowKit
end Go.Proofs.YtpcdfepndmconaaGreatDoor
/- Two points have different numbers. -/
namespace Go.Proofs.YtpcdfepndmconaaGreatDoor
open Go.RowKit Go.Maps
theorem keyedU:Keyed Tryz.prog 170:=int_keyed Tryz.underlying170
theorem keyedI:Keyed Tryz.prog 3:=int_keyed Tryz.underlying3
end Go.Proofs.YtpcdfepndmconaaGreatDoor
/- The polynomial through two points: Through. -/
namespace Go.Proofs.YtpcdfepndmconaaGreatDoor
open Go.RowKit
/-- an owned row of ints lies in a block -/
theorem own_blk {w:World} {B:Nat} {e:TypeId} {v:Value} {n:Nat} {xs:List Value} (h:w.ownsRow B e 1 v n xs) (hn:0 < n) :
  ∃ (g cap:Nat) (cur:Array Value),v=.slice (some ⟨g,0,none⟩) n cap∧B≤g∧Blk w g e cur∧n≤cap∧∀ (k:Nat) (u:Value),xs[k]?=some u→cur[k]?=some u:=by
 rcases h.2 with ⟨h1,h2⟩|⟨g,cap,cur,hv,hB,hg,hnc,hcm,hcs,hx⟩
 ·have:=h.1;subst h2;simp at this;omega
 ·refine ⟨g,cap,cur,hv,hB,hg,hnc,fun k u hu=>?_⟩;rw [←hx,List.getElem?_take] at hu
  split at hu
  ·simpa using hu
  ·cases hu
end Go.Proofs.YtpcdfepndmconaaGreatDoor
/- The example's escrow: Deal. -/
namespace Go.Proofs.YtpcdfepndmconaaGreatDoor
open Go.RowKit
end Go.Proofs.YtpcdfepndmconaaGreatDoor
namespace Go.Proofs.YtpcdfepndmconaaGreatDoor
open Go.RowKit
theorem own_ne {w w':World} {S:List Nat} {B g c:Nat} {e:TypeId} {size n:Nat} {xs:List Value} (h:w.ownsRow B e size (.slice (some ⟨g,0,none⟩) n c) n xs) (k:Kept S w w') (hg:g∉S) :
  w'.ownsRow B e size (.slice (some ⟨g,0,none⟩) n c) n xs:=by
 refine ⟨h.1,?_⟩
 rcases h.2 with ⟨h1,_⟩|⟨g',cap,cur,hv,hB,hb,r⟩
 ·cases h1
 ·have e1:g=g':=by injection hv with h1 h2 h3;injection h1 with h4;injection h4
  subst e1;exact Or.inr ⟨g,cap,cur,hv,hB,(k.block g (Array.getElem?_eq_some_iff.1 hb).1 hg).trans hb,r⟩
theorem Kept.grownSl {S:List Nat} {W Y Z':World} {g n c:Nat} (h:Kept S W Y) (hg:Y.grownBy Z' (Value.slice (some ⟨g,0,none⟩) n c).ownBlock) (hS:g∈S):Kept S W Z' :=
 h.grown hg (fun k hk=>by cases hk;exact Or.inl hS)
end Go.Proofs.YtpcdfepndmconaaGreatDoor
