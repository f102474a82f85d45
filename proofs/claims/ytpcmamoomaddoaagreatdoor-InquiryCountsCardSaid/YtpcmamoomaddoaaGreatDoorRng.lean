/- The parser's ranged. -/
import Derived.Test.YtpcmamoomaddoaaGreatDoorSrk
import Derived.Test.YtpcmamoomaddoaaGreatDoorLnm
import Derived.Test.YtpcmamoomaddoaaGreatDoorPd
import Derived.Test.YtpcmamoomaddoaaGreatDoorShelf2
import Derived.Test.YtpcmamoomaddoaaGreatDoorShelf
import Derived.Deep.RegionHeld3
import Derived.Deep.DeepCutAuto
import Derived.Test.YtpcmamoomaddoaaGreatDoorKys
/- JOINED: Cfk Srf Rng -/
/- Comparing keys: cmp.Compare at strings, cmp.Or, (ask.key).compare. -/
namespace Go.Proofs.YtpcmamoomaddoaaGreatDoor
open Go.RowKit Go.Sort
theorem cmpS_eq (x y:List UInt8):cmpS x y=if Op.bytesLess x y then -1 else if (!x==y) then 1 else 0:=by
 unfold cmpS
 rw [bytesLess_eq]
 by_cases h:x < y
 ·simp [h]
 ·by_cases e:x=y
  ·subst e;simp [h]
  ·have:y < x:=by
    by_cases h2:y < x
    ·exact h2
    ·exact absurd (List.le_antisymm (List.not_lt.1 h2) (List.not_lt.1 h)) e
   simp [h,e,this]
theorem isNaN_any (x:Value) (s:List UInt8) (hx:x=.string ⟨s.toArray⟩) (w:World) :
  Calls Tryz.prog 137 #[x] w fun e w'=>e=.returned (.bool false)∧w'=w:=by
 subst hx
 go_enter Tryz.func137,Tryz.ntmps137
 go_wp2_with fail;go_ret
 simp
set_option maxHeartbeats 1000000 in
theorem cmpS_any (x y:List UInt8) (w:World) :
  Calls Tryz.prog 89 #[.string ⟨x.toArray⟩,.string ⟨y.toArray⟩] w fun e w'=>e=.returned (.int .i64 (cmpS x y))∧w'=w:=by
 obtain ⟨r,hr⟩:∃ r,cmpS x y=r:=⟨_,rfl⟩;rw [hr];rw [cmpS_eq] at hr;have HR:=Lib.hid hr;clear hr
 go_enter Tryz.func89,Tryz.ntmps89
 go_wp2_with (go_at_call 137;refine (isNaN_any _ _ rfl _).mono ?_;rintro e w' ⟨rfl,rfl⟩)
 all_goals (go_ret;refine ⟨?_,rfl⟩;have hr:=HR.out;clear HR;first
  | (rw [if_pos ‹Op.bytesLess x y=true›] at hr;subst hr;rfl)
  | (rw [if_neg (by simp [‹Op.bytesLess x y=false›])] at hr;first
    | (rw [if_pos ‹(!x==y)=true›] at hr;subst hr;rfl)
    | (rw [if_neg (by simp [‹(!x==y)=false›])] at hr;subst hr;rfl)))
theorem or_any (a b c:Int) {w:World} {g:Nat} (hb:Blk w g 3 #[.int .i64 a,.int .i64 b,.int .i64 c]) :
  Calls Tryz.prog 204 #[.slice (some ⟨g,0,none⟩) 3 3] w fun e w'=>e=.returned (.int .i64 (if a≠0 then a else if b≠0 then b else c))∧w'=w:=by
 obtain ⟨r,hr⟩:∃ r,(if a≠0 then a else if b≠0 then b else c)=r:=⟨_,rfl⟩;rw [hr];have HR:=Lib.hid hr;clear hr;have c0:w.cell? ⟨g,0,none⟩=some (.int .i64 a):=hb.cell 0;have c1:w.cell? ⟨g,1,none⟩=some (.int .i64 b):=hb.cell 1;have c2:w.cell? ⟨g,2,none⟩=some (.int .i64 c):=hb.cell 2;clear hb
 go_enter Tryz.func204,Tryz.ntmps204
 go_wp2_with fail
 go_loop [8] (fun i=>∃ j:Nat,j≤3∧i=.int .i64 j∧(1≤j→a=0)∧(2≤j→b=0)∧(3≤j→c=0)) (fun i=>3 - (intOf i).toNat)
 case atStart=>exact ⟨0,by omega,rfl,by omega,by omega,by omega⟩
 case round =>
  obtain ⟨j,hj,rfl,h1,h2,h3⟩:=hrel;have H1:=Lib.hid h1;have H2:=Lib.hid h2;have H3:=Lib.hid h3;clear h1 h2 h3
  rcases j with _|_|_|_|j
  ·by_cases ha:a=0
   ·go_wp2_with fail;exact ⟨⟨1,by omega,rfl,fun _=>ha,by omega,by omega⟩,by decide⟩
   ·go_wp2_with fail;go_ret;refine ⟨?_,rfl⟩;rw [←HR.out,if_pos ha]
    rfl
  ·have ha:=H1.out (by omega)
   by_cases hb:b=0
   ·go_wp2_with fail;exact ⟨⟨2,by omega,rfl,fun _=>ha,fun _=>hb,by omega⟩,by decide⟩
   ·go_wp2_with fail;go_ret;refine ⟨?_,rfl⟩;rw [←HR.out,if_neg (by simp [ha]),if_pos hb]
    rfl
  ·have ha:=H1.out (by omega);have hb:=H2.out (by omega)
   by_cases hc:c=0
   ·go_wp2_with fail;exact ⟨⟨3,by omega,rfl,fun _=>ha,fun _=>hb,fun _=>hc⟩,by decide⟩
   ·go_wp2_with fail;go_ret;refine ⟨?_,rfl⟩;rw [←HR.out,if_neg (by simp [ha]),if_neg (by simp [hb])]
    rfl
  ·have ha:=H1.out (by omega);have hb:=H2.out (by omega);have hc:=H3.out (by omega);go_wp2_with fail;go_ret;refine ⟨?_,rfl⟩;rw [←HR.out,if_neg (by simp [ha]),if_neg (by simp [hb]),hc]
   rfl
  ·omega
def cf3:K3→K3→Int:=lex2 cmpS (lex2 cmpS Lib.compareInt)
theorem cf3_is:IsCmp cf3:=cmpS_is.lex (cmpS_is.lex cmpI_is)
def GD (W w':World):Prop:=∃ q os,w'=grow (W.drewN q) os
theorem GD.refl (W:World):GD W W:=⟨0,#[],by rw [World.drewN_zero];simp [grow]⟩
theorem GD.drew {W w':World} (h:GD W w'):GD W w'.drew:=by
 obtain ⟨q,os,rfl⟩:=h;exact ⟨q+1,os,rfl⟩
theorem GD.alloc {W w':World} (h:GD W w') (o:Obj):GD W (w'.alloc o):=by
 obtain ⟨q,os,rfl⟩:=h;exact ⟨q,os++#[o],by rw [alloc_eq_grow,grow_grow]⟩
theorem GD.trans {a b c:World} (h:GD a b) (k:GD b c):GD a c:=by
 obtain ⟨q,os,rfl⟩:=h;obtain ⟨q',os',rfl⟩:=k;exact ⟨q+q',os++os',by simp [grow,World.drewN,Nat.add_assoc]⟩
theorem GD.kept {a b:World} (h:GD a b):Kept [] a b:=by
 obtain ⟨q,os,rfl⟩:=h;refine Kept.of_grown (row:=none) ⟨rfl,rfl,rfl,by simp,fun k hk _=>?_⟩ (fun j e=>by cases e);rw [heap_grow_old _ _ (by simpa using hk)]
 rfl
set_option maxRecDepth 100000 in
set_option maxHeartbeats 4000000 in
theorem cf3_any (x y:K3) (w:World) :
  Calls Tryz.prog 157 #[.agg (cells3 x).toArray,.agg (cells3 y).toArray] w fun e w'=>e=.returned (.int .i64 (cf3 x y))∧GD w w':=by
 obtain ⟨xa,xb,xc⟩:=x;obtain ⟨ya,yb,yc⟩:=y;have ex:(cells3 (xa,xb,xc)).toArray=#[.string ⟨xa.toArray⟩,.string ⟨xb.toArray⟩,.int .i64 xc]:=rfl;have ey:(cells3 (ya,yb,yc)).toArray=#[.string ⟨ya.toArray⟩,.string ⟨yb.toArray⟩,.int .i64 yc]:=rfl;rw [ex,ey];clear ex ey;obtain ⟨W,hW⟩:∃ W,(w.alloc (.cells #[.string ⟨xa.toArray⟩,.string ⟨xb.toArray⟩,.int .i64 xc] 182)).alloc (.cells #[.string ⟨ya.toArray⟩,.string ⟨yb.toArray⟩,.int .i64 yc] 182)=W:=⟨_,rfl⟩;have hgW:GD w W:=hW▸((GD.refl w).alloc _).alloc _;have hB0:Blk W w.heap.size 182 #[.string ⟨xa.toArray⟩,.string ⟨xb.toArray⟩,.int .i64 xc]:=hW▸(Blk.new _ _ _).alloc _;have hB1:Blk W (w.heap.size+1) 182 #[.string ⟨ya.toArray⟩,.string ⟨yb.toArray⟩,.int .i64 yc]:=hW▸Blk.new1 _ _ _ _;have a0:∀ w',GD W w'→w'.cell? ⟨w.heap.size,0,none⟩=some (.string ⟨xa.toArray⟩):=fun w' k=>(hB0.kept k.kept (by simp)).cell 0;have a1:∀ w',GD W w'→w'.cell? ⟨w.heap.size,1,none⟩=some (.string ⟨xb.toArray⟩):=fun w' k=>(hB0.kept k.kept (by simp)).cell 1;have a2:∀ w',GD W w'→w'.cell? ⟨w.heap.size,2,none⟩=some (.int .i64 xc):=fun w' k=>(hB0.kept k.kept (by simp)).cell 2;have b0:∀ w',GD W w'→w'.cell? ⟨w.heap.size+1,0,none⟩=some (.string ⟨ya.toArray⟩):=fun w' k=>(hB1.kept k.kept (by simp)).cell 0;have b1:∀ w',GD W w'→w'.cell? ⟨w.heap.size+1,1,none⟩=some (.string ⟨yb.toArray⟩):=fun w' k=>(hB1.kept k.kept (by simp)).cell 1;have b2:∀ w',GD W w'→w'.cell? ⟨w.heap.size+1,2,none⟩=some (.int .i64 yc):=fun w' k=>(hB1.kept k.kept (by simp)).cell 2;have HG:=Lib.hid hgW;have HW:=Lib.hid hW
 have hr:(if cmpS xa ya≠0 then cmpS xa ya else if cmpS xb yb≠0 then cmpS xb yb else Lib.compareInt xc yc)=cf3 (xa,xb,xc) (ya,yb,yc):=by simp only [cf3,lex2]
 obtain ⟨R,hR⟩:∃ R,cf3 (xa,xb,xc) (ya,yb,yc)=R:=⟨_,rfl⟩;rw [hR] at hr ⊢;have H1:=Lib.hid (fun w'=>cmpS_any xa ya w');have H2:=Lib.hid (fun w'=>cmpS_any xb yb w');have H3:=Lib.hid (fun w'=>Tryz.cmp_Compare_int xc yc w');obtain ⟨r1,hr1⟩:∃ r,cmpS xa ya=r:=⟨_,rfl⟩;obtain ⟨r2,hr2⟩:∃ r,cmpS xb yb=r:=⟨_,rfl⟩;obtain ⟨r3,hr3⟩:∃ r,Lib.compareInt xc yc=r:=⟨_,rfl⟩;rw [hr1] at hr H1;rw [hr2] at hr H2;rw [hr3] at hr H3
 have H4:Hid (∀ w':World,Calls Tryz.prog 204 #[.slice (some ⟨w'.heap.size,0,none⟩) 3 3] (w'.alloc (.cells #[.int .i64 r1,.int .i64 r2,.int .i64 r3] 3)).drew fun e w2=>e=.returned (.int .i64 R)∧w2=(w'.alloc (.cells #[.int .i64 r1,.int .i64 r2,.int .i64 r3] 3)).drew):=fun w'=>by
  have:=or_any r1 r2 r3 (Blk.new w' 3 #[.int .i64 r1,.int .i64 r2,.int .i64 r3]).drew
  rwa [hr] at this
 clear hW hgW hB0 hB1 hr hR hr1 hr2 hr3
 go_enter Tryz.func157,Tryz.ntmps157
 go_upto_region 1 with (fail);have hW':=HW.out;rw [hW'];clear hW'
 go_region_held3 (fun w'=>GD W w') (repeat (first|(with_reducible assumption)|(with_reducible exact GD.refl _)|(with_reducible refine GD.drew ?_)|(with_reducible refine GD.alloc ?_ _)))
  (first
   | (go_at_call 89;(with_reducible refine (H1.out _).mono ?_);rintro e w5 ⟨rfl,rfl⟩)
   | (go_at_call 89;(with_reducible refine (H2.out _).mono ?_);rintro e w5 ⟨rfl,rfl⟩)
   | (go_at_call 205;(with_reducible refine (H3.out _).mono ?_);rintro e w5 ⟨rfl,rfl⟩)
   | (go_at_call 204;(with_reducible refine (H4.out _).mono ?_);rintro e w5 ⟨rfl,rfl⟩)
   | fail)
 have hh:GD W (W.alloc (.cells #[.int .i64 r1,.int .i64 r2,.int .i64 r3] 3)).drew:=by assumption
 have HH:=Lib.hid (HG.out.trans hh);clear hh;go_wp2_with fail;go_ret;exact ⟨rfl,HH.out⟩
end Go.Proofs.YtpcmamoomaddoaaGreatDoor
/- slices.SortFunc and SortedFunc at keys; the atoms of a predicate. -/
namespace Go.Proofs.YtpcmamoomaddoaaGreatDoor
open Go.RowKit Go.Maps Go.Sort Go.Shelf Go.Lib
theorem perm_of {α:Type} [Inhabited α] {l:List α} {d':Array α} (h:PermIn 0 l.toArray.size l.toArray d'):d'.toList.Perm l:=by
 obtain ⟨h1,_,h3⟩:=h
 have e1:(d'.extract 0 l.toArray.size)=d':=by rw [←h1];simp
 rw [e1] at h3
 simpa using h3
theorem cells3_one (x:K3):∀ v∈cells3 x,v.oneCell'=true:=by
 intro v hv;simp only [cells3,List.mem_cons,List.not_mem_nil,or_false] at hv
 rcases hv with rfl|rfl|rfl <;> rfl
theorem sortK3 {w:World} {base:Nat} {v:Value} {l:List K3} (h:w.ownsRow base 182 3 v l.length (cellsL l)) (hl:l.length < 4611686018427387904) :
  Calls Tryz.prog 202 #[v,.func (.func 157) #[] #[]] w fun e w'=>e=.returned (.tuple #[])∧∃ l':List K3,l'.Perm l∧w'.ownsRow base 182 3 v l.length (cellsL l')∧Kept (obl v) w w':=by
 rcases h.2 with ⟨h1,h2⟩|⟨g,cap,cur,h1,_⟩
 ·subst h1;have h0:l=[]:=List.eq_nil_of_length_eq_zero h2;subst h0;refine (AnyF.slices_SortFunc_none Tryz.sf202 none 0 _ w).mono ?_;rintro e w' ⟨rfl,rfl⟩;exact ⟨rfl,[],List.Perm.refl _,h,Kept.refl _ _⟩
 ·subst h1;have hk:∀ x,(cells3 x).length=3:=fun _=>rfl;obtain ⟨_,_,hH,hg⟩:=sortK_row (l':=l) (n:=0) (os:=#[]) hk (by decide) h rfl;have eg:∀ args w,(callFunc 157 args).run Tryz.prog w=.ok (.enter 157 args) w:=enters_of Tryz.func157 (by kernel_rfl) rfl;have:=AnyQ.slices_SortFunc Tryz.sf202 3 Tryz.isAgg182 Tryz.sizeOf182 cells3 hk cells3_one cf3 cf3_is.swo 157 #[] g 0 cap l.toArray w eg (fun _ _ _ _ x y=>cf3_any x y _) hH hg (by simpa using hl);refine Calls.mono this ?_;rintro e w' ⟨rfl,d',n,os,hp,_,rfl⟩;have hpp:=perm_of hp;obtain ⟨k1,k2,_,_⟩:=sortK_row (l':=d'.toList) (n:=n) (os:=os) hk (by decide) h hpp.length_eq;exact ⟨rfl,d'.toList,hpp,k1,k2⟩
end Go.Proofs.YtpcmamoomaddoaaGreatDoor
namespace Go.Proofs.YtpcmamoomaddoaaGreatDoor
open Go.RowKit
theorem ranged_end {w2:World} {tmps:Array Value} {v0 v1 v2 v3 v4 X:Value} {b:Nat} {R:Ending→World→Prop} (hb:Blk w2 b 46 #[v0,v1,v2,v3,v4]) (h2:tmps[6]?.getD undef=.pointer (some ⟨b,0,none⟩))
  (hX:.agg #[v0,v1,v2,v3,v4]=X) (hR:R (.returned X) w2) :
  bodyPost Tryz.prog Tryz.f235 R Exit.ret { tmps:=tmps,defers:=[] } w2:=by
 subst hX;have c0:w2.cell? ⟨b,0,none⟩=some v0:=hb.cell 0;have c1:w2.cell? ⟨b,1,none⟩=some v1:=hb.cell 1;have c2:w2.cell? ⟨b,2,none⟩=some v2:=hb.cell 2;have c3:w2.cell? ⟨b,3,none⟩=some v3:=hb.cell 3;have c4:w2.cell? ⟨b,4,none⟩=some v4:=hb.cell 4;refine bodyPost_ret (v:=.agg #[v0,v1,v2,v3,v4]) ?_ rfl hR;simp only [results,Tryz.results235]
 simp [go_sem,h2,c0,c1,c2,c3,c4]
def RngE (w:World) (cs:List Value) (b:Bool) (e:Ending) (w':World):Prop :=
 match b with
 | false=>Fails [] w 3 e w'
 | true=>e=.returned (.agg cs.toArray)∧Kept [] w w'
theorem sizeL_mem {p:Pd}:∀ {l:List Pd},p∈l→sizeB p≤sizeL l
 | q::l,h=>by
  rw [sizeL]
  rcases List.mem_cons.1 h with rfl|h
  ·omega
  ·have:=sizeL_mem h;omega
set_option maxRecDepth 100000 in
set_option maxHeartbeats 4000000 in
theorem ranged_any {B:Nat} {W0:World} {rb:Nat} {ts:List Tok} {a:Option Addr} {c:Nat} {z:Int} {i:Nat} (pos:Nat) (hpos:pos≤ts.length):∀ (m:Nat) (p:Pd) (cs:List Value) (w:World),sizeB p≤m→Ps B W0 rb ts a c z w i→PdR w cs p →
  Calls Tryz.prog 235 #[.pointer (some ⟨rb,0,none⟩),.agg cs.toArray,.int .i64 (pos:Int)] w (RngE w cs (rangedB p)):=by
 intro m
 induction m with
 | zero=>intro p cs w hm;cases p;rw [sizeB] at hm;omega
 | succ m ih =>
  rintro ⟨kd,l,r,cc,ks⟩ cs w hm h hp;obtain ⟨ka,kc,rfl,hrow⟩:=hp.rows;rw [sizeB] at hm;have hsm:=h.small;have hkl:=hrow.form;obtain ⟨_,_,hke,hkn,_⟩:=hkl;obtain ⟨W,hW⟩:∃ W,(w.alloc (.cells #[.int .i64 kd,.string ⟨l.toArray⟩,.string ⟨r.toArray⟩,.int .i64 cc,.slice ka ks.length kc] 46)).alloc (.cells #[.int .i64 0,.string ⟨#[]⟩,.string ⟨#[]⟩,.int .i64 0,.slice none 0 0] 46)=W:=⟨_,rfl⟩;have hkW:Kept [] w W:=hW▸((Kept.refl _ _).alloc _).alloc _;have hB1:Blk W w.heap.size 46 #[.int .i64 kd,.string ⟨l.toArray⟩,.string ⟨r.toArray⟩,.int .i64 cc,.slice ka ks.length kc]:=hW▸(Blk.new _ _ _).alloc _;have hB2:Blk W (w.heap.size+1) 46 #[.int .i64 0,.string ⟨#[]⟩,.string ⟨#[]⟩,.int .i64 0,.slice none 0 0]:=hW▸Blk.new1 _ _ _ _;have hw:=h.step hkW;have q3:W.cell? ⟨w.heap.size,3,none⟩=some (.int .i64 cc):=hB1.cell 3;have q4:W.cell? ⟨w.heap.size,4,none⟩=some (.slice ka ks.length kc):=hB1.cell 4;have HF:=Lib.hid (fail_any hw 3 pos hpos (pos:Int) rfl);have HKW:=Lib.hid hkW;have HB1:=Lib.hid hB1;have HB2:=Lib.hid hB2;have HW:=Lib.hid hW;have HH:=Lib.hid hw;have HROW:=Lib.hid (hrow.kept (fun _ _ x=>PdR.kept hkW x) hkW);have HR:Hid (rangedB (.node kd l r cc ks)=(decide (-1099511627776≤cc)&&decide (cc < 1099511627776)&&rangedL ks)):=Lib.hid (by rw [rangedB]);obtain ⟨R,hR⟩:∃ R,rangedB (.node kd l r cc ks)=R:=⟨_,rfl⟩;rw [hR] at HR ⊢;clear hW hkW hB1 hB2 hw hrow hR h hke hp
  show Calls _ _ #[.pointer (some ⟨rb,0,none⟩),.agg #[.int .i64 kd,.string ⟨l.toArray⟩,.string ⟨r.toArray⟩,.int .i64 cc,.slice ka ks.length kc],.int .i64 (pos:Int)] _ _
  go_enter Tryz.func235,Tryz.ntmps235
  go_upto_region 1 with (fail);have hW':=HW.out;rw [hW'];clear hW'
  by_cases hlo:cc < -1099511627776
  ·have hr:=HR.out;rw [show decide (-1099511627776≤cc)=false by simp;omega] at hr;simp only [Bool.false_and] at hr;subst hr;go_wp2_with (go_at_call 72;refine HF.out.mono ?_;rintro e w6 ⟨⟨p,rfl⟩,k6⟩);exact ⟨rfl,⟨p,rfl⟩,HKW.out.trans k6⟩
  ·by_cases hhi:1099511627776≤cc
   ·have hr:=HR.out;rw [show decide (cc < 1099511627776)=false by simp;omega] at hr;simp only [Bool.and_false,Bool.false_and] at hr;subst hr;go_wp2_with (go_at_call 72;refine HF.out.mono ?_;rintro e w6 ⟨⟨p,rfl⟩,k6⟩);exact ⟨rfl,⟨p,rfl⟩,HKW.out.trans k6⟩
   ·have hr:=HR.out;rw [show decide (cc < 1099511627776)=true by simp;omega,show decide (-1099511627776≤cc)=true by simp;omega] at hr;simp only [Bool.true_and] at hr;have HR2:=Lib.hid hr;clear hr;go_wp2_with fail
    go_loopw [23] (fun v wr=>∃ j:Nat,j≤ks.length∧v=.int .i64 j∧Kept [] W wr∧(∀ q∈ks.take j,rangedB q=true)) (fun v _=>ks.length - (intOf v).toNat)
    case atStart=>exact ⟨0,Nat.zero_le _,rfl,Kept.refl _ _,by simp⟩
    case round =>
     obtain ⟨j,hj,rfl,hkr,hall⟩:=hrel;have HKR:=Lib.hid hkr;have HALL:=Lib.hid hall;clear hall
     by_cases hlt:j < ks.length
     ·have hlt':(j:Int) < (ks.length:Int):=by omega
      have hrw:=HROW.out.kept (fun _ _ x=>PdR.kept hkr x) hkr;obtain ⟨b,off,rfl,hc⟩:=hrw.at_ (by omega);obtain ⟨cq,h1,h2,h3⟩:=hc j ks[j] (List.getElem?_eq_getElem hlt);obtain ⟨q,hq⟩:∃ q,ks[j]=q:=⟨_,rfl⟩;rw [hq] at h2
      have hqs:sizeB q≤m:=by have:=sizeL_mem (hq▸List.getElem_mem hlt:q∈ks);omega
      have htk:ks.take (j+1)=ks.take j++[q]:=by rw [List.take_succ_eq_append_getElem hlt,hq]
      have hqm:rangedB q=false→R=false:=by
       intro hf;rw [HR2.out]
       cases hh:rangedL ks
       ·rfl
       ·have:=(rangedL_iff ks).1 hh q (hq▸List.getElem_mem hlt)
        rw [hf] at this;cases this
      have HTK:=Lib.hid htk;have HQM:=Lib.hid hqm;clear htk hqm hq hc hrw;have hps:=HH.out.step hkr;obtain ⟨kd',l',r',cc',ks'⟩:=q;obtain ⟨ka',kc',rfl,_⟩:=h2.rows;have y0:wr.cell? ⟨b,off+j*5,none⟩=some (.int .i64 kd'):=h3 0 _ (by decide) rfl;have y1:wr.cell? ⟨b,off+j*5+1,none⟩=some (.string ⟨l'.toArray⟩):=h3 1 _ (by decide) rfl;have y2:wr.cell? ⟨b,off+j*5+2,none⟩=some (.string ⟨r'.toArray⟩):=h3 2 _ (by decide) rfl;have y3:wr.cell? ⟨b,off+j*5+3,none⟩=some (.int .i64 cc'):=h3 3 _ (by decide) rfl;have y4:wr.cell? ⟨b,off+j*5+4,none⟩=some (.slice ka' ks'.length kc'):=h3 4 _ (by decide) rfl;obtain ⟨wA,hwA⟩:∃ x,wr.alloc (.cells #[(.int .i64 kd'),(.string ⟨l'.toArray⟩),(.string ⟨r'.toArray⟩),(.int .i64 cc'),(.slice ka' ks'.length kc')] 46)=x:=⟨_,rfl⟩;have kA:Kept [] wr wA:=hwA▸(Kept.refl _ _).alloc _;have hBA:Blk wA wr.heap.size 46 #[(.int .i64 kd'),(.string ⟨l'.toArray⟩),(.string ⟨r'.toArray⟩),(.int .i64 cc'),(.slice ka' ks'.length kc')]:=hwA▸Blk.new _ _ _;have IH:=Lib.hid (ih (.node kd' l' r' cc' ks') _ wA hqs (hps.step kA) (PdR.kept kA h2));have HWA:=Lib.hid hwA;have KA:=Lib.hid (hkr.trans kA);have x0:wA.cell? ⟨wr.heap.size,0,none⟩=some (.int .i64 kd'):=hBA.cell 0;have x1:wA.cell? ⟨wr.heap.size,1,none⟩=some (.string ⟨l'.toArray⟩):=hBA.cell 1;have x2:wA.cell? ⟨wr.heap.size,2,none⟩=some (.string ⟨r'.toArray⟩):=hBA.cell 2;have x3:wA.cell? ⟨wr.heap.size,3,none⟩=some (.int .i64 cc'):=hBA.cell 3;have x4:wA.cell? ⟨wr.heap.size,4,none⟩=some (.slice ka' ks'.length kc'):=hBA.cell 4;clear h1 h2 h3 hwA kA hBA hps
      go_upto_region 6 with (fail);have hwA':=HWA.out;rw [hwA'];clear hwA' y0 y1 y2 y3 y4
      cases hrq:rangedB (.node kd' l' r' cc' ks')
      ·rw [hrq] at IH;have hf:=HQM.out hrq;subst hf;go_wp2_with (go_at_call 235;refine IH.out.mono ?_;unfold RngE;rintro e w6 ⟨⟨p,rfl⟩,k6⟩);exact ⟨rfl,⟨p,rfl⟩,HKW.out.trans (KA.out.trans k6)⟩
      ·rw [hrq] at IH;go_wp2_with (go_at_call 235;refine IH.out.mono ?_;unfold RngE;rintro e w6 ⟨rfl,k6⟩)
       go_roundw
       case rel =>
        refine ⟨j+1,by omega,by go_num,KA.out.trans k6,fun q hq=>?_⟩;rw [HTK.out] at hq
        rcases List.mem_append.1 hq with hq|hq
        ·exact HALL.out q hq
        ·rw [List.mem_singleton] at hq;exact hq▸hrq
       case measure=>simp [intOf];omega
     ·obtain rfl:j=ks.length:=by omega
      have hfin:R=true:=by
       rw [HR2.out,rangedL_iff];intro q hq;exact HALL.out q (by rw [List.take_length];exact hq)
      subst hfin;have hb1:=HB1.out.kept hkr (by simp);have hb2:=HB2.out.kept hkr (by simp);have u0:wr.cell? ⟨w.heap.size,0,none⟩=some (.int .i64 kd):=hb1.cell 0;have u1:wr.cell? ⟨w.heap.size,1,none⟩=some (.string ⟨l.toArray⟩):=hb1.cell 1;have u2:wr.cell? ⟨w.heap.size,2,none⟩=some (.string ⟨r.toArray⟩):=hb1.cell 2;have u3:wr.cell? ⟨w.heap.size,3,none⟩=some (.int .i64 cc):=hb1.cell 3;have u4:wr.cell? ⟨w.heap.size,4,none⟩=some (.slice ka ks.length kc):=hb1.cell 4;have t0:wr.cell? ⟨w.heap.size+1,0,none⟩=some (.int .i64 0):=hb2.cell 0;have t1:wr.cell? ⟨w.heap.size+1,1,none⟩=some (.string ⟨#[]⟩):=hb2.cell 1;have t2:wr.cell? ⟨w.heap.size+1,2,none⟩=some (.string ⟨#[]⟩):=hb2.cell 2;have t3:wr.cell? ⟨w.heap.size+1,3,none⟩=some (.int .i64 0):=hb2.cell 3;have t4:wr.cell? ⟨w.heap.size+1,4,none⟩=some (.slice none 0 0):=hb2.cell 4;have f0:=hb2.frozen 0;have f1:=hb2.frozen 1;have f2:=hb2.frozen 2;have f3:=hb2.frozen 3;have f4:=hb2.frozen 4;have HE2:=Lib.hid (fun v0 v1 v2 v3 v4=>((((hb2.set_ 0 v0).set_ 1 v1).set_ 2 v2).set_ 3 v3).set_ 4 v4);have KK:=Lib.hid (HKW.out.trans hkr);clear hb1 hb2;go_wp2_with fail;refine ranged_end (HE2.out _ _ _ _ _) rfl rfl ⟨rfl,?_⟩;exact ((((KK.out.setCell (Or.inr (Nat.le_succ _)) _).setCell (Or.inr (Nat.le_succ _)) _).setCell (Or.inr (Nat.le_succ _)) _).setCell (Or.inr (Nat.le_succ _)) _).setCell (Or.inr (Nat.le_succ _)) _
end Go.Proofs.YtpcmamoomaddoaaGreatDoor
