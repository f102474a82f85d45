/- slices.SortFunc at binds by their names; slices.Sort at a row of ints. -/
import Derived.Test.YtpcmamoomaddoaaGreatDoorAcc
import Derived.Test.YtpcmamoomaddoaaGreatDoorShelf
namespace Go.Proofs.YtpcmamoomaddoaaGreatDoor
open Go.RowKit Go.Sort Go.Shelf Go.Lib
def encB (b:Bnd):List Value:=[.string ⟨b.1.toArray⟩,.int .i64 b.2]
def cfB (a b:Bnd):Int:=cmpS a.1 b.1
theorem cfB_swo:SWO (ltOf cfB) where
 irrefl x:=cmpS_is.swo.irrefl x.1
 trans x y z h1 h2:=cmpS_is.swo.trans x.1 y.1 z.1 h1 h2
 ntrans x y z h1 h2:=cmpS_is.swo.ntrans x.1 y.1 z.1 h1 h2
theorem encB_one (x:Bnd):∀ v∈encB x,v.oneCell'=true:=by
 intro v hv;simp only [encB,List.mem_cons,List.not_mem_nil,or_false] at hv
 rcases hv with rfl|rfl <;> rfl
set_option maxRecDepth 100000 in
set_option maxHeartbeats 2000000 in
theorem m1_any (x y:Bnd) (w:World) :
  Calls Tryz.prog 88 #[.agg (encB x).toArray,.agg (encB y).toArray] w fun e w'=>e=.returned (.int .i64 (cfB x y))∧GD w w':=by
 obtain ⟨xa,xb⟩:=x;obtain ⟨ya,yb⟩:=y;have ex:(encB (xa,xb)).toArray=#[.string ⟨xa.toArray⟩,.int .i64 xb]:=rfl;have ey:(encB (ya,yb)).toArray=#[.string ⟨ya.toArray⟩,.int .i64 yb]:=rfl;rw [ex,ey];clear ex ey;obtain ⟨R,hR⟩:∃ R,cfB (xa,xb) (ya,yb)=R:=⟨_,rfl⟩;rw [hR]
 unfold cfB at hR
 obtain ⟨W,hW⟩:∃ W,(w.alloc (.cells #[.string ⟨xa.toArray⟩,.int .i64 xb] 82)).alloc (.cells #[.string ⟨ya.toArray⟩,.int .i64 yb] 82)=W:=⟨_,rfl⟩;have hgW:GD w W:=hW▸((GD.refl w).alloc _).alloc _;have hB0:Blk W w.heap.size 82 #[.string ⟨xa.toArray⟩,.int .i64 xb]:=hW▸(Blk.new _ _ _).alloc _;have hB1:Blk W (w.heap.size+1) 82 #[.string ⟨ya.toArray⟩,.int .i64 yb]:=hW▸Blk.new1 _ _ _ _;have a0:W.cell? ⟨w.heap.size,0,none⟩=some (.string ⟨xa.toArray⟩):=hB0.cell 0;have b0:W.cell? ⟨w.heap.size+1,0,none⟩=some (.string ⟨ya.toArray⟩):=hB1.cell 0;have H1:=cmpS_any xa ya W
 dsimp only at hR
 rw [hR] at H1;have H1:=Lib.hid H1;have HG:=Lib.hid hgW;have HW:=Lib.hid hW;clear hW hgW hB0 hB1 hR
 go_enter Tryz.func88,Tryz.ntmps88
 go_upto_region 1 with (fail);have hW':=HW.out;rw [hW'];clear hW';go_wp2_with (go_at_call 89;(with_reducible refine H1.out.mono ?_);rintro e w5 ⟨rfl,rfl⟩);go_ret;exact ⟨rfl,HG.out⟩
theorem pairwise_of {α:Type} [Inhabited α] {lt:α→α→Bool} {n:Nat} {d:Array α} (h:SortedIn lt 0 n d) (hn:d.size=n):d.toList.Pairwise fun a b=>lt b a=false:=by
 rw [List.pairwise_iff_getElem];intro i j hi hj hij;have:=h i j (Nat.zero_le _) hij (by rw [←hn];simpa using hj)
 have hi':i < d.size:=by simpa using hi
 have hj':j < d.size:=by simpa using hj
 rw [getElem!_pos d i hi',getElem!_pos d j hj'] at this
 simpa using this
theorem cfB_le {a b:Bnd} (h:ltOf cfB b a=false):a.1≤b.1:=by
 unfold ltOf cfB cmpS at h
 simp only [decide_eq_false_iff_not] at h
 rcases List.le_total a.1 b.1 with h1|h1
 ·exact h1
 ·by_cases h2:b.1 < a.1
  ·rw [if_pos h2] at h;exact absurd (by decide) h
  ·exact List.not_lt.1 h2
theorem sortBinds {w:World} {base:Nat} {v:Value} {l:List Bnd} (h:w.ownsRow base 82 2 v l.length (bindsC l)) (hl:l.length < 4611686018427387904) (hn:(l.map Prod.fst).Nodup) :
  Calls Tryz.prog 87 #[v,.func (.func 88) #[] #[]] w fun e w'=>e=.returned (.tuple #[])∧w'.ownsRow base 82 2 v l.length (bindsC (bindsS l))∧Kept (obl v) w w':=by
 rcases h.2 with ⟨h1,h2⟩|⟨g,cap,cur,h1,_⟩
 ·subst h1;have h0:l=[]:=List.eq_nil_of_length_eq_zero h2;subst h0;refine (AnyF.slices_SortFunc_none Tryz.sf87 none 0 _ w).mono ?_;rintro e w' ⟨rfl,rfl⟩;refine ⟨rfl,?_,Kept.refl _ _⟩
  have:bindsS []=[]:=by simp [bindsS]
  rw [this];exact h
 ·subst h1;have hk:∀ x,(encB x).length=2:=fun _=>rfl;obtain ⟨_,_,hH,hg⟩:=sortK_row (l':=l) (n:=0) (os:=#[]) (enc:=encB) hk (by decide) h rfl;have eg:∀ args w,(callFunc 88 args).run Tryz.prog w=.ok (.enter 88 args) w:=enters_of Tryz.func88 (by kernel_rfl) rfl;have:=AnyQ.slices_SortFunc Tryz.sf87 2 Tryz.isAgg82 Tryz.sizeOf82 encB hk encB_one cfB cfB_swo 88 #[] g 0 cap l.toArray w eg (fun _ _ _ _ x y=>m1_any x y _) hH hg (by simpa using hl);refine Calls.mono this ?_;rintro e w' ⟨rfl,d',n,os,hp,hs,rfl⟩;have hpp:=perm_of hp;have hpw:=pairwise_of hs (by simpa using hpp.length_eq);obtain ⟨k1,k2,_,_⟩:=sortK_row (l':=d'.toList) (n:=n) (os:=os) (enc:=encB) hk (by decide) h hpp.length_eq;have e1:d'.toList=bindsS l:=binds_uniq hn hpp (hpw.imp cfB_le);refine ⟨rfl,?_,k2⟩;rw [←e1];exact k1
theorem heap_enc {α:Type} [Inhabited α] {enc:α→Value} {w:World} {g n:Nat} {os:Array Obj} {cur:Array Value} {e:TypeId} {fr:Nat × Nat} (d:Array α) (hb:w.heap[g]?=some (.cells cur e fr)) :
  (grow (putRow enc (Sort.ahead w n) g 0 d) os).heap[g]?=some (.cells (putCells enc 0 d cur) e fr):=by
 have hg:g < w.heap.size:=(Array.getElem?_eq_some_iff.1 hb).1;rw [heap_grow_old _ _ (by simpa using hg)]
 simp [putRow,mapBlock,Sort.ahead,Array.getElem?_modify,hb,onCells]
theorem grown_enc {α:Type} [Inhabited α] {enc:α→Value} {w:World} {g n:Nat} {os:Array Obj} (d:Array α):w.grownBy (grow (putRow enc (Sort.ahead w n) g 0 d) os) (some g):=by
 refine ⟨rfl,rfl,rfl,by simp,fun k hk hne=>?_⟩;rw [heap_grow_old _ _ (by simpa using hk)];have:g≠k:=fun e=>hne (by rw [e])
 simp [putRow,mapBlock,Sort.ahead,Array.getElem?_modify,this]
theorem take_enc (cur:Array Value) (l:List Int) (h:l.length≤cur.size):(putCells (Value.int .i64) 0 l.toArray cur).toList.take l.length=ints l:=by
 apply List.ext_getElem?
 intro j
 by_cases hj:j < l.length
 ·rw [List.getElem?_take_of_lt hj,Array.getElem?_toList,ints_get hj]
  simp [putCells,hj,show j < cur.size by omega]
 ·rw [List.getElem?_take_eq_none (by omega),List.getElem?_eq_none (by simp [ints];omega)]
theorem sortInts {w:World} {base:Nat} {v:Value} {l:List Int} (h:w.ownsRow base 3 1 v l.length (ints l)) (hl:l.length < 4611686018427387904) :
  Calls Tryz.prog 85 #[v] w fun e w'=>e=.returned (.tuple #[])∧w'.ownsRow base 3 1 v l.length (ints (l.mergeSort fun x y=>decide (x≤y)))∧Kept (obl v) w w':=by
 rcases h.2 with ⟨h1,h2⟩|⟨g,cap,cur,h1,hB,hg,hnc,hcm,hcs,hx⟩
 ·subst h1;have h0:l=[]:=List.eq_nil_of_length_eq_zero h2;subst h0;refine (Any.slices_Sort_int_none Tryz.lays189 none 0 w).mono ?_;rintro e w' ⟨rfl,rfl⟩;refine ⟨rfl,?_,Kept.refl _ _⟩;rw [List.mergeSort_nil];exact h
 ·subst h1;have hg':g < w.heap.size:=(Array.getElem?_eq_some_iff.1 hg).1
  have hH:Holds (Value.int .i64) w g 0 l.toArray:=fun j hj=>by
   have hj':j < l.length:=by simpa using hj
   refine ⟨?_,by simp [World.frozen?,hg]⟩
   have h1:(cur.toList.take (l.length*1))[j]?=(ints l)[j]?:=by rw [hx]
   rw [List.getElem?_take_of_lt (by omega),ints_get hj'] at h1;simp only [World.cell?,hg,Nat.zero_add];simp only [Option.isSome_none,Bool.false_eq_true,if_false];rw [←Array.getElem?_toList,h1]
   simp [hj']
  refine (Tryz.slices_Sort_int g 0 cap l w hH hg' hl).mono ?_;rintro e w' ⟨rfl,n,os,rfl⟩;obtain ⟨m,hm⟩:∃ m,(l.mergeSort fun x y=>decide (x≤y))=m:=⟨_,rfl⟩
  have hml:m.length=l.length:=by rw [←hm,List.length_mergeSort]
  rw [hm];refine ⟨rfl,⟨by simp [ints,hml],Or.inr ⟨g,cap,putCells (Value.int .i64) 0 m.toArray cur,rfl,hB,heap_enc _ hg,hnc,hcm,by simp [putCells,hcs],?_⟩⟩,Kept.of_grown (grown_enc _) (fun j e=>by cases e;exact obl_some rfl)⟩;rw [Nat.mul_one,←hml];exact take_enc cur m (by omega)
end Go.Proofs.YtpcmamoomaddoaaGreatDoor
