import Derived.Test.YtpcmamoomaddoaaGreatDoorAdd
set_option maxRecDepth 100000
set_option maxHeartbeats 32000000
namespace Go.Proofs.YtpcmamoomaddoaaGreatDoor
open Go.RowKit Go.Sort Go.Shelf Go.Lib
open Go.Proofs.Tryz
def encB(b:Bnd):List Value:=[.string ⟨b.1.toArray⟩,.int .i64 b.2]
def cfB(a b:Bnd):Int:=cmpS a.1 b.1
theorem xt:SWO (ltOf cfB) where
 irrefl x:=io.swo.irrefl x.1
 trans x y z h1 h2:=io.swo.trans x.1 y.1 z.1 h1 h2
 ntrans x y z h1 h2:=io.swo.ntrans x.1 y.1 z.1 h1 h2
theorem vv(x:Bnd):∀v∈encB x,v.oneCell'=true:=by
 intro v hv;simp only[encB,List.mem_cons,List.not_mem_nil,or_false]at hv
 rcases hv with rfl|rfl <;> rfl
theorem yk(x y:Bnd)(w:World) :
  Calls prog 88 #[.agg (encB x).toArray,.agg (encB y).toArray] w fun e w'=>e=.returned (.int .i64 (cfB x y))/\GD w w':=by
 obtain⟨b,d⟩:=x;obtain⟨a,c⟩:=y;have m:(encB (b,d)).toArray=#[.string ⟨b.toArray⟩,.int .i64 d]:=rfl;have l:(encB (a,c)).toArray=#[.string ⟨a.toArray⟩,.int .i64 c]:=rfl;rw[m,l];clear m l;obtain⟨R,h⟩:∃R,cfB (b,d) (a,c)=R:=⟨_,rfl⟩;rw[h]
 unfold cfB at h
 obtain⟨W,g⟩:∃W,(w.alloc (.cells #[.string ⟨b.toArray⟩,.int .i64 d] 82)).alloc (.cells #[.string ⟨a.toArray⟩,.int .i64 c] 82)=W:=⟨_,rfl⟩;have f:GD w W:=g▸((GD.refl w).alloc _).alloc _;have j:Blk W w.heap.size 82 #[.string ⟨b.toArray⟩,.int .i64 d]:=g▸(Blk.new _ _ _).alloc _;have i:Blk W (w.heap.size+1) 82 #[.string ⟨a.toArray⟩,.int .i64 c]:=g▸Blk.new1 _ _ _ _;have r:W.cell? ⟨w.heap.size,0,none⟩=some (.string ⟨b.toArray⟩):=j.cell 0;have q:W.cell? ⟨w.heap.size+1,0,none⟩=some (.string ⟨a.toArray⟩):=i.cell 0;have k:=kN b a W
 dsimp only at h
 rw[h]at k;have k:=Lib.hid k;have o:=Lib.hid f;have n:=Lib.hid g;clear g f j i h
 go_enter func88,ntmps88
 go_upto_region 1 with(fail);have hW':=n.out;rw[hW'];clear hW';go_wp2_with (go_at_call 89;(with_reducible refine k.out.mono ?_);rintro e p ⟨rfl,rfl⟩);go_ret;exact⟨rfl,o.out⟩
theorem nY{α:Type}[Inhabited α]{lt:α->α->Bool}{n:Nat}{d:Array α}(h:SortedIn lt 0 n d)(hn:d.size=n):d.toList.Pairwise fun a b=>lt b a=false:=by
 rw[List.pairwise_iff_getElem];intro i j hi hj hij;have:=h i j (Nat.zero_le _) hij (by rw[<-hn];simpa using hj)
 have hi':i < d.size:=by simpa using hi
 have hj':j < d.size:=by simpa using hj
 rw[getElem!_pos d i hi',getElem!_pos d j hj']at this
 simpa using this
theorem yz{a b:Bnd}(h:ltOf cfB b a=false):a.1<=b.1:=by
 unfold ltOf cfB cmpS at h
 simp only[decide_eq_false_iff_not]at h
 rcases List.le_total a.1 b.1 with h1|h1
 ·exact h1
 ·by_cases h2:b.1 < a.1
  ·rw[if_pos h2]at h;exact absurd (by decide) h
  ·exact List.not_lt.1 h2
theorem rR{w:World}{base:Nat}{v:Value}{l:List Bnd}(h:w.ownsRow base 82 2 v l.length (cZ l))(hl:l.length < 4611686018427387904)(hn:(l.map Prod.fst).Nodup) :
  Calls prog 87 #[v,.func (.func 88) #[] #[]] w fun e w'=>e=.returned (.tuple #[])/\w'.ownsRow base 82 2 v l.length (cZ (aS l))/\Kept (obl v) w w':=by
 rcases h.2 with⟨d,p⟩|⟨g,f,t,d,_⟩
 ·subst d;have q:l=[]:=List.eq_nil_of_length_eq_zero p;subst q;refine(AnyF.slices_SortFunc_none Tryz.sf87 none 0 _ w).mono ?_;rintro e w' ⟨rfl,rfl⟩;refine⟨rfl,?_,Kept.refl _ _⟩
  have:aS []=[]:=by simp[aS]
  rw[this];exact h
 ·subst d;have c:∀x,(encB x).length=2:=fun _=>rfl;obtain⟨_,_,hH,o⟩:=fU (l':=l) (n:=0) (os:=#[]) (enc:=encB) c (by decide) h rfl;have r:∀args w,(callFunc 88 args).run prog w=.ok (.enter 88 args) w:=enters_of func88 (by kernel_rfl) rfl;have:=AnyQ.slices_SortFunc Tryz.sf87 2 isAgg82 sizeOf82 encB c vv cfB xt 88 #[] g 0 f l.toArray w r (fun _ _ _ _ x y=>yk x y _) hH o (by simpa using hl);refine Calls.mono this ?_;rintro e w' ⟨rfl,d',n,os,m,k,rfl⟩;have a:=rf m;have b:=nY k (by simpa using a.length_eq);obtain⟨j,i,_,_⟩:=fU (l':=d'.toList) (n:=n) (os:=os) (enc:=encB) c (by decide) h a.length_eq;have s:d'.toList=aS l:=kQ hn a (b.imp yz);refine⟨rfl,?_,i⟩;rw[<-s];exact j
theorem ve{α:Type}[Inhabited α]{enc:α->Value}{w:World}{g n:Nat}{os:Array Obj}{cur:Array Value}{e:TypeId}{fr:Nat × Nat}(d:Array α)(hb:w.heap[g]?=some (.cells cur e fr)) :
  (grow (putRow enc (Sort.ahead w n) g 0 d) os).heap[g]?=some (.cells (putCells enc 0 d cur) e fr):=by
 have hg:g < w.heap.size:=(Array.getElem?_eq_some_iff.1 hb).1;rw[heap_grow_old _ _ (by simpa using hg)]
 simp[putRow,mapBlock,Sort.ahead,Array.getElem?_modify,hb,onCells]
theorem tx{α:Type}[Inhabited α]{enc:α->Value}{w:World}{g n:Nat}{os:Array Obj}(d:Array α):w.grownBy (grow (putRow enc (Sort.ahead w n) g 0 d) os) (some g):=by
 refine⟨rfl,rfl,rfl,by simp,fun k hk hne=>?_⟩;rw[heap_grow_old _ _ (by simpa using hk)];have:g≠k:=fun e=>hne (by rw[e])
 simp[putRow,mapBlock,Sort.ahead,Array.getElem?_modify,this]
theorem tU(cur:Array Value)(l:List Int)(h:l.length<=cur.size):(putCells (Value.int .i64) 0 l.toArray cur).toList.take l.length=ints l:=by
 apply List.ext_getElem?
 intro j
 by_cases hj:j < l.length
 ·rw[List.getElem?_take_of_lt hj,Array.getElem?_toList,bu hj]
  simp[putCells,hj,show j < cur.size by omega]
 ·rw[List.getElem?_take_eq_none (by omega),List.getElem?_eq_none (by simp[ints];omega)]
theorem nJ{w:World}{base:Nat}{v:Value}{l:List Int}(h:w.ownsRow base 3 1 v l.length (ints l))(hl:l.length < 4611686018427387904) :
  Calls prog 85 #[v] w fun e w'=>e=.returned (.tuple #[])/\w'.ownsRow base 3 1 v l.length (ints (l.mergeSort fun x y=>decide (x<=y)))/\Kept (obl v) w w':=by
 rcases h.2 with⟨b,s⟩|⟨g,d,a,b,r,f,i,o,k,q⟩
 ·subst b;have t:l=[]:=List.eq_nil_of_length_eq_zero s;subst t;refine(Any.slices_Sort_int_none Tryz.lays189 none 0 w).mono ?_;rintro e w' ⟨rfl,rfl⟩;refine⟨rfl,?_,Kept.refl _ _⟩;rw[List.mergeSort_nil];exact h
 ·subst b;have hg':g < w.heap.size:=(Array.getElem?_eq_some_iff.1 f).1
  have hH:Holds (Value.int .i64) w g 0 l.toArray:=fun j hj=>by
   have hj':j < l.length:=by simpa using hj
   refine⟨?_,by simp[World.frozen?,f]⟩
   have b:(a.toList.take (l.length*1))[j]?=(ints l)[j]?:=by rw[q]
   rw[List.getElem?_take_of_lt (by omega),bu hj']at b;simp only[World.cell?,f,Nat.zero_add];simp only[Option.isSome_none,Bool.false_eq_true,if_false];rw[<-Array.getElem?_toList,b]
   simp[hj']
  refine(Tryz.slices_Sort_int g 0 d l w hH hg' hl).mono ?_;rintro e w' ⟨rfl,n,u,rfl⟩;obtain⟨m,p⟩:∃m,(l.mergeSort fun x y=>decide (x<=y))=m:=⟨_,rfl⟩
  have c:m.length=l.length:=by rw[<-p,List.length_mergeSort]
  rw[p];refine⟨rfl,⟨by simp[ints,c],Or.inr ⟨g,d,putCells (Value.int .i64) 0 m.toArray a,rfl,r,ve _ f,i,o,by simp[putCells,k],?_⟩⟩,Kept.of_grown (tx _) (fun j e=>by cases e;exact cD rfl)⟩;rw[Nat.mul_one,<-c];exact tU a m (by omega)
end Go.Proofs.YtpcmamoomaddoaaGreatDoor
namespace Go.Proofs.YtpcmamoomaddoaaGreatDoor
open Go.RowKit Go.Maps
open Go.Proofs.Tryz
open Lib(hid)
theorem yv:(prog.info? 74).map (fun i=>(i.zero,i.size,i.bytes))=some (some (.agg #[.slice none 0 0,.slice none 0 0,.int .i64 0]),3,56):=by kernel_rfl
theorem kT{l m:List Bnd}(h:l.Perm m)(hn:(m.map Prod.fst).Nodup):aS l=aS m:=kQ hn ((aZ l).trans h) (mw l)
theorem jV{P:List Cz}(hn:(P.map Cz.num).Nodup)(x:Int):(findC P x).isSome=true↔x∈P.map Cz.num:=by
 constructor
 ·intro h
  cases hf:findC P x with
  |none=>rw[hf]at h;cases h
  |some c=>obtain⟨h1,h2⟩:=ce hf;exact List.mem_map.2 ⟨c,h1,h2⟩
 ·intro h;obtain⟨c,hc,rfl⟩:=List.mem_map.1 h;rw[eO hn hc]
  rfl
theorem rM{l:List Bnd}(hn:(l.map Prod.fst).Nodup){b:Bnd}(hb:b∈l):valOf l b.1=some b.2:=by
 induction l with
 |nil=>cases hb
 |cons c l ih =>
  rw[List.map_cons,List.nodup_cons]at hn
  unfold valOf
  rw[List.find?_cons]
  rcases List.mem_cons.1 hb with rfl|h
  ·simp
  ·have:c.1≠b.1:=fun e=>hn.1 (List.mem_map.2 ⟨b,h,e.symm⟩);rw[decide_eq_false this];exact ih hn.2 h
theorem nD{l:List Bnd}{s:Bs}{v:Int}(h:valOf l s=some v):(s,v)∈l:=by
 unfold valOf at h
 rw[Option.map_eq_some_iff]at h;obtain⟨b,hb,rfl⟩:=h;have h1:=List.find?_some hb;simp at h1;subst h1;exact List.mem_of_find?_eq_some hb
/-- the pairs of names -/
def bR(l:List Bnd)(ss:List Bs):List Bnd:=ss.map fun s=>(s,(valOf l s).getD 0)
theorem pZ{l:List Bnd}(hn:(l.map Prod.fst).Nodup){ss:List Bs}(hs:ss.Nodup)(hm:∀s,s∈ss↔(valOf l s).isSome=true):(bR l ss).Perm l:=by
 have hl:l.Nodup:=(List.pairwise_map.1 hn).imp fun h e=>h (by rw[e]);refine(List.perm_ext_iff_of_nodup ?_ hl).2 fun b=>?_
 ·unfold bR
  exact List.pairwise_map.2 (hs.imp fun h e=>h (congrArg Prod.fst e))
 ·unfold bR
  rw[List.mem_map]
  constructor
  ·rintro⟨s,h1,rfl⟩
   cases hv:valOf l s with
   |none=>rw[(hm s)]at h1;rw[hv]at h1;cases h1
   |some v=>exact nD hv
  ·intro hb;have h1:=rM hn hb;exact⟨b.1,(hm _).2 (by rw[h1];rfl),by rw[h1];rfl⟩
theorem ou{B0:Nat}{w:World}{g bv bt N kn:Nat}{V T:Int->Nat}{P:List Cz}{vl:Value}{log:List Int}{X:List Nat}
  (hC:Cit B0 w g bv bt N kn V T (findC P)) (hnd:(P.map Cz.num).Nodup) (hnw:∀c∈P,(Lit.int .i64 c.num).wf=true) (hvl:∀c∈P,cr c.vals) (hlog:Row w 1 vl log.length (ints log)) (hN:N<=1000000) (hkn:kn<=1000)
  (hX:∀z∈X,z < w.heap.size/\∀x c,findC P x=some c->T x≠z) :
  Calls prog 41 #[.pointer (some ⟨g,0,none⟩),vl] w fun e w'=>Kept [] w w'/\∃vm vn,e=.returned (.tuple #[vm,vn])/\aw X (fun w=>aj MbR 3 w vm (membersB log P)) w'/\aw X (fun w=>Row w 1 vn (aL P).length (ints (aL P))) w':=by
 obtain⟨i0,hi,g3,g2,g1⟩:=info_parts yv;obtain⟨i1,gn,g6,g5,g4⟩:=info_parts oF;obtain⟨r,hr⟩:∃r,w.heap.size=r:=⟨_,rfl⟩;have g0:w.cell? ⟨g,0,none⟩=some (.map (some bv)):=hC.blk.cell 0;have HC:=hid hC;have bs:=hid hnd;have ey:=hid hnw;have gx:=hid hvl;have f0:=hid hlog;have HX:=hid hX;have HR:=hid hr
 have i5:g < r:=by rw[<-hr];exact hC.blk.lt
 have i6:bv < r:=by rw[<-hr];exact hC.mv.lt
 have c7:∀(d:List Int) (w':World),aK aM w' bv r N (fun x=>(findC P x).map fun _=>Value.map (some (V x))) d->d.length<=N:=fun _ _ h=>h.length_le;have HN:=hid c7;clear hC hnd hnw hvl hlog hX c7
 go_enter func41,ntmps41
 go_wp2_with (first
  |(at_range;refine gi (E:=aM) HC.out.mv rfl _ 94 142 rfl underlying94 rfl ?_;intro w1 Q er g8;have bb:=hid Q;have fn:=hid er;clear Q er g8)
  |go_in)
 have Q:=bb.out;rw[hr]at Q ⊢;have bb:=hid Q;have hh:=hid (Kept.of_grown (S:=[]) fn.out (fun k e=>by cases e));clear Q fn hr g0
 go_frame
 go_loopw [6] (fun v6 wr=>∃d:List Int,aK aM wr bv r N (fun x=>(findC P x).map fun _=>Value.map (some (V x))) d/\wr.ownsRow (r+1) 3 1 v6 d.length (ints d)/\Kept [] w wr) (fun _ wr=>wr.rangeLeft bv r)
 case atStart=>exact⟨[],bb.out,World.ownsRow_nil _ _ _ _,hh.out⟩
 case round =>
  obtain⟨d,q,o,J⟩:=hrel;obtain⟨oa,oc,rfl⟩:=dp o (by decide);have e0:=HN.out _ _ q;have HO:=hid o;have d4:=hid J;have bc:=hid q;clear o J
  go_wp2_with (first
   |(at_next;refine gR q rfl _ rfl rfl ?_ ?_)
   |go_in)
  ·intro u
   have b1:d.Perm (P.map Cz.num):=by
    obtain⟨D,dq,gs,h1,h2,h3,h4,h5,h6⟩:=q
    refine(List.perm_ext_iff_of_nodup h4 bs.out).2 fun x=>⟨fun hx=>?_,fun hx=>?_⟩
    ·refine(jV bs.out x).1 ?_;have:=(h5 x hx).2
     dsimp only at this
     cases hf:findC P x with
     |none=>rw[hf]at this;cases this
     |some c=>rfl
    ·refine u x ?_ ((jV bs.out x).2 hx);obtain⟨c,hc,rfl⟩:=List.mem_map.1 hx;exact ey.out c hc
   obtain⟨nn,b5⟩:∃n,d.length=n:=⟨_,rfl⟩
   have a3:(d.mergeSort fun x y=>decide (x<=y))=aL P:=by
    refine sE ((List.mergeSort_perm _ _).trans b1) ?_;have:=List.pairwise_mergeSort (le:=fun a b:Int=>decide (a<=b)) (fun a b c h1 h2=>by simp only[decide_eq_true_eq]at *;omega) (fun a b=>by simp only[Bool.or_eq_true,decide_eq_true_eq];omega) d
    exact this.imp fun h=>by simpa using h
   have F:=nJ HO.out (by omega);rw[a3,b5]at F;rw[b5]at e0 ⊢
   have e7:(aL P).length=nn:=by rw[<-b5,<-a3,List.length_mergeSort]
   have t:=hid (aA HO.out);have ev:=hid F;have bd:=hid e7;rw[b5]at t;clear b1 a3 F e7 b5 q HO bc u HN
   go_wp2_with (first
    |(go_at_call 85;refine ev.out.mono ?_;rintro e w5 ⟨rfl,b2,k5⟩;have d0:=hid b2;have af:=hid (d4.out.fresh k5 (fun z hz=>by have:=(t.out z hz).1;have:=HR.out;omega));have i4:=hid k5;clear b2 k5)
    |go_in)
   go_loopw [8,31] (fun v8 v31 wr=>∃j:Nat,j<=nn/\v31=.int .i64 j/\Kept [] w5 wr/\Grow MbR 3 74 w5.heap.size (X++obl v8) wr v8 ((membersB log P).take j)) (fun _ v31 _=>nn - (intOf v31).toNat)
   case atStart=>exact⟨0,Nat.zero_le _,rfl,Kept.refl _ _,by rw[List.take_zero];exact Grow.nil_ _ _ _ _ _ _⟩
   case round =>
    obtain⟨j,hj,rfl,J,a1⟩:=hrel;have be:=hid J;have ag:=hid a1
    have cl:((membersB log P).take j).length=j:=by rw[List.length_take];unfold membersB;rw[List.length_map,bd.out];omega
    obtain⟨ma,mc,rfl⟩:=a1.form (by decide);rw[cl]at ag ⊢;have d2:=hid cl;clear a1 cl
    by_cases a4:j < nn
    ·have hlt':(j:Int) < (nn:Int):=by omega
     have bl:j < (aL P).length:=by have:=bd.out;omega
     obtain⟨num,a8⟩:∃x,(aL P)[j]=x:=⟨_,rfl⟩;have e6:num∈P.map Cz.num:=(bi P).mem_iff.1 (a8▸List.getElem_mem bl)
     obtain⟨c,Z⟩:∃c,findC P num=some c:=by
      have:=(jV bs.out num).2 e6
      cases h:findC P num with
      |none=>rw[h]at this;cases this
      |some c=>exact⟨c,rfl⟩
     have bo:=ce Z
     have d9:(Lit.int .i64 num).wf=true:=by rw[<-bo.2];exact ey.out c bo.1
     have ao:=gx.out c bo.1
     have e8:dZ log P num=⟨aS c.vals,c.tick,Lib.idxOf log num⟩:=by unfold dZ czOf;rw[Z];rfl
     have a2:(membersB log P).take (j+1)=(membersB log P).take j++[⟨aS c.vals,c.tick,Lib.idxOf log num⟩]:=by
      have cp:(membersB log P)[j]?=some (dZ log P num):=by unfold membersB;rw[List.getElem?_map,List.getElem?_eq_getElem bl,a8];rfl
      obtain⟨gf,cp⟩:=List.getElem?_eq_some_iff.1 cp;rw[List.take_succ_eq_append_getElem gf,cp,e8]
     have au:=(Row.of_own d0.out (by omega)).kept J;obtain⟨ob,oo,rfl,e5⟩:=au.at_ (by omega)
     have y0:wr.cell? ⟨ob,oo+j,none⟩=some (.int .i64 num):=by rw[e5 j _ (bu bl),a8]
     have ac:=HC.out.kept (af.out.trans J);have aq:=ac.tick num c Z;have o:=ac.own num c Z
     have cm:∀w',Kept [] wr w'->(Instr.lookup 95 (.map (some bt)) (.int .i64 num) false).run prog w'=.ok (.slice (some ⟨T num,0,none⟩) kn kn) w':=fun w' k=>by
      have:=(ac.mt.kept k (by simp)).run_look (x:=num) d9 underlying95 (.slice none 0 0) dP;rw[Z]at this;exact this
     have s1:∀w',Kept [] wr w'->w'.cell? ⟨g,1,none⟩=some (.map (some bt)):=Kept.cellOf (ac.blk.cell 1);have bx:=hid (fun(w':World) (k:Kept [] wr w')=>gP ((f0.out.kept (af.out.trans J)).kept k) num);obtain⟨ix,en⟩:∃x,Lib.idxOf log num=x:=⟨_,rfl⟩;rw[en]at bx a2;have h8:=hid a2;have fr:=hid ac;have a0:=hid aq;have c9:=hid o;have a6:=hid ao;have d7:=hid Z;clear bl a8 e6 bo ao e8 a2 au e5 ac aq o en J Z;go_upto_region 11 with(fail);clear y0
     go_cut [11] (fun v11 wx=>v11=.pointer (some ⟨wr.heap.size,0,none⟩)/\wx=(wr.alloc (.cells #[.slice none 0 0,.slice (some ⟨T num,0,none⟩) kn kn,.int .i64 ix] 74)).drew)
     case first =>
      refine ar [11] (fun w'=>Kept [] wr w') (by kernel_rfl) (Kept.refl _ _).drew (fun hH=>?_);refine ah [11] (i:=0) (v:=?tv0) rfl (by kernel_rfl) (by kernel_rfl) (by kernel_rfl) (by kernel_rfl) (fun _ _ _ h=>h) (Or.inl ⟨by rfl,?ty0⟩) hH ?tr0
      case ty0=>intro w' f;(try dsimp only at f);go_simp;first|done|with_reducible rfl
      (try simp only[Act.put,List.setIfInBounds_toArray,List.set_cons_zero,List.set_cons_succ])
      refine ah [11] (i:=1) (v:=?tv1) rfl (by kernel_rfl) (by kernel_rfl) (by kernel_rfl) (by kernel_rfl) (fun _ _ _ h=>h) (Or.inl ⟨by rfl,?ty1⟩) hH ?tr1
      case ty1=>intro w' f;(try dsimp only at f);go_simp;first|done|with_reducible rfl
      (try simp only[Act.put,List.setIfInBounds_toArray,List.set_cons_zero,List.set_cons_succ])
      refine ah [11] (i:=2) (v:=?tv2) rfl (by kernel_rfl) (by kernel_rfl) (by kernel_rfl) (by kernel_rfl) (fun _ _ _ h=>h) (Or.inl ⟨by rfl,?ty2⟩) hH ?tr2
      case ty2=>intro w' f;(try dsimp only at f);go_simp;first|done|with_reducible rfl
      (try simp only[Act.put,List.setIfInBounds_toArray,List.set_cons_zero,List.set_cons_succ])
      refine ah [11] (i:=3) (v:=?tv3) rfl (by kernel_rfl) (by kernel_rfl) (by kernel_rfl) (by kernel_rfl) (fun _ _ _ h=>h) (Or.inl ⟨by rfl,?ty3⟩) hH ?tr3
      case ty3=>intro w' f;(try dsimp only at f);go_simp;first|done|with_reducible rfl
      (try simp only[Act.put,List.setIfInBounds_toArray,List.set_cons_zero,List.set_cons_succ])
      refine ah [11] (i:=4) (v:=?tv4) rfl (by kernel_rfl) (by kernel_rfl) (by kernel_rfl) (by kernel_rfl) (fun _ _ _ h=>h) (Or.inl ⟨by rfl,?ty4⟩) hH ?tr4
      case ty4=>intro w' f;(try dsimp only at f);go_simp;first|done|with_reducible rfl
      (try simp only[Act.put,List.setIfInBounds_toArray,List.set_cons_zero,List.set_cons_succ])
      refine ah [11] (i:=5) (v:=?tv5) rfl (by kernel_rfl) (by kernel_rfl) (by kernel_rfl) (by kernel_rfl) (fun _ _ _ h=>h) (Or.inl ⟨by rfl,?ty5⟩) hH ?tr5
      case ty5=>intro w' f;(try dsimp only at f);go_simp;first|done|with_reducible rfl
      (try simp only[Act.put,List.setIfInBounds_toArray,List.set_cons_zero,List.set_cons_succ])
      refine ah [11] (i:=6) (v:=?tv6) rfl (by kernel_rfl) (by kernel_rfl) (by kernel_rfl) (by kernel_rfl) (fun _ _ _ h=>h) (Or.inl ⟨by rfl,?ty6⟩) hH ?tr6
      case ty6=>intro w' f;(try dsimp only at f);go_simp;first|done|with_reducible rfl
      (try simp only[Act.put,List.setIfInBounds_toArray,List.set_cons_zero,List.set_cons_succ])
      refine ah [11] (i:=7) (v:=?tv7) rfl (by kernel_rfl) (by kernel_rfl) (by kernel_rfl) (by kernel_rfl) (fun _ _ _ h=>h) (Or.inl ⟨by rfl,?ty7⟩) hH ?tr7
      case ty7=>intro w' f;(try dsimp only at f);go_simp;first|done|with_reducible rfl
      (try simp only[Act.put,List.setIfInBounds_toArray,List.set_cons_zero,List.set_cons_succ])
      refine ai (rs:=[8,10]) (by kernel_rfl) (by simp) ?_;refine ae.cons rfl (fun K hK=>?_) (ae.cons rfl (fun K hK=>?_) ae.nil)
      ·go_simp;refine(bx.out _ hH).mono ?_;rintro e w6 ⟨rfl,rfl⟩;refine hK.out _ _ hH (fun hH=>?_);clear hK K
       (try simp only[Act.put,List.setIfInBounds_toArray,List.set_cons_zero,List.set_cons_succ])
       refine ah [11] (i:=9) (v:=?tv9a) rfl (by kernel_rfl) (by kernel_rfl) (by kernel_rfl) (by kernel_rfl) (fun _ _ _ h=>h) (Or.inl ⟨by rfl,?ty9a⟩) hH ?tr9a
       case ty9a=>intro w' f;(try dsimp only at f);go_simp;first|done|with_reducible rfl
       (try simp only[Act.put,List.setIfInBounds_toArray,List.set_cons_zero,List.set_cons_succ])
       refine ai (rs:=[10]) (by kernel_rfl) (by simp) ?_;refine ae.cons rfl (fun K hK=>?_) ae.nil;go_simp;refine hK.out _ _ (hH.alloc _) (fun hH=>?_);clear hK K
       (try simp only[Act.put,List.setIfInBounds_toArray,List.set_cons_zero,List.set_cons_succ])
       refine ai (rs:=[11]) (by kernel_rfl) (by simp) ?_;refine ae.last rfl (by kernel_rfl) (fun K hK=>?_);go_simp;refine hK.out _ _ ?_;clear hK K
       (try simp only[Act.put,List.setIfInBounds_toArray,List.set_cons_zero,List.set_cons_succ])
       refine ak (by kernel_rfl) ?_ _;go_wp2_with fail
       go_meet
       exact⟨rfl,rfl⟩
      ·go_simp;refine hK.out _ _ (hH.alloc _) (fun hH=>?_);clear hK K
       (try simp only[Act.put,List.setIfInBounds_toArray,List.set_cons_zero,List.set_cons_succ])
       refine ai (rs:=[8]) (by kernel_rfl) (by simp) ?_;refine ae.cons rfl (fun K hK=>?_) ae.nil;go_simp;refine(bx.out _ hH).mono ?_;rintro e w6 ⟨rfl,rfl⟩;refine hK.out _ _ hH (fun hH=>?_);clear hK K
       (try simp only[Act.put,List.setIfInBounds_toArray,List.set_cons_zero,List.set_cons_succ])
       refine ah [11] (i:=9) (v:=?tv9b) rfl (by kernel_rfl) (by kernel_rfl) (by kernel_rfl) (by kernel_rfl) (fun _ _ _ h=>h) (Or.inl ⟨by rfl,?ty9b⟩) hH ?tr9b
       case ty9b=>intro w' f;(try dsimp only at f);go_simp;first|done|with_reducible rfl
       (try simp only[Act.put,List.setIfInBounds_toArray,List.set_cons_zero,List.set_cons_succ])
       refine ai (rs:=[11]) (by kernel_rfl) (by simp) ?_;refine ae.last rfl (by kernel_rfl) (fun K hK=>?_);go_simp;refine hK.out _ _ ?_;clear hK K
       (try simp only[Act.put,List.setIfInBounds_toArray,List.set_cons_zero,List.set_cons_succ])
       refine ak (by kernel_rfl) ?_ _;go_wp2_with fail
       go_meet
       exact⟨rfl,rfl⟩
     case rest =>
     obtain⟨hv,hw⟩:=hcut;subst hv;obtain⟨L,a5⟩:∃y,wr.heap.size=y:=⟨_,rfl⟩;have an:Kept [] wr wc:=hw▸((Kept.refl _ _).alloc _).drew
     have ab:Blk wc L 74 #[.slice none 0 0,.slice (some ⟨T num,0,none⟩) kn kn,.int .i64 ix]:=by rw[hw,<-a5];exact(Blk.new _ _ _).drew
     have cy:=fr.out.kept an;have cx:=c9.out.kept an (by simp);have g0:wc.cell? ⟨g,0,none⟩=some (.map (some bv)):=cy.blk.cell 0
     have eh:((findC P num).map fun _=>Value.map (some (V num))).getD (.map none)=.map (some (V num)):=by rw[d7.out];rfl
     obtain⟨r3,av⟩:∃y,wc.heap.size=y:=⟨_,rfl⟩
     have i2:L < r3:=by rw[<-av];exact ab.lt
     have hu:w5.heap.size<=L:=by rw[<-a5];exact be.out.size
     have f1:=hid (be.out.trans an);have fs:=hid ab;have hl:=hid cy;have hb:=hid cx;have ex:=hid av;have gt:Hid (V num < r3):=hid (by rw[<-av];exact cx.lt);have f5:Hid (∀z∈obl (.slice ma j mc),z < L):=hid (fun z hz=>by rw[<-a5];exact(ag.out.ge z hz).2);have h7:Hid (T num < L):=hid (by rw[<-a5];exact a0.out.1.lt);rw[a5];have f2:=hid an;have f7:=hid a5;clear hw an ab cy cx a5 cm s1 fr c9 bx
     go_wp2_with (first
      |(at_lookup;refine aX (E:=aM) hl.out.mv (x:=num) d9 rfl _ _ 94 142 rfl underlying94 (.map none) js rfl rfl ?_;rw[eh])
      |(at_range;refine gi (E:=aC) hb.out rfl _ 142 3 rfl underlying142 rfl ?_;intro w8 O eq g7;have ba:=hid O;have f8:=hid eq;clear O eq g7)
      |go_in)
     have O:=ba.out;rw[av]at O ⊢;have ba:=hid O;have f3:=hid (Kept.of_grown (S:=[]) f8.out (fun k e=>by cases e));clear O f8 av g0 eh
     go_frame
     go_loopw [12] (fun _ wi=>∃(d:List Bs) (vb:Value),aK aC wi (V num) r3 N (valV c.vals) d/\Blk wi L 74 #[vb,.slice (some ⟨T num,0,none⟩) kn kn,.int .i64 ix]/\wi.ownsRow (r3+1) 82 2 vb d.length (cZ (bR c.vals d))/\Kept [L] wc wi) (fun _ wi=>wi.rangeLeft (V num) r3)
     case atStart=>exact⟨[],_,ba.out,fs.out.kept f3.out (by simp),World.ownsRow_nil _ _ _ _,f3.out.mono (fun _ _ h=>by simp at h)⟩
     case round =>
      obtain⟨d,vb,q,ab,o,ek⟩:=hrel;obtain⟨C,A,rfl⟩:=dp o (by decide);have e0:d.length<=N:=q.length_le;have HO:=hid o;have ad:=hid ek;have c0:=hid ab;have bc:=hid q;clear o ek ab
      go_wp2_with (first
       |(at_next;refine gR q rfl _ rfl rfl ?_ ?_)
       |go_in)
      ·intro u
       obtain⟨e9,b6⟩:(∀s,s∈d↔(valOf c.vals s).isSome=true)/\d.Nodup:=by
        obtain⟨D,dq,gs,h1,h2,h3,h4,h5,h6⟩:=q;refine⟨fun s=>⟨fun hs=>?_,fun hs=>?_⟩,h4⟩
        ·have:=(h5 s hs).2
         unfold valV at this
         rwa [Option.isSome_map]at this
        ·refine u s ?_ (by unfold valV;rwa [Option.isSome_map]);obtain⟨v,hv⟩:=Option.isSome_iff_exists.1 hs;have gl:=a6.out.2 _ (nD hv);have:=mQ (s:=s) (by unfold aR;rw[gl.1];simp)
         show s.length<=maxLen
         unfold maxLen
         omega
       have e3:=pZ a6.out.1 b6 e9;have cv:aS (bR c.vals d)=aS c.vals:=kT e3 a6.out.1
       have b0:(bR c.vals d).length=d.length:=by unfold bR;rw[List.length_map]
       have e4:((bR c.vals d).map Prod.fst).Nodup:=by
        unfold bR
        rw[List.map_map];have:(Prod.fst ∘ fun s=>(s,(valOf c.vals s).getD 0))=(id:Bs->Bs):=rfl;rw[this,List.map_id];exact b6
       have p:=aA HO.out;have F:=rR (l:=bR c.vals d) (by rw[b0];exact HO.out) (by rw[b0];omega) e4;rw[cv,b0]at F
       have cu:(aS c.vals).length=d.length:=by rw[<-cv,(aZ _).length_eq,b0]
       have ha:=hid F;have i8:=hid cu;have t:=hid p;have m0:wr.cell? ⟨L,0,none⟩=some (.slice C d.length A):=c0.out.cell 0
       have dn:L∉obl (.slice C d.length A):=fun hm=>by have:=(p _ hm).1;omega
       have nX:∀z∈obl (.slice C d.length A),z∉X++obl (.slice ma j mc):=fun z hz hm=>by
        have h1:=(p z hz).1
        rcases List.mem_append.1 hm with h2|h2
        ·have:=(HX.out z h2).1;have:=af.out.size;omega
        ·have:=f5.out z h2;omega
       have ds:T num∉X:=fun hm=>(HX.out _ hm).2 num c d7.out rfl
       have du:T num∉obl (.slice ma j mc):=fun hm=>by
        have h1:=(ag.out.ge _ hm).1;have h2:=(HC.out.tick num c d7.out).1.lt;have:=af.out.size;omega
       have a2:=a0.out.1.kept f2.out (by simp);have c1:=a2.kept ad.out (by simpa using a2.ne fs.out (by decide));have h9:=hid c1;have h0:Hid (T num∉X++obl (.slice ma j mc)):=hid (by rw[List.mem_append,not_or];exact⟨ds,du⟩);have hd:=hid nX;have ho:=hid (fun(M:World) (k:Kept (obl (.slice C d.length A)) wr M)=>c0.out.kept k dn)
       have c6:∀M:World,M.ownsRow (r3+1) 82 2 (.slice C d.length A) d.length (cZ (aS c.vals))->Kept (obl (.slice C d.length A)) wr M ->
         Grow MbR 3 74 w5.heap.size (X++obl (.slice ma j mc)) (M.alloc (.cells #[.slice C d.length A,.slice (some ⟨T num,0,none⟩) kn kn,.int .i64 ix] 74)) (.slice ma j mc) ((membersB log P).take j) /\
         aw (X++obl (.slice ma j mc)) (fun w=>MbR w [.slice C d.length A,.slice (some ⟨T num,0,none⟩) kn kn,.int .i64 ix] ⟨aS c.vals,c.tick,ix⟩) (M.alloc (.cells #[.slice C d.length A,.slice (some ⟨T num,0,none⟩) kn kn,.int .i64 ix] 74)):=fun M Y k9=>by
        have ka:Kept (obl (.slice C d.length A)) wr (M.alloc (.cells #[.slice C d.length A,.slice (some ⟨T num,0,none⟩) kn kn,.int .i64 ix] 74)):=k9.alloc _;have kb:=((f2.out.mono (S':=[L]) (fun _ _ h=>by simp at h)).trans ad.out).then_ ka (fun z hz hm=>by have:=(p z hm).1;have:=f7.out;omega)
        refine⟨ag.out.step kb (fun z hz hm=>by
         rw[List.mem_singleton]at hm;have h2:=f5.out z hz
         omega) (fun z hz a4=>by
         rw[List.mem_singleton]at hz;have:=f7.out
         omega) (fun z hz=>Or.inl hz),?_⟩
        ·have h1:=aw.own (ax Y (S:=[]) ((Kept.refl [] M).alloc (.cells #[.slice C d.length A,.slice (some ⟨T num,0,none⟩) kn kn,.int .i64 ix] 74)) (by simp)) hd.out;have h2:=aw.blk ((h9.out.kept ka (fun hm=>by have:=(p _ hm).1;have:=h7.out;omega))) h0.out
         refine(h1.and h2).imp fun w ⟨k1,k2⟩=>⟨_,_,rfl,?_,?_⟩
         ·have hq:=mu (l:=aS c.vals) (by rw[cu];exact k1) (by omega);exact hq
         ·have hq:=al (size:=1) (n:=c.tick.length) k2 (by simp[ints]) (by have:=a0.out.2;omega);rw[a0.out.2]at hq ⊢;exact hq
       have fv:=hid c6
       have gc:j<=1000000000:=by omega
       have el:((membersB log P).take j).length<=1000000000:=by rw[d2.out];exact gc
       have hk:=hid el
       have es:∀M:World,Kept (obl (.slice C d.length A)) wr M->w5.heap.size<=(M.alloc (.cells #[.slice C d.length A,.slice (some ⟨T num,0,none⟩) kn kn,.int .i64 ix] 74)).heap.size:=fun M k=>by
        have h1:=k.size;have h2:=f1.out.size;have h3:=ad.out.size;rw[World.size_alloc];omega
       have hp:=hid es;clear e9 b6 e3 cv b0 e4 F cu p dn nX ds du a2 c1 q bc u c6 el es
       go_wp2_with (first
        |(go_at_call 87;refine ha.out.mono ?_;rintro e M ⟨rfl,Y,k9⟩;have bp:=ho.out M k9;have n0:M.cell? ⟨L,0,none⟩=some (.slice C d.length A):=bp.cell 0;have n1:M.cell? ⟨L,1,none⟩=some (.slice (some ⟨T num,0,none⟩) kn kn):=bp.cell 1;have n2:M.cell? ⟨L,2,none⟩=some (.int .i64 ix):=bp.cell 2;have fz:=hid (fv.out M Y k9);have hg:=hid k9;have hn:=hid (hp.out M k9);clear Y k9 bp)
        |(at_builtin;refine cJ (R:=MbR) (m:=3) (e:=74) (B:=w5.heap.size) (X:=X++obl (.slice ma j mc)) (l:=(membersB log P).take j) rfl _ _ 64 rfl i0 _ 56 underlying64 hi g3 g2 g1 rfl (by decide) (by decide) rfl fz.out.1 _ [.slice C d.length A,.slice (some ⟨T num,0,none⟩) kn kn,.int .i64 ix] ⟨aS c.vals,c.tick,ix⟩ rfl (al (cs:=[.slice C d.length A,.slice (some ⟨T num,0,none⟩) kn kn,.int .i64 ix]) (Blk.new _ _ _) rfl (by decide)) fz.out.2 (by simp[Value.oneCell']) hk.out hn.out (fun z hz=>List.mem_append_right _ hz) ?_;intro a' c' da c8 c3 c2;have f9:=hid c8;have f4:=hid c3;have i3:=hid c2;clear c8 c3 c2)
        |go_in)
       have co:Kept [] w5 da:=by
        have h1:=f1.out.fresh ad.out (fun z hz=>by rw[List.mem_singleton]at hz;omega);have h2:=h1.fresh hg.out (fun z hz=>by have:=(t.out z hz).1;omega);exact(h2.alloc _).fresh f4.out (fun z hz=>(ag.out.ge z hz).1)
       have c5:=f9.out;rw[<-h8.out]at c5
       have c4:=c5.step (X':=X++obl (.slice a' (((membersB log P).take j).length+1) c')) (Kept.refl [] da) (by simp) (by simp) (fun z hz=>Or.inl (by
        rcases List.mem_append.1 hz with h|h
        ·exact List.mem_append_left _ (List.mem_append_left _ h)
        ·exact List.mem_append_right _ h))
       rw[d2.out]at c4
       have eg:min j (membersB log P).length=j:=by have:=d2.out;rwa [List.length_take]at this
       rw[eg]
       go_roundw
       case rel=>exact⟨j+1,by omega,by go_num,co,c4⟩
       case measure=>simp[intOf];omega
      ·intro x v w2 hx bn ci G a4 b8 cc cq;have ap:aC.val x=.string ⟨x.toArray⟩:=rfl;rw[ap]at cq ⊢
       obtain⟨y,hy,rfl⟩:∃y,valOf c.vals x=some y/\v=.int .i64 y:=by
        unfold valV at bn
        rw[Option.map_eq_some_iff]at bn;obtain⟨y,h1,h2⟩:=bn;exact⟨y,h1,h2.symm⟩
       have k2:Kept [r3] wr w2:=Kept.of_turned b8 (by simp);have p:=aA HO.out;have d1:=hid (ax HO.out k2 (fun z hz hm=>by rw[List.mem_singleton]at hm;have:=(p z hz).1;omega));have d8:=hid (c0.out.kept k2 (by simp;omega));have U:=hid G;have d3:=hid a4;have t:=hid p;have d6:Hid (Kept [L] wc w2):=hid (ad.out.then_ k2 (fun z hz hm=>by rw[List.mem_singleton]at hm;have:=ex.out;omega));have cz:Hid (r3+1<=w2.heap.size):=hid G.lt;have HY:=hid hy;have m0:w2.cell? ⟨L,0,none⟩=some (.slice C d.length A):=d8.out.cell 0;clear cc G a4 b8 p k2 q bc HO ad c0 ci bn hx hy
       go_wp2_with (first
        |(at_builtin;refine aH rfl _ _ _ rfl (r3+1) 82 i1 _ 2 24 underlying30 gn g6 g5 g4 rfl (by decide) (.slice C d.length A) d.length (cZ (bR c.vals d)) rfl (ax d1.out (S:=[]) ((Kept.refl [] w2).alloc _) (by simp)) _ 1 [.string ⟨x.toArray⟩,.int .i64 y] rfl (al (cs:=[.string ⟨x.toArray⟩,.int .i64 y]) (Blk.new _ _ _) rfl (by decide)) (by simp[Value.oneCell']) (by unfold maxLen;omega) (by omega) (by have:=cz.out;rw[World.size_alloc];omega) ?_;intro a' c' w6 I aa a9;have bq:=(d8.out.alloc (.cells #[.string ⟨x.toArray⟩,.int .i64 y] 82)).kept aa (fun hm=>by have:=(t.out _ hm).1;omega);have m6:w6.cell? ⟨L,0,none⟩=some (.slice C d.length A):=bq.cell 0;have f6:=bq.frozen 0;have ht:=hid bq;have br:=hid I;have d5:=hid aa;have i7:=hid a9;clear I aa a9 bq)
        |go_in)
       obtain⟨w7,cb⟩:∃z,w6.setCell ⟨L,0,none⟩ (.slice a' (d.length+1) c')=z:=⟨_,rfl⟩;have bk:Kept [L] w6 w7:=cb▸(Kept.refl _ _).setCell (Or.inl (by simp)) _;have ca:Kept (obl (.slice C d.length A)) w2 w6:=((Kept.refl [] w2).alloc (.cells #[.string ⟨x.toArray⟩,.int .i64 y] 82) |>.mono (fun _ _ h=>by simp at h)).trans d5.out
       have nv:V num∉obl (.slice C d.length A):=fun hm=>by have:=(t.out _ hm).1;have:=gt.out;omega
       have nr:r3∉obl (.slice C d.length A):=fun hm=>by have:=(t.out _ hm).1;omega
       have dc:V num∉[L]:=by simpa using U.out.at_.ne_blk d8.out
       have dm:r3∉[L]:=by simp;omega
       have a7:=U.out.kept ca nv nr;have e1:=a7.kept bk dc dm;have a9:=U.out.left_kept ca nv nr;have gb:=a7.left_kept bk dc dm;have gr:Blk w7 L 74 #[.slice a' (d.length+1) c',.slice (some ⟨T num,0,none⟩) kn kn,.int .i64 ix]:=cb▸ht.out.set_ 0 _;have g9:=ax br.out bk (fun z hz hm=>by rw[List.mem_singleton]at hm;have:=(aA br.out z hz).1;omega);rw[cb]
       go_roundw
       case rel =>
        refine⟨d++[x],.slice a' (d.length+1) c',e1,gr,?_,(d6.out.fresh ca (fun z hz=>by have:=(t.out z hz).1;have:=ex.out;omega)).trans bk⟩;rw[List.length_append,List.length_singleton]
        have:cZ (bR c.vals (d++[x]))=cZ (bR c.vals d)++[.string ⟨x.toArray⟩,.int .i64 y]:=by
         unfold bR
         rw[List.map_append,List.map_singleton,HY.out,kR]
         rfl
        rw[this];exact g9
       case measure =>
        rw[gb,a9];exact d3.out
    ·obtain rfl:j=nn:=by omega
     have u:(membersB log P).take j=membersB log P:=List.take_of_length_le (by unfold membersB;rw[List.length_map,bd.out];omega);have a1:=ag.out;rw[u]at a1;have b9:=a1.done (X':=X) (fun z hz=>Or.inl (List.mem_append_left _ hz)) (fun z hz hm=>by have:=(a1.ge z hz).1;have:=(HX.out z hm).1;have:=af.out.size;omega) (by unfold membersB;rw[List.length_map,bd.out];omega);have b4:=aw.row (X:=X) (ax d0.out J (by simp)) (fun z hz hm=>by have:=(aA d0.out z hz).1;have:=(HX.out z hm).1;have:=HR.out;omega) (by omega);have HD:=hid b9;have he:=hid b4;clear u a1 b9 b4 J;go_wp2_with fail
     go_ret2
     refine⟨af.out.trans be.out,_,_,rfl,HD.out,?_⟩;rw[bd.out];exact he.out
  ·intro x v w2 hx c Z gp ci G a4 b8 cc cq;subst gp;have ap:aM.val x=.int .i64 x:=rfl;rw[ap]at cq ⊢;have k2:Kept [r] wr w2:=Kept.of_turned b8 (by simp);have p:=aA HO.out;have b3:w2.ownsRow (r+1) 3 1 (.slice oa d.length oc) d.length (ints d):=ax HO.out k2 (fun z hz hm=>by rw[List.mem_singleton]at hm;have:=(p z hz).1;omega);have d1:=hid b3;have U:=hid G;have d3:=hid a4;have t:=hid p;have d6:=hid (d4.out.fresh k2 (fun z hz=>by rw[List.mem_singleton]at hz;have:=HR.out;omega));have e2:r+1<=w2.heap.size:=G.lt;have cz:=hid e2;clear cc b3 G a4 b8 p k2 e2 q bc HO d4 ci Z c hx
   go_wp2_with (first
    |(at_builtin;refine bE rfl _ _ rfl (r+1) (.slice oa d.length oc) d.length d rfl (ax d1.out (S:=[]) ((Kept.refl [] w2).alloc _) (by simp)) _ 1 [x] rfl (Row.lit w2 [x] (by simp)) (by omega) (by have:=cz.out;rw[World.size_alloc];omega) ?_;intro a' c' w6 I aa a9;have br:=hid I;have d5:=hid aa;clear I aa a9)
    |go_in)
   have b7:Kept (obl (.slice oa d.length oc)) w2 w6:=((Kept.refl [] w2).alloc (.cells (ints [x]).toArray 3) |>.mono (fun _ _ h=>by simp at h)).trans d5.out
   have nb:bv∉obl (.slice oa d.length oc):=fun hm=>by have:=(t.out _ hm).1;omega
   have nr:r∉obl (.slice oa d.length oc):=fun hm=>by have:=(t.out _ hm).1;omega
   have a7:=U.out.kept b7 nb nr;have ga:=U.out.left_kept b7 nb nr
   go_roundw
   case rel =>
    refine⟨d++[x],a7,?_,d6.out.fresh b7 (fun z hz=>by have:=(t.out z hz).1;have:=HR.out;omega)⟩;rw[List.length_append,List.length_singleton];exact br.out
   case measure =>
    rw[ga];exact d3.out
end Go.Proofs.YtpcmamoomaddoaaGreatDoor
