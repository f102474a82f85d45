/- inquiry's (*citizens).members. -/
import Derived.Test.YtpcmamoomaddoaaGreatDoorAdd
import Derived.Test.YtpcmamoomaddoaaGreatDoorSbi
import Derived.Test.YtpcmamoomaddoaaGreatDoorIdq
import Derived.Test.YtpcmamoomaddoaaGreatDoorEql
namespace Go.Proofs.YtpcmamoomaddoaaGreatDoor
open Go.RowKit Go.Maps
theorem infoMb:(Tryz.prog.info? 74).map (fun i=>(i.zero,i.size,i.bytes))=some (some (.agg #[.slice none 0 0,.slice none 0 0,.int .i64 0]),3,56):=by kernel_rfl
theorem bindsS_perm_eq {l m:List Bnd} (h:l.Perm m) (hn:(m.map Prod.fst).Nodup):bindsS l=bindsS m:=binds_uniq hn ((bindsS_perm l).trans h) (bindsS_le l)
theorem nums_mem {P:List Cz} (hn:(P.map Cz.num).Nodup) (x:Int):(findC P x).isSome=true↔x∈P.map Cz.num:=by
 constructor
 ·intro h
  cases hf:findC P x with
  | none=>rw [hf] at h;cases h
  | some c=>obtain ⟨h1,h2⟩:=findC_some hf;exact List.mem_map.2 ⟨c,h1,h2⟩
 ·intro h;obtain ⟨c,hc,rfl⟩:=List.mem_map.1 h;rw [findC_mem hn hc]
  rfl
theorem valOf_mem {l:List Bnd} (hn:(l.map Prod.fst).Nodup) {b:Bnd} (hb:b∈l):valOf l b.1=some b.2:=by
 induction l with
 | nil=>cases hb
 | cons c l ih =>
  rw [List.map_cons,List.nodup_cons] at hn
  unfold valOf
  rw [List.find?_cons]
  rcases List.mem_cons.1 hb with rfl|h
  ·simp
  ·have:c.1≠b.1:=fun e=>hn.1 (List.mem_map.2 ⟨b,h,e.symm⟩);rw [decide_eq_false this];exact ih hn.2 h
theorem valOf_in {l:List Bnd} {s:Bs} {v:Int} (h:valOf l s=some v):(s,v)∈l:=by
 unfold valOf at h
 rw [Option.map_eq_some_iff] at h;obtain ⟨b,hb,rfl⟩:=h;have h1:=List.find?_some hb;simp at h1;subst h1;exact List.mem_of_find?_eq_some hb
/-- the pairs of names -/
def pairsOf (l:List Bnd) (ss:List Bs):List Bnd:=ss.map fun s=>(s,(valOf l s).getD 0)
theorem pairs_perm {l:List Bnd} (hn:(l.map Prod.fst).Nodup) {ss:List Bs} (hs:ss.Nodup) (hm:∀ s,s∈ss↔(valOf l s).isSome=true):(pairsOf l ss).Perm l:=by
 have hl:l.Nodup:=(List.pairwise_map.1 hn).imp fun h e=>h (by rw [e]);refine (List.perm_ext_iff_of_nodup ?_ hl).2 fun b=>?_
 ·unfold pairsOf
  exact List.pairwise_map.2 (hs.imp fun h e=>h (congrArg Prod.fst e))
 ·unfold pairsOf
  rw [List.mem_map]
  constructor
  ·rintro ⟨s,h1,rfl⟩
   cases hv:valOf l s with
   | none=>rw [(hm s)] at h1;rw [hv] at h1;cases h1
   | some v=>exact valOf_in hv
  ·intro hb;have h1:=valOf_mem hn hb;exact ⟨b.1,(hm _).2 (by rw [h1];rfl),by rw [h1];rfl⟩
set_option maxRecDepth 100000 in
set_option maxHeartbeats 16000000 in
theorem members_any {B0:Nat} {w:World} {g bv bt N kn:Nat} {V T:Int→Nat} {P:List Cz} {vl:Value} {log:List Int} {X:List Nat}
  (hC:Cit B0 w g bv bt N kn V T (findC P)) (hnd:(P.map Cz.num).Nodup) (hnw:∀ c∈P,(Lit.int .i64 c.num).wf=true) (hvl:∀ c∈P,valsOk c.vals) (hlog:Row w 1 vl log.length (ints log)) (hN:N≤1000000) (hkn:kn≤1000)
  (hX:∀ z∈X,z < w.heap.size∧∀ x c,findC P x=some c→T x≠z) :
  Calls Tryz.prog 41 #[.pointer (some ⟨g,0,none⟩),vl] w fun e w'=>Kept [] w w'∧∃ vm vn,e=.returned (.tuple #[vm,vn])∧Stable X (fun w=>RowOf MbR 3 w vm (membersB log P)) w'∧Stable X (fun w=>Row w 1 vn (numsB P).length (ints (numsB P))) w':=by
 obtain ⟨i0,hi,hz0,hz1,hz2⟩:=info_parts infoMb;obtain ⟨i1,hi1,hy0,hy1,hy2⟩:=info_parts infoBind;obtain ⟨r,hr⟩:∃ r,w.heap.size=r:=⟨_,rfl⟩;have g0:w.cell? ⟨g,0,none⟩=some (.map (some bv)):=hC.blk.cell 0;have HC:=Lib.hid hC;have HND:=Lib.hid hnd;have HNW:=Lib.hid hnw;have HVL:=Lib.hid hvl;have HLOG:=Lib.hid hlog;have HX:=Lib.hid hX;have HR:=Lib.hid hr
 have hgr:g < r:=by rw [←hr];exact hC.blk.lt
 have hbr:bv < r:=by rw [←hr];exact hC.mv.lt
 have hN63:∀ (ss:List Int) (w':World),MapRun intEnc w' bv r N (fun x=>(findC P x).map fun _=>Value.map (some (V x))) ss→ss.length≤N:=fun _ _ h=>h.length_le;have HN:=Lib.hid hN63;clear hC hnd hnw hvl hlog hX hN63
 go_enter Tryz.func41,Tryz.ntmps41
 go_wp2_with (first
  | (at_range;refine wpList_rangeM (E:=intEnc) HC.out.mv rfl _ 94 142 rfl Tryz.underlying94 rfl ?_;intro w1 hrg1 hg1 hs1;have HRG1:=Lib.hid hrg1;have HG1:=Lib.hid hg1;clear hrg1 hg1 hs1)
  | go_in)
 have hrg1:=HRG1.out;rw [hr] at hrg1 ⊢;have HRG1:=Lib.hid hrg1;have HK1:=Lib.hid (Kept.of_grown (S:=[]) HG1.out (fun k e=>by cases e));clear hrg1 HG1 hr g0
 go_frame
 go_loopw [6] (fun v6 wr=>∃ ss:List Int,MapRun intEnc wr bv r N (fun x=>(findC P x).map fun _=>Value.map (some (V x))) ss∧wr.ownsRow (r+1) 3 1 v6 ss.length (ints ss)∧Kept [] w wr) (fun _ wr=>wr.rangeLeft bv r)
 case atStart=>exact ⟨[],HRG1.out,World.ownsRow_nil _ _ _ _,HK1.out⟩
 case round =>
  obtain ⟨ss,hrg,hown,hkr⟩:=hrel;obtain ⟨oa,oc,rfl⟩:=own_len hown (by decide);have hsl:=HN.out _ _ hrg;have HO:=Lib.hid hown;have HKR:=Lib.hid hkr;have HRG:=Lib.hid hrg;clear hown hkr
  go_wp2_with (first
   | (at_next;refine wpList_nextM hrg rfl _ rfl rfl ?_ ?_)
   | go_in)
  ·intro hall
   have hperm:ss.Perm (P.map Cz.num):=by
    obtain ⟨D,left,cnt,h1,h2,h3,h4,h5,h6⟩:=hrg
    refine (List.perm_ext_iff_of_nodup h4 HND.out).2 fun x=>⟨fun hx=>?_,fun hx=>?_⟩
    ·refine (nums_mem HND.out x).1 ?_;have:=(h5 x hx).2
     dsimp only at this
     cases hf:findC P x with
     | none=>rw [hf] at this;cases this
     | some c=>rfl
    ·refine hall x ?_ ((nums_mem HND.out x).2 hx);obtain ⟨c,hc,rfl⟩:=List.mem_map.1 hx;exact HNW.out c hc
   obtain ⟨nn,hnn⟩:∃ n,ss.length=n:=⟨_,rfl⟩
   have hsort:(ss.mergeSort fun x y=>decide (x≤y))=numsB P:=by
    refine nums_uniq ((List.mergeSort_perm _ _).trans hperm) ?_;have:=List.pairwise_mergeSort (le:=fun a b:Int=>decide (a≤b)) (fun a b c h1 h2=>by simp only [decide_eq_true_eq] at *;omega) (fun a b=>by simp only [Bool.or_eq_true,decide_eq_true_eq];omega) ss
    exact this.imp fun h=>by simpa using h
   have hsrt:=sortInts HO.out (by omega);rw [hsort,hnn] at hsrt;rw [hnn] at hsl ⊢
   have hnl:(numsB P).length=nn:=by rw [←hnn,←hsort,List.length_mergeSort]
   have HOB:=Lib.hid (own_ge HO.out);have HSRT:=Lib.hid hsrt;have HNL:=Lib.hid hnl;rw [hnn] at HOB;clear hperm hsort hsrt hnl hnn hrg HO HRG hall HN
   go_wp2_with (first
    | (go_at_call 85;refine HSRT.out.mono ?_;rintro e w5 ⟨rfl,hown5,k5⟩;have HO5:=Lib.hid hown5;have HK5:=Lib.hid (HKR.out.fresh k5 (fun z hz=>by have:=(HOB.out z hz).1;have:=HR.out;omega));have HK55:=Lib.hid k5;clear hown5 k5)
    | go_in)
   go_loopw [8,31] (fun v8 v31 wr=>∃ j:Nat,j≤nn∧v31=.int .i64 j∧Kept [] w5 wr∧Grow MbR 3 74 w5.heap.size (X++obl v8) wr v8 ((membersB log P).take j)) (fun _ v31 _=>nn - (intOf v31).toNat)
   case atStart=>exact ⟨0,Nat.zero_le _,rfl,Kept.refl _ _,by rw [List.take_zero];exact Grow.nil_ _ _ _ _ _ _⟩
   case round =>
    obtain ⟨j,hj,rfl,hkr,hgw⟩:=hrel;have HKR5:=Lib.hid hkr;have HGW:=Lib.hid hgw
    have hml:((membersB log P).take j).length=j:=by rw [List.length_take];unfold membersB;rw [List.length_map,HNL.out];omega
    obtain ⟨ma,mc,rfl⟩:=hgw.form (by decide);rw [hml] at HGW ⊢;have HML:=Lib.hid hml;clear hgw hml
    by_cases hlt:j < nn
    ·have hlt':(j:Int) < (nn:Int):=by omega
     have hil:j < (numsB P).length:=by have:=HNL.out;omega
     obtain ⟨num,hnum⟩:∃ x,(numsB P)[j]=x:=⟨_,rfl⟩;have hnm:num∈P.map Cz.num:=(numsB_perm P).mem_iff.1 (hnum▸List.getElem_mem hil)
     obtain ⟨c,hfc⟩:∃ c,findC P num=some c:=by
      have:=(nums_mem HND.out num).2 hnm
      cases h:findC P num with
      | none=>rw [h] at this;cases this
      | some c=>exact ⟨c,rfl⟩
     have hcm:=findC_some hfc
     have wfn:(Lit.int .i64 num).wf=true:=by rw [←hcm.2];exact HNW.out c hcm.1
     have hvals:=HVL.out c hcm.1
     have hmo:memOf log P num=⟨bindsS c.vals,c.tick,Lib.idxOf log num⟩:=by unfold memOf czOf;rw [hfc];rfl
     have htk:(membersB log P).take (j+1)=(membersB log P).take j++[⟨bindsS c.vals,c.tick,Lib.idxOf log num⟩]:=by
      have hje:(membersB log P)[j]?=some (memOf log P num):=by unfold membersB;rw [List.getElem?_map,List.getElem?_eq_getElem hil,hnum];rfl
      obtain ⟨hjm,hje⟩:=List.getElem?_eq_some_iff.1 hje;rw [List.take_succ_eq_append_getElem hjm,hje,hmo]
     have hrown:=(Row.of_own HO5.out (by omega)).kept hkr;obtain ⟨ob,oo,rfl,hoc⟩:=hrown.at_ (by omega)
     have y0:wr.cell? ⟨ob,oo+j,none⟩=some (.int .i64 num):=by rw [hoc j _ (ints_get hil),hnum]
     have hCr:=HC.out.kept (HK5.out.trans hkr);have htick:=hCr.tick num c hfc;have hown:=hCr.own num c hfc
     have hlook:∀ w',Kept [] wr w'→(Instr.lookup 95 (.map (some bt)) (.int .i64 num) false).run Tryz.prog w'=.ok (.slice (some ⟨T num,0,none⟩) kn kn) w':=fun w' k=>by
      have:=(hCr.mt.kept k (by simp)).run_look (x:=num) wfn Tryz.underlying95 (.slice none 0 0) zeroInts;rw [hfc] at this;exact this
     have s1:∀ w',Kept [] wr w'→w'.cell? ⟨g,1,none⟩=some (.map (some bt)):=Kept.cellOf (hCr.blk.cell 1);have HIX:=Lib.hid (fun (w':World) (k:Kept [] wr w')=>index_ints ((HLOG.out.kept (HK5.out.trans hkr)).kept k) num);obtain ⟨ix,hix⟩:∃ x,Lib.idxOf log num=x:=⟨_,rfl⟩;rw [hix] at HIX htk;have HTK:=Lib.hid htk;have HCR:=Lib.hid hCr;have HTICK:=Lib.hid htick;have HOWN:=Lib.hid hown;have HVALS:=Lib.hid hvals;have HFC:=Lib.hid hfc;clear hil hnum hnm hcm hvals hmo htk hrown hoc hCr htick hown hix hkr hfc;go_upto_region 11 with (fail);clear y0
     go_cut [11] (fun v11 wx=>v11=.pointer (some ⟨wr.heap.size,0,none⟩)∧wx=(wr.alloc (.cells #[.slice none 0 0,.slice (some ⟨T num,0,none⟩) kn kn,.int .i64 ix] 74)).drew)
     case first =>
      refine wp_region_T [11] (fun w'=>Kept [] wr w') (by kernel_rfl) (Kept.refl _ _).drew (fun hH=>?_);refine takeT [11] (i:=0) (v:=?tv0) rfl (by kernel_rfl) (by kernel_rfl) (by kernel_rfl) (by kernel_rfl) (fun _ _ _ h=>h) (Or.inl ⟨by rfl,?ty0⟩) hH ?tr0
      case ty0=>intro w' hSw;(try dsimp only at hSw);go_simp;first|done|with_reducible rfl
      (try simp only [Act.put,List.setIfInBounds_toArray,List.set_cons_zero,List.set_cons_succ])
      refine takeT [11] (i:=1) (v:=?tv1) rfl (by kernel_rfl) (by kernel_rfl) (by kernel_rfl) (by kernel_rfl) (fun _ _ _ h=>h) (Or.inl ⟨by rfl,?ty1⟩) hH ?tr1
      case ty1=>intro w' hSw;(try dsimp only at hSw);go_simp;first|done|with_reducible rfl
      (try simp only [Act.put,List.setIfInBounds_toArray,List.set_cons_zero,List.set_cons_succ])
      refine takeT [11] (i:=2) (v:=?tv2) rfl (by kernel_rfl) (by kernel_rfl) (by kernel_rfl) (by kernel_rfl) (fun _ _ _ h=>h) (Or.inl ⟨by rfl,?ty2⟩) hH ?tr2
      case ty2=>intro w' hSw;(try dsimp only at hSw);go_simp;first|done|with_reducible rfl
      (try simp only [Act.put,List.setIfInBounds_toArray,List.set_cons_zero,List.set_cons_succ])
      refine takeT [11] (i:=3) (v:=?tv3) rfl (by kernel_rfl) (by kernel_rfl) (by kernel_rfl) (by kernel_rfl) (fun _ _ _ h=>h) (Or.inl ⟨by rfl,?ty3⟩) hH ?tr3
      case ty3=>intro w' hSw;(try dsimp only at hSw);go_simp;first|done|with_reducible rfl
      (try simp only [Act.put,List.setIfInBounds_toArray,List.set_cons_zero,List.set_cons_succ])
      refine takeT [11] (i:=4) (v:=?tv4) rfl (by kernel_rfl) (by kernel_rfl) (by kernel_rfl) (by kernel_rfl) (fun _ _ _ h=>h) (Or.inl ⟨by rfl,?ty4⟩) hH ?tr4
      case ty4=>intro w' hSw;(try dsimp only at hSw);go_simp;first|done|with_reducible rfl
      (try simp only [Act.put,List.setIfInBounds_toArray,List.set_cons_zero,List.set_cons_succ])
      refine takeT [11] (i:=5) (v:=?tv5) rfl (by kernel_rfl) (by kernel_rfl) (by kernel_rfl) (by kernel_rfl) (fun _ _ _ h=>h) (Or.inl ⟨by rfl,?ty5⟩) hH ?tr5
      case ty5=>intro w' hSw;(try dsimp only at hSw);go_simp;first|done|with_reducible rfl
      (try simp only [Act.put,List.setIfInBounds_toArray,List.set_cons_zero,List.set_cons_succ])
      refine takeT [11] (i:=6) (v:=?tv6) rfl (by kernel_rfl) (by kernel_rfl) (by kernel_rfl) (by kernel_rfl) (fun _ _ _ h=>h) (Or.inl ⟨by rfl,?ty6⟩) hH ?tr6
      case ty6=>intro w' hSw;(try dsimp only at hSw);go_simp;first|done|with_reducible rfl
      (try simp only [Act.put,List.setIfInBounds_toArray,List.set_cons_zero,List.set_cons_succ])
      refine takeT [11] (i:=7) (v:=?tv7) rfl (by kernel_rfl) (by kernel_rfl) (by kernel_rfl) (by kernel_rfl) (fun _ _ _ h=>h) (Or.inl ⟨by rfl,?ty7⟩) hH ?tr7
      case ty7=>intro w' hSw;(try dsimp only at hSw);go_simp;first|done|with_reducible rfl
      (try simp only [Act.put,List.setIfInBounds_toArray,List.set_cons_zero,List.set_cons_succ])
      refine wpAnyT_ready (rs:=[8,10]) (by kernel_rfl) (by simp) ?_;refine AllReadyT.cons rfl (fun K hK=>?_) (AllReadyT.cons rfl (fun K hK=>?_) AllReadyT.nil)
      ·go_simp;refine (HIX.out _ hH).mono ?_;rintro e w6 ⟨rfl,rfl⟩;refine hK.out _ _ hH (fun hH=>?_);clear hK K
       (try simp only [Act.put,List.setIfInBounds_toArray,List.set_cons_zero,List.set_cons_succ])
       refine takeT [11] (i:=9) (v:=?tv9a) rfl (by kernel_rfl) (by kernel_rfl) (by kernel_rfl) (by kernel_rfl) (fun _ _ _ h=>h) (Or.inl ⟨by rfl,?ty9a⟩) hH ?tr9a
       case ty9a=>intro w' hSw;(try dsimp only at hSw);go_simp;first|done|with_reducible rfl
       (try simp only [Act.put,List.setIfInBounds_toArray,List.set_cons_zero,List.set_cons_succ])
       refine wpAnyT_ready (rs:=[10]) (by kernel_rfl) (by simp) ?_;refine AllReadyT.cons rfl (fun K hK=>?_) AllReadyT.nil;go_simp;refine hK.out _ _ (hH.alloc _) (fun hH=>?_);clear hK K
       (try simp only [Act.put,List.setIfInBounds_toArray,List.set_cons_zero,List.set_cons_succ])
       refine wpAnyT_ready (rs:=[11]) (by kernel_rfl) (by simp) ?_;refine AllReadyT.last rfl (by kernel_rfl) (fun K hK=>?_);go_simp;refine hK.out _ _ ?_;clear hK K
       (try simp only [Act.put,List.setIfInBounds_toArray,List.set_cons_zero,List.set_cons_succ])
       refine wpAnyT_done (by kernel_rfl) ?_ _;go_wp2_with fail
       go_meet
       exact ⟨rfl,rfl⟩
      ·go_simp;refine hK.out _ _ (hH.alloc _) (fun hH=>?_);clear hK K
       (try simp only [Act.put,List.setIfInBounds_toArray,List.set_cons_zero,List.set_cons_succ])
       refine wpAnyT_ready (rs:=[8]) (by kernel_rfl) (by simp) ?_;refine AllReadyT.cons rfl (fun K hK=>?_) AllReadyT.nil;go_simp;refine (HIX.out _ hH).mono ?_;rintro e w6 ⟨rfl,rfl⟩;refine hK.out _ _ hH (fun hH=>?_);clear hK K
       (try simp only [Act.put,List.setIfInBounds_toArray,List.set_cons_zero,List.set_cons_succ])
       refine takeT [11] (i:=9) (v:=?tv9b) rfl (by kernel_rfl) (by kernel_rfl) (by kernel_rfl) (by kernel_rfl) (fun _ _ _ h=>h) (Or.inl ⟨by rfl,?ty9b⟩) hH ?tr9b
       case ty9b=>intro w' hSw;(try dsimp only at hSw);go_simp;first|done|with_reducible rfl
       (try simp only [Act.put,List.setIfInBounds_toArray,List.set_cons_zero,List.set_cons_succ])
       refine wpAnyT_ready (rs:=[11]) (by kernel_rfl) (by simp) ?_;refine AllReadyT.last rfl (by kernel_rfl) (fun K hK=>?_);go_simp;refine hK.out _ _ ?_;clear hK K
       (try simp only [Act.put,List.setIfInBounds_toArray,List.set_cons_zero,List.set_cons_succ])
       refine wpAnyT_done (by kernel_rfl) ?_ _;go_wp2_with fail
       go_meet
       exact ⟨rfl,rfl⟩
     case rest =>
     obtain ⟨hv,hw⟩:=hcut;subst hv;obtain ⟨gm,hgm⟩:∃ y,wr.heap.size=y:=⟨_,rfl⟩;have kwm:Kept [] wr wc:=hw▸((Kept.refl _ _).alloc _).drew
     have hbm:Blk wc gm 74 #[.slice none 0 0,.slice (some ⟨T num,0,none⟩) kn kn,.int .i64 ix]:=by rw [hw,←hgm];exact (Blk.new _ _ _).drew
     have hCm:=HCR.out.kept kwm;have hOm:=HOWN.out.kept kwm (by simp);have g0:wc.cell? ⟨g,0,none⟩=some (.map (some bv)):=hCm.blk.cell 0
     have hlk:((findC P num).map fun _=>Value.map (some (V num))).getD (.map none)=.map (some (V num)):=by rw [HFC.out];rfl
     obtain ⟨r3,hr3⟩:∃ y,wc.heap.size=y:=⟨_,rfl⟩
     have hgmr:gm < r3:=by rw [←hr3];exact hbm.lt
     have hw5g:w5.heap.size≤gm:=by rw [←hgm];exact HKR5.out.size
     have HKM:=Lib.hid (HKR5.out.trans kwm);have HBM:=Lib.hid hbm;have HCM:=Lib.hid hCm;have HOM:=Lib.hid hOm;have HR3:=Lib.hid hr3;have HVN:Hid (V num < r3):=Lib.hid (by rw [←hr3];exact hOm.lt);have HGT:Hid (∀ z∈obl (.slice ma j mc),z < gm):=Lib.hid (fun z hz=>by rw [←hgm];exact (HGW.out.ge z hz).2);have HTN:Hid (T num < gm):=Lib.hid (by rw [←hgm];exact HTICK.out.1.lt);rw [hgm];have HKC:=Lib.hid kwm;have HGE:=Lib.hid hgm;clear hw kwm hbm hCm hOm hgm hlook s1 HCR HOWN HIX
     go_wp2_with (first
      | (at_lookup;refine wpList_look (E:=intEnc) HCM.out.mv (x:=num) wfn rfl _ _ 94 142 rfl Tryz.underlying94 (.map none) zeroMap rfl rfl ?_;rw [hlk])
      | (at_range;refine wpList_rangeM (E:=strEnc) HOM.out rfl _ 142 3 rfl Tryz.underlying142 rfl ?_;intro w8 hrg8 hg8 hs8;have HRG8:=Lib.hid hrg8;have HG8:=Lib.hid hg8;clear hrg8 hg8 hs8)
      | go_in)
     have hrg8:=HRG8.out;rw [hr3] at hrg8 ⊢;have HRG8:=Lib.hid hrg8;have HK8:=Lib.hid (Kept.of_grown (S:=[]) HG8.out (fun k e=>by cases e));clear hrg8 HG8 hr3 g0 hlk
     go_frame
     go_loopw [12] (fun _ wi=>∃ (ss:List Bs) (vb:Value),MapRun strEnc wi (V num) r3 N (valV c.vals) ss∧Blk wi gm 74 #[vb,.slice (some ⟨T num,0,none⟩) kn kn,.int .i64 ix]∧wi.ownsRow (r3+1) 82 2 vb ss.length (bindsC (pairsOf c.vals ss))∧Kept [gm] wc wi) (fun _ wi=>wi.rangeLeft (V num) r3)
     case atStart=>exact ⟨[],_,HRG8.out,HBM.out.kept HK8.out (by simp),World.ownsRow_nil _ _ _ _,HK8.out.mono (fun _ _ h=>by simp at h)⟩
     case round =>
      obtain ⟨ss,vb,hrg,hbm,hown,hki⟩:=hrel;obtain ⟨va,vc,rfl⟩:=own_len hown (by decide);have hsl:ss.length≤N:=hrg.length_le;have HO:=Lib.hid hown;have HKI:=Lib.hid hki;have HBI:=Lib.hid hbm;have HRG:=Lib.hid hrg;clear hown hki hbm
      go_wp2_with (first
       | (at_next;refine wpList_nextM hrg rfl _ rfl rfl ?_ ?_)
       | go_in)
      ·intro hall
       obtain ⟨hmk,hndk⟩:(∀ s,s∈ss↔(valOf c.vals s).isSome=true)∧ss.Nodup:=by
        obtain ⟨D,left,cnt,h1,h2,h3,h4,h5,h6⟩:=hrg;refine ⟨fun s=>⟨fun hs=>?_,fun hs=>?_⟩,h4⟩
        ·have:=(h5 s hs).2
         unfold valV at this
         rwa [Option.isSome_map] at this
        ·refine hall s ?_ (by unfold valV;rwa [Option.isSome_map]);obtain ⟨v,hv⟩:=Option.isSome_iff_exists.1 hs;have hin:=HVALS.out.2 _ (valOf_in hv);have:=nm_len (s:=s) (by unfold namedB;rw [hin.1];simp)
         show s.length≤maxLen
         unfold maxLen
         omega
       have hpp:=pairs_perm HVALS.out.1 hndk hmk;have hbe:bindsS (pairsOf c.vals ss)=bindsS c.vals:=bindsS_perm_eq hpp HVALS.out.1
       have hpl:(pairsOf c.vals ss).length=ss.length:=by unfold pairsOf;rw [List.length_map]
       have hpn:((pairsOf c.vals ss).map Prod.fst).Nodup:=by
        unfold pairsOf
        rw [List.map_map];have:(Prod.fst ∘ fun s=>(s,(valOf c.vals s).getD 0))=(id:Bs→Bs):=rfl;rw [this,List.map_id];exact hndk
       have hob:=own_ge HO.out;have hsrt:=sortBinds (l:=pairsOf c.vals ss) (by rw [hpl];exact HO.out) (by rw [hpl];omega) hpn;rw [hbe,hpl] at hsrt
       have hbl:(bindsS c.vals).length=ss.length:=by rw [←hbe,(bindsS_perm _).length_eq,hpl]
       have HSB:=Lib.hid hsrt;have HBL:=Lib.hid hbl;have HOB:=Lib.hid hob;have m0:wr.cell? ⟨gm,0,none⟩=some (.slice va ss.length vc):=HBI.out.cell 0
       have ngm:gm∉obl (.slice va ss.length vc):=fun hm=>by have:=(hob _ hm).1;omega
       have nX:∀ z∈obl (.slice va ss.length vc),z∉X++obl (.slice ma j mc):=fun z hz hm=>by
        have h1:=(hob z hz).1
        rcases List.mem_append.1 hm with h2|h2
        ·have:=(HX.out z h2).1;have:=HK5.out.size;omega
        ·have:=HGT.out z h2;omega
       have htT:T num∉X:=fun hm=>(HX.out _ hm).2 num c HFC.out rfl
       have htO:T num∉obl (.slice ma j mc):=fun hm=>by
        have h1:=(HGW.out.ge _ hm).1;have h2:=(HC.out.tick num c HFC.out).1.lt;have:=HK5.out.size;omega
       have htk:=HTICK.out.1.kept HKC.out (by simp);have htk2:=htk.kept HKI.out (by simpa using htk.ne HBM.out (by decide));have HTI:=Lib.hid htk2;have HTX:Hid (T num∉X++obl (.slice ma j mc)):=Lib.hid (by rw [List.mem_append,not_or];exact ⟨htT,htO⟩);have HNX:=Lib.hid nX;have HBB:=Lib.hid (fun (w9:World) (k:Kept (obl (.slice va ss.length vc)) wr w9)=>HBI.out.kept k ngm)
       have happ:∀ w9:World,w9.ownsRow (r3+1) 82 2 (.slice va ss.length vc) ss.length (bindsC (bindsS c.vals))→Kept (obl (.slice va ss.length vc)) wr w9 →
         Grow MbR 3 74 w5.heap.size (X++obl (.slice ma j mc)) (w9.alloc (.cells #[.slice va ss.length vc,.slice (some ⟨T num,0,none⟩) kn kn,.int .i64 ix] 74)) (.slice ma j mc) ((membersB log P).take j) ∧
         Stable (X++obl (.slice ma j mc)) (fun w=>MbR w [.slice va ss.length vc,.slice (some ⟨T num,0,none⟩) kn kn,.int .i64 ix] ⟨bindsS c.vals,c.tick,ix⟩) (w9.alloc (.cells #[.slice va ss.length vc,.slice (some ⟨T num,0,none⟩) kn kn,.int .i64 ix] 74)):=fun w9 hown9 k9=>by
        have ka:Kept (obl (.slice va ss.length vc)) wr (w9.alloc (.cells #[.slice va ss.length vc,.slice (some ⟨T num,0,none⟩) kn kn,.int .i64 ix] 74)):=k9.alloc _;have kb:=((HKC.out.mono (S':=[gm]) (fun _ _ h=>by simp at h)).trans HKI.out).then_ ka (fun z hz hm=>by have:=(hob z hm).1;have:=HGE.out;omega)
        refine ⟨HGW.out.step kb (fun z hz hm=>by
         rw [List.mem_singleton] at hm;have h2:=HGT.out z hz
         omega) (fun z hz hlt=>by
         rw [List.mem_singleton] at hz;have:=HGE.out
         omega) (fun z hz=>Or.inl hz),?_⟩
        ·have h1:=Stable.own (own_keep hown9 (S:=[]) ((Kept.refl [] w9).alloc (.cells #[.slice va ss.length vc,.slice (some ⟨T num,0,none⟩) kn kn,.int .i64 ix] 74)) (by simp)) HNX.out;have h2:=Stable.blk ((HTI.out.kept ka (fun hm=>by have:=(hob _ hm).1;have:=HTN.out;omega))) HTX.out
         refine (h1.and h2).imp fun w ⟨k1,k2⟩=>⟨_,_,rfl,?_,?_⟩
         ·have hq:=binds_row (l:=bindsS c.vals) (by rw [hbl];exact k1) (by omega);exact hq
         ·have hq:=row_of_blk (size:=1) (n:=c.tick.length) k2 (by simp [ints]) (by have:=HTICK.out.2;omega);rw [HTICK.out.2] at hq ⊢;exact hq
       have HAPP:=Lib.hid happ
       have hjn:j≤1000000000:=by omega
       have hj1:((membersB log P).take j).length≤1000000000:=by rw [HML.out];exact hjn
       have HJ1:=Lib.hid hj1
       have hB9:∀ w9:World,Kept (obl (.slice va ss.length vc)) wr w9→w5.heap.size≤(w9.alloc (.cells #[.slice va ss.length vc,.slice (some ⟨T num,0,none⟩) kn kn,.int .i64 ix] 74)).heap.size:=fun w9 k=>by
        have h1:=k.size;have h2:=HKM.out.size;have h3:=HKI.out.size;rw [World.size_alloc];omega
       have HB9:=Lib.hid hB9;clear hmk hndk hpp hbe hpl hpn hsrt hbl hob ngm nX htT htO htk htk2 hrg HRG hall happ hj1 hB9
       go_wp2_with (first
        | (go_at_call 87;refine HSB.out.mono ?_;rintro e w9 ⟨rfl,hown9,k9⟩;have hb9:=HBB.out w9 k9;have n0:w9.cell? ⟨gm,0,none⟩=some (.slice va ss.length vc):=hb9.cell 0;have n1:w9.cell? ⟨gm,1,none⟩=some (.slice (some ⟨T num,0,none⟩) kn kn):=hb9.cell 1;have n2:w9.cell? ⟨gm,2,none⟩=some (.int .i64 ix):=hb9.cell 2;have HA9:=Lib.hid (HAPP.out w9 hown9 k9);have HK9:=Lib.hid k9;have HBS:=Lib.hid (HB9.out w9 k9);clear hown9 k9 hb9)
        | (at_builtin;refine wpList_append_grow (R:=MbR) (m:=3) (e:=74) (B:=w5.heap.size) (X:=X++obl (.slice ma j mc)) (l:=(membersB log P).take j) rfl _ _ 64 rfl i0 _ 56 Tryz.underlying64 hi hz0 hz1 hz2 rfl (by decide) (by decide) rfl HA9.out.1 _ [.slice va ss.length vc,.slice (some ⟨T num,0,none⟩) kn kn,.int .i64 ix] ⟨bindsS c.vals,c.tick,ix⟩ rfl (row_of_blk (cs:=[.slice va ss.length vc,.slice (some ⟨T num,0,none⟩) kn kn,.int .i64 ix]) (Blk.new _ _ _) rfl (by decide)) HA9.out.2 (by simp [Value.oneCell']) HJ1.out HBS.out (fun z hz=>List.mem_append_right _ hz) ?_;intro a' c' w10 hG10 hk10 hl10;have HG10:=Lib.hid hG10;have HK10:=Lib.hid hk10;have HL10:=Lib.hid hl10;clear hG10 hk10 hl10)
        | go_in)
       have hk510:Kept [] w5 w10:=by
        have h1:=HKM.out.fresh HKI.out (fun z hz=>by rw [List.mem_singleton] at hz;omega);have h2:=h1.fresh HK9.out (fun z hz=>by have:=(HOB.out z hz).1;omega);exact (h2.alloc _).fresh HK10.out (fun z hz=>(HGW.out.ge z hz).1)
       have hg10:=HG10.out;rw [←HTK.out] at hg10
       have hg11:=hg10.step (X':=X++obl (.slice a' (((membersB log P).take j).length+1) c')) (Kept.refl [] w10) (by simp) (by simp) (fun z hz=>Or.inl (by
        rcases List.mem_append.1 hz with h|h
        ·exact List.mem_append_left _ (List.mem_append_left _ h)
        ·exact List.mem_append_right _ h))
       rw [HML.out] at hg11
       have hmin:min j (membersB log P).length=j:=by have:=HML.out;rwa [List.length_take] at this
       rw [hmin]
       go_roundw
       case rel=>exact ⟨j+1,by omega,by go_num,hk510,hg11⟩
       case measure=>simp [intOf];omega
      ·intro x v w2 hx hfx hng hrg2 hlt hg2 hs2 hen;have hval:strEnc.val x=.string ⟨x.toArray⟩:=rfl;rw [hval] at hen ⊢
       obtain ⟨y,hy,rfl⟩:∃ y,valOf c.vals x=some y∧v=.int .i64 y:=by
        unfold valV at hfx
        rw [Option.map_eq_some_iff] at hfx;obtain ⟨y,h1,h2⟩:=hfx;exact ⟨y,h1,h2.symm⟩
       have k2:Kept [r3] wr w2:=Kept.of_turned hg2 (by simp);have hob:=own_ge HO.out;have HO2:=Lib.hid (own_keep HO.out k2 (fun z hz hm=>by rw [List.mem_singleton] at hm;have:=(hob z hz).1;omega));have HB2:=Lib.hid (HBI.out.kept k2 (by simp;omega));have HRG2:=Lib.hid hrg2;have HLT:=Lib.hid hlt;have HOB:=Lib.hid hob;have HK2:Hid (Kept [gm] wc w2):=Lib.hid (HKI.out.then_ k2 (fun z hz hm=>by rw [List.mem_singleton] at hm;have:=HR3.out;omega));have HR2:Hid (r3+1≤w2.heap.size):=Lib.hid hrg2.lt;have HY:=Lib.hid hy;have m0:w2.cell? ⟨gm,0,none⟩=some (.slice va ss.length vc):=HB2.out.cell 0;clear hs2 hrg2 hlt hg2 hob k2 hrg HRG HO HKI HBI hng hfx hx hy
       go_wp2_with (first
        | (at_builtin;refine wpList_append_row rfl _ _ _ rfl (r3+1) 82 i1 _ 2 24 Tryz.underlying30 hi1 hy0 hy1 hy2 rfl (by decide) (.slice va ss.length vc) ss.length (bindsC (pairsOf c.vals ss)) rfl (own_keep HO2.out (S:=[]) ((Kept.refl [] w2).alloc _) (by simp)) _ 1 [.string ⟨x.toArray⟩,.int .i64 y] rfl (row_of_blk (cs:=[.string ⟨x.toArray⟩,.int .i64 y]) (Blk.new _ _ _) rfl (by decide)) (by simp [Value.oneCell']) (by unfold maxLen;omega) (by omega) (by have:=HR2.out;rw [World.size_alloc];omega) ?_;intro a' c' w6 hown6 hk6 hl6;have hb6:=(HB2.out.alloc (.cells #[.string ⟨x.toArray⟩,.int .i64 y] 82)).kept hk6 (fun hm=>by have:=(HOB.out _ hm).1;omega);have m6:w6.cell? ⟨gm,0,none⟩=some (.slice va ss.length vc):=hb6.cell 0;have f6:=hb6.frozen 0;have HB6:=Lib.hid hb6;have HO6:=Lib.hid hown6;have HK6:=Lib.hid hk6;have HL6:=Lib.hid hl6;clear hown6 hk6 hl6 hb6)
        | go_in)
       obtain ⟨w7,hw7⟩:∃ z,w6.setCell ⟨gm,0,none⟩ (.slice a' (ss.length+1) c')=z:=⟨_,rfl⟩;have k67:Kept [gm] w6 w7:=hw7▸(Kept.refl _ _).setCell (Or.inl (by simp)) _;have k26:Kept (obl (.slice va ss.length vc)) w2 w6:=((Kept.refl [] w2).alloc (.cells #[.string ⟨x.toArray⟩,.int .i64 y] 82) |>.mono (fun _ _ h=>by simp at h)).trans HK6.out
       have nv:V num∉obl (.slice va ss.length vc):=fun hm=>by have:=(HOB.out _ hm).1;have:=HVN.out;omega
       have nr:r3∉obl (.slice va ss.length vc):=fun hm=>by have:=(HOB.out _ hm).1;omega
       have nvg:V num∉[gm]:=by simpa using HRG2.out.at_.ne_blk HB2.out
       have nrg:r3∉[gm]:=by simp;omega
       have hrg6:=HRG2.out.kept k26 nv nr;have hrg7:=hrg6.kept k67 nvg nrg;have hl6:=HRG2.out.left_kept k26 nv nr;have hl7:=hrg6.left_kept k67 nvg nrg;have hb7:Blk w7 gm 74 #[.slice a' (ss.length+1) c',.slice (some ⟨T num,0,none⟩) kn kn,.int .i64 ix]:=hw7▸HB6.out.set_ 0 _;have ho7:=own_keep HO6.out k67 (fun z hz hm=>by rw [List.mem_singleton] at hm;have:=(own_ge HO6.out z hz).1;omega);rw [hw7]
       go_roundw
       case rel =>
        refine ⟨ss++[x],.slice a' (ss.length+1) c',hrg7,hb7,?_,(HK2.out.fresh k26 (fun z hz=>by have:=(HOB.out z hz).1;have:=HR3.out;omega)).trans k67⟩;rw [List.length_append,List.length_singleton]
        have:bindsC (pairsOf c.vals (ss++[x]))=bindsC (pairsOf c.vals ss)++[.string ⟨x.toArray⟩,.int .i64 y]:=by
         unfold pairsOf
         rw [List.map_append,List.map_singleton,HY.out,binds_snoc]
         rfl
        rw [this];exact ho7
       case measure =>
        rw [hl7,hl6];exact HLT.out
    ·obtain rfl:j=nn:=by omega
     have hall:(membersB log P).take j=membersB log P:=List.take_of_length_le (by unfold membersB;rw [List.length_map,HNL.out];omega);have hgw:=HGW.out;rw [hall] at hgw;have hdone:=hgw.done (X':=X) (fun z hz=>Or.inl (List.mem_append_left _ hz)) (fun z hz hm=>by have:=(hgw.ge z hz).1;have:=(HX.out z hm).1;have:=HK5.out.size;omega) (by unfold membersB;rw [List.length_map,HNL.out];omega);have hnums:=Stable.row (X:=X) (own_keep HO5.out hkr (by simp)) (fun z hz hm=>by have:=(own_ge HO5.out z hz).1;have:=(HX.out z hm).1;have:=HR.out;omega) (by omega);have HD:=Lib.hid hdone;have HNU:=Lib.hid hnums;clear hall hgw hdone hnums hkr;go_wp2_with fail
     go_ret2
     refine ⟨HK5.out.trans HKR5.out,_,_,rfl,HD.out,?_⟩;rw [HNL.out];exact HNU.out
  ·intro x v w2 hx c hfc hfv hng hrg2 hlt hg2 hs2 hen;subst hfv;have hval:intEnc.val x=.int .i64 x:=rfl;rw [hval] at hen ⊢;have k2:Kept [r] wr w2:=Kept.of_turned hg2 (by simp);have hob:=own_ge HO.out;have hown2:w2.ownsRow (r+1) 3 1 (.slice oa ss.length oc) ss.length (ints ss):=own_keep HO.out k2 (fun z hz hm=>by rw [List.mem_singleton] at hm;have:=(hob z hz).1;omega);have HO2:=Lib.hid hown2;have HRG2:=Lib.hid hrg2;have HLT:=Lib.hid hlt;have HOB:=Lib.hid hob;have HK2:=Lib.hid (HKR.out.fresh k2 (fun z hz=>by rw [List.mem_singleton] at hz;have:=HR.out;omega));have hr2:r+1≤w2.heap.size:=hrg2.lt;have HR2:=Lib.hid hr2;clear hs2 hown2 hrg2 hlt hg2 hob k2 hr2 hrg HRG HO HKR hng hfc c hx
   go_wp2_with (first
    | (at_builtin;refine wpList_append_ints rfl _ _ rfl (r+1) (.slice oa ss.length oc) ss.length ss rfl (own_keep HO2.out (S:=[]) ((Kept.refl [] w2).alloc _) (by simp)) _ 1 [x] rfl (Row.lit w2 [x] (by simp)) (by omega) (by have:=HR2.out;rw [World.size_alloc];omega) ?_;intro a' c' w6 hown6 hk6 hl6;have HO6:=Lib.hid hown6;have HK6:=Lib.hid hk6;clear hown6 hk6 hl6)
    | go_in)
   have hk26:Kept (obl (.slice oa ss.length oc)) w2 w6:=((Kept.refl [] w2).alloc (.cells (ints [x]).toArray 3) |>.mono (fun _ _ h=>by simp at h)).trans HK6.out
   have nb:bv∉obl (.slice oa ss.length oc):=fun hm=>by have:=(HOB.out _ hm).1;omega
   have nr:r∉obl (.slice oa ss.length oc):=fun hm=>by have:=(HOB.out _ hm).1;omega
   have hrg6:=HRG2.out.kept hk26 nb nr;have hlf:=HRG2.out.left_kept hk26 nb nr
   go_roundw
   case rel =>
    refine ⟨ss++[x],hrg6,?_,HK2.out.fresh hk26 (fun z hz=>by have:=(HOB.out z hz).1;have:=HR.out;omega)⟩;rw [List.length_append,List.length_singleton];exact HO6.out
   case measure =>
    rw [hlf];exact HLT.out
end Go.Proofs.YtpcmamoomaddoaaGreatDoor
