/- The holders in memory: two maps, and for each holder a map of values and a row of counts. -/
import Derived.Test.YtpcmamoomaddoaaGreatDoorIdq
import Derived.Test.YtpcmamoomaddoaaGreatDoorOrd
import Derived.Deep.DeepCutAuto
import Derived.Test.YtpcmamoomaddoaaGreatDoorKys
import Derived.Test.YtpcmamoomaddoaaGreatDoorAcc
/- JOINED: Qst Mpl Cit -/
/- inquiry's keyIndex and question. -/
namespace Go.Proofs.YtpcmamoomaddoaaGreatDoor
open Go.RowKit
set_option maxRecDepth 100000 in
set_option maxHeartbeats 2000000 in
theorem keyIndex_any {w:World} {v:Value} {ks:List Pss} {t:Pss} {cs:List Value} (h:RowOf PssR 4 w v ks) (ht:PssR w cs t) :
  Calls Tryz.prog 90 #[v,.agg cs.toArray] w fun e w'=>e=.returned (.int .i64 (idxV (ks.findIdx? (keyIs t))))∧Kept [] w w':=by
 obtain ⟨W,hW⟩:∃ W,w.alloc (.cells cs.toArray 36)=W:=⟨_,rfl⟩;have kW:Kept [] w W:=hW▸(Kept.refl _ _).alloc _;have hB:Blk W w.heap.size 36 cs.toArray:=hW▸Blk.new _ _ _;have hix:=keyK_ix (cb:=w.heap.size) (keyIs t) (h.kept (fun _ _ h=>PssR.kept h kW) kW) (fun a _ ds w' k hd=>k1_any (hB.kept k (by simp)) (ht.kept (kW.trans k)) hd);obtain ⟨tv,tg,rfl,ht1,_⟩:=ht;obtain ⟨ta,tc,rfl,_,_⟩:=ht1.form;obtain ⟨a,c,rfl,_,_⟩:=h.form;obtain ⟨r,hr⟩:∃ r,ks.findIdx? (keyIs t)=r:=⟨_,rfl⟩;rw [hr] at hix ⊢;obtain ⟨tn,htn⟩:∃ n,t.attrs.length=n:=⟨_,rfl⟩;rw [htn] at hB hW ⊢;have HIX:=Lib.hid hix;have HW:=Lib.hid hW;have HK:=Lib.hid kW;have x0:W.cell? ⟨w.heap.size,0,none⟩=some (.string ⟨t.name.toArray⟩):=hB.cell 0;have x1:W.cell? ⟨w.heap.size,1,none⟩=some (.int .i64 t.pub):=hB.cell 1;have x2:W.cell? ⟨w.heap.size,2,none⟩=some (.slice ta tn tc):=hB.cell 2;have x3:W.cell? ⟨w.heap.size,3,none⟩=some tg:=hB.cell 3;clear hix hW kW hB h ht1 hr htn
 show Calls _ _ #[_,.agg #[.string ⟨t.name.toArray⟩,.int .i64 t.pub,.slice ta tn tc,tg]] _ _
 go_enter Tryz.func90,Tryz.ntmps90
 go_upto_region 1 with (fail);have hW':=HW.out;rw [hW'];clear hW';go_wp2_with (go_at_call 138;refine HIX.out.mono ?_;rintro e w5 ⟨rfl,k5⟩);go_ret;exact ⟨rfl,HK.out.trans k5⟩
/-! ### the crowd that grows -/
def snsC (us:List Sn):List Value:=us.flatMap fun x=>[.int .i64 x.q,.int .i64 x.win,.int .i64 x.asof,.int .i64 x.hold]
structure CrG (B5:Nat) (w:World) (gc:Nat) (vm:Value) (qs:List Pd) (us:List Sn) (vq vu:Value):Prop where
 blk:Blk w gc 67 #[vq,vm,vu]
 q:Grow PdR 5 46 B5 (gc::(obl vq++obl vu)) w vq qs
 u:w.ownsRow B5 84 4 vu us.length (snsC us)
 dis:∀ z∈obl vq,z∉obl vu
 low:gc < B5∧B5≤w.heap.size
theorem CrG.kept {B5:Nat} {w w':World} {gc:Nat} {vm:Value} {qs:List Pd} {us:List Sn} {vq vu:Value} (h:CrG B5 w gc vm qs us vq vu) (k:Kept [] w w'):CrG B5 w' gc vm qs us vq vu :=
 ⟨h.blk.kept k (by simp),h.q.step k (by simp) (by simp) (fun z hz=>Or.inl hz),own_keep h.u k (by simp),h.dis,h.low.1,Nat.le_trans h.low.2 k.size⟩
theorem own_addr {w:World} {B:Nat} {e:TypeId} {size n c:Nat} {a:Option Addr} {xs:List Value} (h:w.ownsRow B e size (.slice a n c) n xs) (hn:0 < n):∃ g,a=some ⟨g,0,none⟩:=by
 rcases h.2 with ⟨h1,_⟩|⟨g,cap,cur,hv,_⟩
 ·injection h1 with _ h2 _;omega
 ·injection hv with h1 _ _;exact ⟨g,h1⟩
theorem set_tail (l:List Value) (k:Nat) (u:Value) (t:List Value) (i:Nat) (hi:i=l.length+k):(l++t).set i u=l++t.set k u:=by
 subst hi;rw [List.set_append_right _ _ (by omega)]
 congr 2
 omega
/-- an element of five cells is laid over the last one -/
theorem own_last5 {w:World} {B:Nat} {e:TypeId} {g n c:Nat} {xs:List Value} {z0 z1 z2 z3 z4:Value} (u0 u1 u2 u3 u4:Value) (hl:xs.length=n*5) (h:w.ownsRow B e 5 (.slice (some ⟨g,0,none⟩) (n+1) c) (n+1) (xs++[z0,z1,z2,z3,z4])) :
  (((((w.setCell ⟨g,n*5,none⟩ u0).setCell ⟨g,n*5+1,none⟩ u1).setCell ⟨g,n*5+2,none⟩ u2).setCell ⟨g,n*5+3,none⟩ u3).setCell ⟨g,n*5+4,none⟩ u4).ownsRow B e 5 (.slice (some ⟨g,0,none⟩) (n+1) c) (n+1) (xs++[u0,u1,u2,u3,u4]):=by
 have h0:=(h.stored (n*5) u0).1;rw [set_tail xs 0 u0 _ _ (by omega)] at h0;have h1:=(h0.stored (n*5+1) u1).1;rw [set_tail xs 1 u1 _ _ (by omega)] at h1;have h2:=(h1.stored (n*5+2) u2).1;rw [set_tail xs 2 u2 _ _ (by omega)] at h2;have h3:=(h2.stored (n*5+3) u3).1;rw [set_tail xs 3 u3 _ _ (by omega)] at h3;have h4:=(h3.stored (n*5+4) u4).1;rw [set_tail xs 4 u4 _ _ (by omega)] at h4;exact h4
theorem step_append_row {P:Program} {w:World} {ops:Array Oper} {o:Oper} {a:Act} {K:Act→World→Prop} {Q:Exit→Act→World→Prop} {E:Prop} (hgd:o.guard=none) (d:Tmp) (hd:o.dst=some d) (s x:Operand) (t:TypeId)
  (ho:o.op=.call { callee:=.builtin .append,args:=#[s,x],argTypes:=#[t,t] })
  (base:Nat) (e:TypeId) (i:TypeInfo) (z:Value) (size bytes:Nat) (ht:P.underlying t=some (.slice e)) (hi:P.info? e=some i) (hz:i.zero=some z)
  (hsize:i.size=size) (hby:i.bytes=bytes) (hzs:z.cells.size=size) (hsz:0 < size)
  (v:Value) (n:Nat) (xs:List Value) (hs:a.eval s=v) (hown:w.ownsRow base e size v n xs)
  (u:Value) (m:Nat) (news:List Value) (hx:a.eval x=u) (hrow:Row w size u m news) (h1:∀ u∈news,u.oneCell'=true)
  (h63:n+m≤maxLen) (hbytes:(n+m)*bytes≤140737488355328) (hbase:base≤w.heap.size)
  (h:∀ a' c' w',w'.ownsRow base e size (.slice a' (n+m) c') (n+m) (xs++news)→Kept (obl v) w w'→(∀ k∈obl (.slice a' (n+m) c'),k∈obl v∨k=w.heap.size)→K (a.put (some d) (.slice a' (n+m) c')) w') :
  if Region.wanted o (yielded ops a.tmps)=true then Oper.wp P o a w K Q else E:=by
 rw [if_pos (by simp [Region.wanted,hgd])];exact wp_append_row s x t ho base e i z size bytes ht hi hz hsize hby hzs hsz v n xs hs hown u m news hx hrow h1 h63 hbytes hbase (fun a' c' w' h2 h3 h4=>by rw [hd];exact h a' c' w' h2 h3 h4)
def QstR (B5:Nat) (gc:Nat) (vm:Value) (qs:List Pd) (us:List Sn) (vq vu:Value) (p:Pd) (e:Ending) (w':World):Prop :=
 match qs.findIdx? (sameB p) with
 | some i=>e=.returned (.tuple #[.int .i64 (i:Int),.bool true])∧CrG B5 w' gc vm qs us vq vu
 | none=>if 128≤qs.length then e=.returned (.tuple #[.int .i64 0,.bool false]) else e=.returned (.tuple #[.int .i64 (qs.length:Int),.bool true])∧∃ vq',CrG B5 w' gc vm (qs++[p]) us vq' vu
theorem info5:(Tryz.prog.info? 46).map (fun i=>(i.zero,i.size,i.bytes))=some (some (.agg #[.int .i64 0,.string ⟨#[]⟩,.string ⟨#[]⟩,.int .i64 0,.slice none 0 0]),5,72):=by kernel_rfl
set_option maxRecDepth 100000 in
set_option maxHeartbeats 16000000 in
theorem question_any {B5:Nat} {w:World} {gc:Nat} {vm:Value} {qs:List Pd} {us:List Sn} {vq vu:Value} {cs:List Value} {p:Pd} (hC:CrG B5 w gc vm qs us vq vu) (hp:Stable (gc::(obl vq++obl vu)) (fun w=>PdR w cs p) w) (hlq:qs.length≤1000000) :
  Calls Tryz.prog 92 #[.pointer (some ⟨gc,0,none⟩),.agg cs.toArray] w fun e w'=>Kept (gc::obl vq) w w'∧QstR B5 gc vm qs us vq vu p e w':=by
 obtain ⟨i0,hi,hz0,hz1,hz2⟩:=info_parts info5;obtain ⟨W,hW⟩:∃ W,w.alloc (.cells cs.toArray 46)=W:=⟨_,rfl⟩;have kW:Kept [] w W:=hW▸(Kept.refl _ _).alloc _;have hB:Blk W w.heap.size 46 cs.toArray:=hW▸Blk.new _ _ _;have hCW:=hC.kept kW;have hpW:Stable (gc::(obl vq++obl vu)) (fun w=>PdR w cs p) W:=hp.step kW (by simp) (fun z hz=>Or.inl hz);obtain ⟨R,hR⟩:∃ R,qs.findIdx? (sameB p)=R:=⟨_,rfl⟩;have hix:=questK_ix (cb:=w.heap.size) (sameB p) (hCW.q.row (by omega)) (fun a _ ds w' k hd=>q1_any (hB.kept k (by simp)) (PdR.kept k hpW.get) hd)
 unfold QstR
 rw [hR] at hix ⊢;obtain ⟨qa,qc,rfl⟩:=hC.q.form (by decide);obtain ⟨nq,hnq⟩:∃ n,qs.length=n:=⟨_,rfl⟩;rw [hnq] at hC hCW hp hpW hix hlq ⊢;obtain ⟨pk,pl,pr,pc,pks⟩:=p;obtain ⟨pa,pcc,rfl,_⟩:=hp.get.rows;obtain ⟨pn,hpn⟩:∃ n,pks.length=n:=⟨_,rfl⟩;rw [hpn] at hB hW hp hpW ⊢;obtain ⟨bp,hbp⟩:∃ b,w.heap.size=b:=⟨_,rfl⟩;rw [hbp] at hB hix;have HBP:=Lib.hid hbp;have HIX:=Lib.hid hix;have HC:=Lib.hid hCW;have HP:=Lib.hid hpW;have HW:=Lib.hid hW;have HK:=Lib.hid kW;have HB:=Lib.hid hB;have HNQ:=Lib.hid hnq;have HPN:=Lib.hid hpn;have m0:W.cell? ⟨gc,0,none⟩=some (.slice qa nq qc):=hCW.blk.cell 0
 have hgb:gc < bp:=by rw [←hbp];exact hC.blk.lt
 have HQB:Hid (∀ z∈obl (.slice qa nq qc),z < bp):=Lib.hid (fun z hz=>by rw [←hbp];exact (hC.q.ge z hz).2);clear hix hCW hpW hW kW hB hnq hpn hbp hp hR hC
 show Calls _ _ #[_,.agg #[.int .i64 pk,.string ⟨pl.toArray⟩,.string ⟨pr.toArray⟩,.int .i64 pc,.slice pa pn pcc]] _ _
 go_enter Tryz.func92,Tryz.ntmps92
 go_upto_region 1 with (fail);have hW':=HW.out;rw [hW',HBP.out];clear hW'
 cases R with
 | some i =>
  have hge:(0:Int)≤(i:Int):=by omega
  have HIX2:Hid (Calls Tryz.prog 95 #[.slice qa nq qc,.func (.func 140) #[] #[.pointer (some ⟨bp,0,none⟩)]] W fun e w'=>e=.returned (.int .i64 (i:Int))∧Kept [] W w'):=HIX;clear HIX;go_wp2_with (go_at_call 95;refine HIX2.out.mono ?_;rintro e w5 ⟨rfl,k5⟩)
  go_ret2
  refine ⟨(HK.out.trans k5).mono (fun _ _ h=>by simp at h),rfl,?_⟩;exact HC.out.kept k5
 | none =>
  have HIX2:Hid (Calls Tryz.prog 95 #[.slice qa nq qc,.func (.func 140) #[] #[.pointer (some ⟨bp,0,none⟩)]] W fun e w'=>e=.returned (.int .i64 (-1))∧Kept [] W w'):=HIX;clear HIX
  by_cases h128:128≤nq
  ·have h128':(128:Int)≤(nq:Int):=by omega
   go_wp2_with (go_at_call 95;refine HIX2.out.mono ?_;rintro e w5 ⟨rfl,k5⟩;have m5:w5.cell? ⟨gc,0,none⟩=some (.slice qa nq qc):=Kept.cellOf m0 _ k5)
   go_ret2
   exact ⟨(HK.out.trans k5).mono (fun _ _ h=>by simp at h),rfl⟩
  ·have h128':¬ (128:Int)≤(nq:Int):=by omega
   go_upto_region 6 with (go_at_call 95;refine HIX2.out.mono ?_;rintro e w5 ⟨rfl,k5⟩;have m5:w5.cell? ⟨gc,0,none⟩=some (.slice qa nq qc):=Kept.cellOf m0 _ k5);have HC5:=Lib.hid (HC.out.kept k5);have HP5:=Lib.hid ((HP.out.step k5 (by simp) (fun z hz=>Or.inl hz):Stable (gc::(obl (.slice qa nq qc)++obl vu)) _ w5));have HB5:=Lib.hid (HB.out.kept k5 (by simp));have HK5:=Lib.hid (HK.out.trans k5);clear k5 m0 m5
   go_cut [23] (fun v wx=>∃ b,v=.bool b∧Kept [] w5 wx)
   case first =>
    go_region
    all_goals (go_wp2_with fail;go_meet;exact ⟨_,rfl,((Kept.refl _ _).alloc _).drew⟩)
   case rest =>
   obtain ⟨b,hv,k6⟩:=hcut;subst hv;have HC6:=Lib.hid (HC5.out.kept k6);have HP6:=Lib.hid ((HP5.out.step k6 (by simp) (fun z hz=>Or.inl hz):Stable (gc::(obl (.slice qa nq qc)++obl vu)) _ wc));have HB6:=Lib.hid (HB5.out.kept k6 (by simp));have HK6:=Lib.hid (HK5.out.trans k6);clear k6 HC5 HP5 HB5 HK5
   apply_assumption
   go_cut [23] (fun _ wx=>Kept (gc::obl (.slice qa nq qc)) wc wx∧∃ qa' qc',CrG B5 wx gc vm (qs++[.node pk pl pr pc pks]) us (.slice qa' (nq+1) qc') vu)
   case first =>
    obtain ⟨vs,hown,hst⟩:=HC6.out.q;rw [HNQ.out] at hown
    have hfl:vs.flatten.length=nq*5:=by have:=hown.1;rw [this]
    have m0:wc.cell? ⟨gc,0,none⟩=some (.slice qa nq qc):=HC6.out.blk.cell 0
    have ngq:gc∉obl (.slice qa nq qc):=fun hm=>by have:=(own_ge hown gc hm).1;have:=HC6.out.low.1;omega
    have hfin:∀ (w':World) (a':Option Addr) (c':Nat),Kept (gc::obl (.slice qa nq qc)) wc w'→(∀ k∈obl (.slice a' (nq+1) c'),k∈obl (.slice qa nq qc)∨wc.heap.size≤k)→Blk w' gc 67 #[.slice a' (nq+1) c',vm,vu] →
      w'.ownsRow B5 46 5 (.slice a' (nq+1) c') (nq+1) (vs.flatten++[.int .i64 pk,.string ⟨pl.toArray⟩,.string ⟨pr.toArray⟩,.int .i64 pc,.slice pa pn pcc])→CrG B5 w' gc vm (qs++[.node pk pl pr pc pks]) us (.slice a' (nq+1) c') vu:=fun w' a' c' k hn hb ho=>by
     have hdis:∀ z∈obl vu,z∉gc::obl (.slice qa nq qc):=fun z hz hm=>by
      rcases List.mem_cons.1 hm with rfl|hm
      ·have:=(own_ge HC6.out.u z hz).1;have:=HC6.out.low.1;omega
      ·exact HC6.out.dis z hm hz
     refine ⟨hb,⟨vs++[[.int .i64 pk,.string ⟨pl.toArray⟩,.string ⟨pr.toArray⟩,.int .i64 pc,.slice pa pn pcc]],?_,?_⟩,own_keep HC6.out.u k hdis,fun z hz hm=>?_,HC6.out.low.1,Nat.le_trans HC6.out.low.2 k.size⟩
     ·rw [List.length_append,HNQ.out,List.length_singleton]
      simpa using ho
     ·have h4:=(hst.and HP6.out).imp (Q:=Elems PdR 5 (vs++[[.int .i64 pk,.string ⟨pl.toArray⟩,.string ⟨pr.toArray⟩,.int .i64 pc,.slice pa pn pcc]]) (qs++[.node pk pl pr pc pks])) fun _ h=>h.1.snoc rfl h.2;refine h4.step k (fun z hz _=>?_) (fun z hz=>?_)
      ·rcases List.mem_cons.1 hz with rfl|hz
       ·exact List.mem_cons_self
       ·exact List.mem_cons_of_mem _ (List.mem_append_left _ hz)
      ·rcases List.mem_cons.1 hz with rfl|hz
       ·exact Or.inl List.mem_cons_self
       ·rcases List.mem_append.1 hz with hz|hz
        ·rcases hn z hz with h|h
         ·exact Or.inl (List.mem_cons_of_mem _ (List.mem_append_left _ h))
         ·exact Or.inr h
        ·exact Or.inl (List.mem_cons_of_mem _ (List.mem_append_right _ hz))
     ·rcases hn z hz with h|h
      ·exact HC6.out.dis z h hm
      ·have:=(own_ge HC6.out.u z hm).2;omega
    have HFIN:=Lib.hid hfin;have HOWN:=Lib.hid hown;have hbase:B5≤wc.heap.size:=HC6.out.low.2;clear hfin hown hst
    cases b with
    | true =>
     go_upto_region 8 with (first
      | (at_builtin;refine wpList_append_row rfl _ _ _ rfl B5 46 i0 _ 5 72 Tryz.underlying44 hi hz0 hz1 hz2 rfl (by decide) (.slice qa nq qc) nq vs.flatten rfl (own_keep HOWN.out (S:=[]) ((Kept.refl [] wc).alloc _) (by simp)) _ 1 [.int .i64 0,.string ⟨#[]⟩,.string ⟨#[]⟩,.int .i64 0,.slice none 0 0] rfl (row_of_blk (cs:=[.int .i64 0,.string ⟨#[]⟩,.string ⟨#[]⟩,.int .i64 0,.slice none 0 0]) (Blk.new _ _ _) rfl (by decide)) (by simp [Value.oneCell']) (by unfold maxLen;omega) (by omega) (by rw [World.size_alloc];omega) ?_;intro a' c' w6 hown6 hk6 hl6;have hb6:=(HC6.out.blk.alloc (.cells #[.int .i64 0,.string ⟨#[]⟩,.string ⟨#[]⟩,.int .i64 0,.slice none 0 0] 46)).kept hk6 ngq;have m6:w6.cell? ⟨gc,0,none⟩=some (.slice qa nq qc):=hb6.cell 0;have f6:=hb6.frozen 0;have HB7:=Lib.hid hb6;have HO6:=Lib.hid hown6;have HK7:=Lib.hid hk6;have HL6:=Lib.hid hl6;clear hown6 hk6 hl6 hb6)
      | go_in)
     obtain ⟨g',rfl⟩:=own_addr HO6.out (by omega);obtain ⟨w7,hw7⟩:∃ y,w6.setCell ⟨gc,0,none⟩ (.slice (some ⟨g',0,none⟩) (nq+1) c')=y:=⟨_,rfl⟩;rw [hw7];have k67:Kept [gc] w6 w7:=hw7▸(Kept.refl _ _).setCell (Or.inl (by simp)) _;have hb7:Blk w7 gc 67 #[.slice (some ⟨g',0,none⟩) (nq+1) c',vm,vu]:=hw7▸HB7.out.set_ 0 _;have ho7:=own_keep HO6.out k67 (fun z hz hm=>by rw [List.mem_singleton] at hm;have:=(own_ge HO6.out z hz).1;have:=HC6.out.low.1;omega);have k06:Kept (obl (.slice qa nq qc)) wc w6:=((Kept.refl [] wc).alloc (.cells #[.int .i64 0,.string ⟨#[]⟩,.string ⟨#[]⟩,.int .i64 0,.slice none 0 0] 46) |>.mono (fun _ _ h=>by simp at h)).trans HK7.out;have k07:Kept (gc::obl (.slice qa nq qc)) wc w7:=(k06.mono (fun _ _ h=>List.mem_cons_of_mem _ h)).trans (k67.mono (fun _ _ h=>by rw [List.mem_singleton] at h;rw [h];exact List.mem_cons_self))
     have hbp7:=HB6.out.kept k07 (fun hm=>by
      rcases List.mem_cons.1 hm with h|h
      ·omega
      ·have:=HQB.out _ h;omega)
     have hel:∀ (k:Nat) u,[.int .i64 0,.string ⟨#[]⟩,.string ⟨#[]⟩,.int .i64 0,.slice none 0 0][k]?=some u→w7.cell? ⟨g',nq*5+k,none⟩=some u:=fun k u hu=>by
      have hk:k < 5:=(List.getElem?_eq_some_iff.1 hu).1;rw [ho7.cellAt (nq*5+k) (by omega),List.getElem?_append_right (by omega),show nq*5+k - vs.flatten.length=k by omega];exact hu
     have e0:w7.cell? ⟨g',nq*5,none⟩=some (.int .i64 0):=hel 0 _ rfl;have e1:w7.cell? ⟨g',nq*5+1,none⟩=some (.string ⟨#[]⟩):=hel 1 _ rfl;have e2:w7.cell? ⟨g',nq*5+2,none⟩=some (.string ⟨#[]⟩):=hel 2 _ rfl;have e3:w7.cell? ⟨g',nq*5+3,none⟩=some (.int .i64 0):=hel 3 _ rfl;have e4:w7.cell? ⟨g',nq*5+4,none⟩=some (.slice none 0 0):=hel 4 _ rfl;have f0:=ho7.frozenAt (nq*5);have f1:=ho7.frozenAt (nq*5+1);have f2:=ho7.frozenAt (nq*5+2);have f3:=ho7.frozenAt (nq*5+3);have f4:=ho7.frozenAt (nq*5+4);have p0:w7.cell? ⟨bp,0,none⟩=some (.int .i64 pk):=hbp7.cell 0;have p1:w7.cell? ⟨bp,1,none⟩=some (.string ⟨pl.toArray⟩):=hbp7.cell 1;have p2:w7.cell? ⟨bp,2,none⟩=some (.string ⟨pr.toArray⟩):=hbp7.cell 2;have p3:w7.cell? ⟨bp,3,none⟩=some (.int .i64 pc):=hbp7.cell 3;have p4:w7.cell? ⟨bp,4,none⟩=some (.slice pa pn pcc):=hbp7.cell 4
     have hix:(nq:Int) < (nq:Int)+1:=by omega
     have HO7:=Lib.hid ho7;have HB77:=Lib.hid hb7;have HK07:=Lib.hid k07;have HFL:=Lib.hid hfl;clear ho7 hb7 k67 k06 k07 hbp7 hel hw7 hfl;go_wp2_with fail
     go_meet
     case rel =>
      have ho9:=own_last5 (.int .i64 pk) (.string ⟨pl.toArray⟩) (.string ⟨pr.toArray⟩) (.int .i64 pc) (.slice pa pn pcc) HFL.out HO7.out;obtain ⟨w9,hw9⟩:∃ y,(((((w7.setCell ⟨g',nq*5,none⟩ (.int .i64 pk)).setCell ⟨g',nq*5+1,none⟩ (.string ⟨pl.toArray⟩)).setCell ⟨g',nq*5+2,none⟩ (.string ⟨pr.toArray⟩)).setCell ⟨g',nq*5+3,none⟩ (.int .i64 pc)).setCell ⟨g',nq*5+4,none⟩ (.slice pa pn pcc))=y:=⟨_,rfl⟩;rw [hw9] at ho9 ⊢;have k79:Kept [g'] w7 w9:=hw9▸((((((Kept.refl _ _).setCell (Or.inl (by simp)) _).setCell (Or.inl (by simp)) _).setCell (Or.inl (by simp)) _).setCell (Or.inl (by simp)) _).setCell (Or.inl (by simp)) _);have hg6:g'∈obl (.slice (some ⟨g',0,none⟩) (nq+1) c'):=obl_some rfl;have hge:B5≤g':=(own_ge ho9 g' hg6).1
      have kf:Kept (gc::obl (.slice qa nq qc)) wc w9:=HK07.out.then_ k79 (fun z hz hm=>by
       rw [List.mem_singleton] at hm;subst hm
       rcases HL6.out z hg6 with h|h
       ·exact List.mem_cons_of_mem _ h
       ·rw [World.size_alloc] at h;omega)
      refine ⟨kf,_,_,HFIN.out w9 _ _ kf (fun k hk=>?_) (HB77.out.kept k79 (fun hm=>by rw [List.mem_singleton] at hm;have:=HC6.out.low.1;omega)) ho9⟩
      rcases HL6.out k hk with h|h
      ·exact Or.inl h
      ·rw [World.size_alloc] at h;exact Or.inr (by omega)
    | false =>
     have s0:∀ w',Kept (obl (.slice qa nq qc)) wc w'→w'.cell? ⟨gc,0,none⟩=some (.slice qa nq qc):=fun w' k=>(HC6.out.blk.kept k ngq).cell 0
     have nbp:bp∉obl (.slice qa nq qc):=fun hm=>by have:=HQB.out _ hm;omega
     have p0:∀ w',Kept (obl (.slice qa nq qc)) wc w'→w'.cell? ⟨bp,0,none⟩=some (.int .i64 pk):=fun w' k=>(HB6.out.kept k nbp).cell 0;have p1:∀ w',Kept (obl (.slice qa nq qc)) wc w'→w'.cell? ⟨bp,1,none⟩=some (.string ⟨pl.toArray⟩):=fun w' k=>(HB6.out.kept k nbp).cell 1;have p2:∀ w',Kept (obl (.slice qa nq qc)) wc w'→w'.cell? ⟨bp,2,none⟩=some (.string ⟨pr.toArray⟩):=fun w' k=>(HB6.out.kept k nbp).cell 2;have p3:∀ w',Kept (obl (.slice qa nq qc)) wc w'→w'.cell? ⟨bp,3,none⟩=some (.int .i64 pc):=fun w' k=>(HB6.out.kept k nbp).cell 3;have p4:∀ w',Kept (obl (.slice qa nq qc)) wc w'→w'.cell? ⟨bp,4,none⟩=some (.slice pa pn pcc):=fun w' k=>(HB6.out.kept k nbp).cell 4;clear m0;go_upto_region 9 with (fail);refine wp_region_T [10] (fun w'=>Kept (obl (.slice qa nq qc)) wc w') (by kernel_rfl) (Kept.refl _ _).drew (fun hH=>?_);obtain ⟨w8,hw8⟩:∃ y,wc.drew=y:=⟨_,rfl⟩;have ho8:w8.ownsRow B5 46 5 (.slice qa nq qc) nq vs.flatten:=hw8▸own_keep HOWN.out (S:=[]) (Kept.refl [] wc).drew (by simp);have hb8:Blk w8 gc 67 #[.slice qa nq qc,vm,vu]:=hw8▸HC6.out.blk.drew;have hs8:B5≤w8.heap.size:=hw8▸hbase;have hz8:wc.heap.size≤w8.heap.size:=hw8▸Nat.le_refl _;rw [hw8] at hH ⊢;clear hw8;refine takeT [10] (i:=0) (v:=?tv0q) rfl (by kernel_rfl) (by kernel_rfl) (by kernel_rfl) (by kernel_rfl) (fun _ _ _ h=>h) (Or.inl ⟨by rfl,?ty0q⟩) hH ?tr0q
     case ty0q=>intro w' hSw;(try dsimp only at hSw);go_simp;first|done|with_reducible rfl
     (try simp only [Act.put,List.setIfInBounds_toArray,List.set_cons_zero,List.set_cons_succ])
     refine takeT [10] (i:=1) (v:=?tv1q) rfl (by kernel_rfl) (by kernel_rfl) (by kernel_rfl) (by kernel_rfl) (fun _ _ _ h=>h) (Or.inl ⟨by rfl,?ty1q⟩) hH ?tr1q
     case ty1q=>intro w' hSw;(try dsimp only at hSw);go_simp;first|done|with_reducible rfl
     (try simp only [Act.put,List.setIfInBounds_toArray,List.set_cons_zero,List.set_cons_succ])
     refine takeT [10] (i:=2) (v:=?tv2q) rfl (by kernel_rfl) (by kernel_rfl) (by kernel_rfl) (by kernel_rfl) (fun _ _ _ h=>h) (Or.inl ⟨by rfl,?ty2q⟩) hH ?tr2q
     case ty2q=>intro w' hSw;(try dsimp only at hSw);go_simp;first|done|with_reducible rfl
     (try simp only [Act.put,List.setIfInBounds_toArray,List.set_cons_zero,List.set_cons_succ])
     refine takeT [10] (i:=3) (v:=?tv3q) rfl (by kernel_rfl) (by kernel_rfl) (by kernel_rfl) (by kernel_rfl) (fun _ _ _ h=>h) (Or.inl ⟨by rfl,?ty3q⟩) hH ?tr3q
     case ty3q=>intro w' hSw;(try dsimp only at hSw);go_simp;first|done|with_reducible rfl
     (try simp only [Act.put,List.setIfInBounds_toArray,List.set_cons_zero,List.set_cons_succ])
     refine takeT [10] (i:=4) (v:=?tv4q) rfl (by kernel_rfl) (by kernel_rfl) (by kernel_rfl) (by kernel_rfl) (fun _ _ _ h=>h) (Or.inl ⟨by rfl,?ty4q⟩) hH ?tr4q
     case ty4q=>intro w' hSw;(try dsimp only at hSw);go_simp;first|done|with_reducible rfl
     (try simp only [Act.put,List.setIfInBounds_toArray,List.set_cons_zero,List.set_cons_succ])
     refine takeT [10] (i:=5) (v:=?tv5q) rfl (by kernel_rfl) (by kernel_rfl) (by kernel_rfl) (by kernel_rfl) (fun _ _ _ h=>h) (Or.inl ⟨by rfl,?ty5q⟩) hH ?tr5q
     case ty5q=>intro w' hSw;(try dsimp only at hSw);go_simp;first|done|with_reducible rfl
     (try simp only [Act.put,List.setIfInBounds_toArray,List.set_cons_zero,List.set_cons_succ])
     refine wpAnyT_ready (rs:=[6]) (by kernel_rfl) (by simp) ?_;refine AllReadyT.cons rfl (fun K hK=>?_) AllReadyT.nil;go_simp;refine hK.out _ _ (hH.alloc _) (fun hH=>?_);clear hK K
     (try simp only [Act.put,List.setIfInBounds_toArray,List.set_cons_zero,List.set_cons_succ])
     refine wpAnyT_ready (rs:=[7]) (by kernel_rfl) (by simp) ?_;refine AllReadyT.cons rfl (fun K hK=>?_) AllReadyT.nil;refine step_append_row rfl 42 rfl _ _ 44 rfl B5 46 i0 _ 5 72 Tryz.underlying44 hi hz0 hz1 hz2 rfl (by decide) (.slice qa nq qc) nq vs.flatten rfl (own_keep ho8 (S:=[]) ((Kept.refl [] w8).alloc _) (by simp)) _ 1 [.int .i64 pk,.string ⟨pl.toArray⟩,.string ⟨pr.toArray⟩,.int .i64 pc,.slice pa pn pcc] rfl (row_of_blk (cs:=[.int .i64 pk,.string ⟨pl.toArray⟩,.string ⟨pr.toArray⟩,.int .i64 pc,.slice pa pn pcc]) (Blk.new _ _ _) rfl (by decide)) (by simp [Value.oneCell']) (by unfold maxLen;omega) (by omega) (by rw [World.size_alloc];omega) ?_;intro a' c' w6 hown6 hk6 hl6;have hb6:=(hb8.alloc (.cells #[.int .i64 pk,.string ⟨pl.toArray⟩,.string ⟨pr.toArray⟩,.int .i64 pc,.slice pa pn pcc] 46)).kept hk6 ngq;have m6:w6.cell? ⟨gc,0,none⟩=some (.slice qa nq qc):=hb6.cell 0;have f6:=hb6.frozen 0;have hS6:Kept (obl (.slice qa nq qc)) wc w6:=hH.trans hk6;refine hK.out _ _ hS6 (fun hH=>?_);clear hK K
     (try simp only [Act.put,List.setIfInBounds_toArray,List.set_cons_zero,List.set_cons_succ])
     refine takeT [9,10] (i:=8) (v:=?tv8r) rfl (by kernel_rfl) (by kernel_rfl) (by kernel_rfl) (by kernel_rfl) (fun _ _ _ h=>h) (Or.inl ⟨by rfl,?ty8r⟩) hH ?tr8r
     case ty8r=>intro w' hSw;(try dsimp only at hSw);go_simp;first|done|with_reducible rfl
     (try simp only [Act.put,List.setIfInBounds_toArray,List.set_cons_zero,List.set_cons_succ])
     refine takeT [10] (i:=9) (v:=?tv9r) rfl (by kernel_rfl) (by kernel_rfl) (by kernel_rfl) (by kernel_rfl) (fun _ _ _ h=>h) (Or.inl ⟨by rfl,?ty9r⟩) hH ?tr9r
     case ty9r=>intro w' hSw;(try dsimp only at hSw);go_simp;first|done|with_reducible rfl
     (try simp only [Act.put,List.setIfInBounds_toArray,List.set_cons_zero,List.set_cons_succ])
     refine wpAnyT_ready (rs:=[10]) (by kernel_rfl) (by simp) ?_;refine AllReadyT.last rfl (by kernel_rfl) (fun K hK=>?_);go_simp;refine hK.out _ _ ?_;clear hK K
     (try simp only [Act.put,List.setIfInBounds_toArray,List.set_cons_zero,List.set_cons_succ])
     refine wpAnyT_done (by kernel_rfl) ?_ _;go_wp2_with fail
     go_meet
     case rel =>
      obtain ⟨w9,hw9⟩:∃ y,w6.setCell ⟨gc,0,none⟩ (.slice a' (nq+1) c')=y:=⟨_,rfl⟩;rw [hw9];have k69:Kept [gc] w6 w9:=hw9▸(Kept.refl _ _).setCell (Or.inl (by simp)) _;have kf:Kept (gc::obl (.slice qa nq qc)) wc w9:=(hS6.mono (fun _ _ h=>List.mem_cons_of_mem _ h)).trans (k69.mono (fun _ _ h=>by rw [List.mem_singleton] at h;rw [h];exact List.mem_cons_self));refine ⟨kf,_,_,HFIN.out w9 _ _ kf (fun k hk=>?_) (hw9▸hb6.set_ 0 _) (own_keep hown6 k69 (fun z hz hm=>by rw [List.mem_singleton] at hm;have:=(own_ge hown6 z hz).1;have:=HC6.out.low.1;omega))⟩
      rcases hl6 k hk with h|h
      ·exact Or.inl h
      ·rw [World.size_alloc] at h;exact Or.inr (by omega)
   case rest =>
   obtain ⟨kr,qa',qc',hCr⟩:=hcut;have m9:wc.cell? ⟨gc,0,none⟩=some (.slice qa' (nq+1) qc'):=hCr.blk.cell 0;have HCR:=Lib.hid hCr;have HKR:=Lib.hid ((HK6.out.mono (fun _ _ h=>by simp at h)).trans kr)
   have hw1:IntKind.i64.wrap ((nq:Int)+1 - 1)=(nq:Int):=by rw [IntWalk.i64_left];unfold wrap64;omega
   clear hCr kr;go_wp2_with fail
   go_ret2
   exact ⟨HKR.out,rfl,_,HCR.out⟩
end Go.Proofs.YtpcmamoomaddoaaGreatDoor
/- The number of keys of a map. -/
namespace Go.Proofs.YtpcmamoomaddoaaGreatDoor
open Go.Maps Go.RowKit
section
variable {P:Program} {kt:TypeId} {α:Type} {E:KeyEnc P kt α} {w:World} {b n:Nat} {f:α→Option Value}
theorem keys_list (es:List (Lit × DV)) (h:∀ p∈es,∃ x,E.ok x∧p.1=E.kl x):∃ xs:List α,xs.map E.kl=es.map Prod.fst∧∀ x∈xs,E.ok x:=by
 induction es with
 | nil=>exact ⟨[],rfl,by simp⟩
 | cons p es ih =>
  obtain ⟨xs,h1,h2⟩:=ih fun q hq=>h q (by simp [hq]);obtain ⟨x,h3,h4⟩:=h p (by simp);exact ⟨x::xs,by rw [List.map_cons,List.map_cons,h1,h4],fun y hy=>by rcases List.mem_cons.1 hy with rfl|hy;exact h3;exact h2 y hy⟩
theorem MapAt.size_eq (h:MapAt E w b n f) {L:List α} (hn:L.Nodup) (hok:∀ x∈L,E.ok x) (hL:∀ x,E.ok x→((f x).isSome=true↔x∈L)):∃ D:DV,w.ownsMap P kt rawV b n D∧Maps.size D=L.length:=by
 obtain ⟨D,h1,h2⟩:=h;refine ⟨D,h1,?_⟩;obtain ⟨es,hD,hpw,_⟩:=h1.entries E.keyed;obtain ⟨es',hD',hko⟩:=h1.keysOf
 obtain rfl:es=es':=by rw [hD] at hD';simpa using hD'
 subst hD
 have hk:∀ p∈es,∃ x,E.ok x∧p.1=E.kl x:=fun p hp=>by
  obtain ⟨v,hv⟩:=hko p hp;obtain ⟨x,hx,_,e⟩:=E.inv hv;exact ⟨x,hx,e⟩
 obtain ⟨xs,e1,hxo⟩:=keys_list es hk
 have hxn:xs.Nodup:=by
  have:(xs.map E.kl).Pairwise (·≠·):=by rw [e1];exact List.pairwise_map.2 hpw
  exact (List.pairwise_map.1 this).imp fun h e=>h (by rw [e])
 have hmem:∀ x,E.ok x→(x∈xs↔has (DataW.map es) (E.kl x)=true):=fun x hx=>by
  rw [has_eq,List.any_eq_true]
  constructor
  ·intro hm;have:E.kl x∈es.map Prod.fst:=e1▸List.mem_map.2 ⟨x,hm,rfl⟩;obtain ⟨p,hp,e⟩:=List.mem_map.1 this;exact ⟨p,hp,by rw [e];exact WideAt.sameKey_self (E.lit hx)⟩
  ·rintro ⟨p,hp,hs⟩;have:p.1∈xs.map E.kl:=e1▸List.mem_map.2 ⟨p,hp,rfl⟩;obtain ⟨y,hy,e⟩:=List.mem_map.1 this
   by_cases e2:y=x
   ·exact e2▸hy
   ·rw [←e,E.same (hxo y hy) hx e2] at hs
    cases hs
 have hp:L.Perm xs:=(List.perm_ext_iff_of_nodup hn hxn).2 fun x=>by
  constructor
  ·intro hx;have hx':=hok x hx;have h3:=(hL x hx').2 hx;have h4:=h2 x hx'
   cases hf:f x with
   | none=>rw [hf] at h3;cases h3
   | some v=>rw [hf] at h4;exact (hmem x hx').2 (has_true_of_atKey h4)
  ·intro hx;have hx':=hxo x hx;have h4:=h2 x hx';refine (hL x hx').1 ?_
   cases hf:f x with
   | none =>
    rw [hf] at h4;have h5:has (DataW.map es) (E.kl x)=false:=h4;rw [(hmem x hx').1 hx] at h5
    cases h5
   | some v=>rfl
 rw [hp.length_eq,←List.length_map (f:=E.kl),e1,List.length_map]
 rfl
end
end Go.Proofs.YtpcmamoomaddoaaGreatDoor
namespace Go.Proofs.YtpcmamoomaddoaaGreatDoor
open Go.RowKit Go.Maps
def valV (l:List Bnd):Bs→Option Value:=fun s=>(valOf l s).map (Value.int .i64)
def upd (F:Int→Option Cz) (n:Int) (c:Cz):Int→Option Cz:=fun x=>if x=n then some c else F x
theorem upd_upd (F:Int→Option Cz) (n:Int) (c d:Cz):upd (upd F n c) n d=upd F n d:=by
 funext x
 unfold upd
 by_cases e:x=n <;> simp [e]
theorem upd_same {F:Int→Option Cz} {n:Int} {c:Cz} (h:F n=some c):upd F n c=F:=by
 funext x
 unfold upd
 by_cases e:x=n
 ·rw [if_pos e,e,h]
 ·rw [if_neg e]
theorem upd_set (P:List Cz) (c:Cz):upd (findC P) c.num c=findC (setC P c):=by
 funext x
 rw [findC_set]
 rfl
theorem MapAt.ne_blk {P:Program} {kt:TypeId} {α:Type} {E:KeyEnc P kt α} {w:World} {b n:Nat} {f:α→Option Value} {g:Nat} {T:TypeId} {cs:Array Value} (h:MapAt E w b n f) (k:Blk w g T cs):b≠g:=by
 rintro rfl;obtain ⟨D,⟨es,clock,hb,_⟩,_⟩:=h
 unfold Blk at k
 rw [k] at hb
 cases hb
structure Cit (B:Nat) (w:World) (g bv bt N K:Nat) (V T:Int→Nat) (F:Int→Option Cz):Prop where
 blk:Blk w g 97 #[.map (some bv),.map (some bt)]
 mv:MapAt intEnc w bv N fun x=>(F x).map fun _=>.map (some (V x))
 mt:MapAt intEnc w bt N fun x=>(F x).map fun _=>.slice (some ⟨T x,0,none⟩) K K
 own:∀ x c,F x=some c→MapAt strEnc w (V x) N (valV c.vals)
 tick:∀ x c,F x=some c→Blk w (T x) 3 (ints c.tick).toArray∧c.tick.length=K
 low:B≤g∧B≤bv∧B≤bt∧bv≠bt
 lowc:∀ x c,F x=some c→B≤V x∧V x≠bv∧V x≠bt∧B≤T x∧T x≠g
 inj:∀ x y c d,F x=some c→F y=some d→(V x=V y→x=y)∧(T x=T y→x=y)
section
variable {B:Nat} {w w':World} {g bv bt N N' K:Nat} {V T:Int→Nat} {F:Int→Option Cz} {n:Int} {c:Cz}
theorem Cit.kept (h:Cit B w g bv bt N K V T F) (k:Kept [] w w'):Cit B w' g bv bt N K V T F :=
 ⟨h.blk.kept k (by simp),h.mv.kept k (by simp),h.mt.kept k (by simp),fun x c hx=>(h.own x c hx).kept k (by simp),fun x c hx=>⟨(h.tick x c hx).1.kept k (by simp),(h.tick x c hx).2⟩,h.low,h.lowc,h.inj⟩
theorem Cit.mono (h:Cit B w g bv bt N K V T F) (hN:N≤N'):Cit B w g bv bt N' K V T F :=
 ⟨h.blk,h.mv.mono hN,h.mt.mono hN,fun x c hx=>(h.own x c hx).mono hN,h.tick,h.low,h.lowc,h.inj⟩
theorem upd_map {β:Type} {F:Int→Option Cz} {n:Int} {c d:Cz} (hn:F n=some c) (f:Int→β) (x:Int):(upd F n d x).map (fun _=>f x)=(F x).map fun _=>f x:=by
 unfold upd
 by_cases e:x=n
 ·subst e;rw [if_pos rfl,hn];rfl
 ·rw [if_neg e]
theorem upd_some {F:Int→Option Cz} {n x:Int} {c d:Cz} (h:upd F n c x=some d):(x=n∧d=c)∨(x≠n∧F x=some d):=by
 unfold upd at h
 by_cases e:x=n
 ·rw [if_pos e] at h;injection h with h;exact Or.inl ⟨e,h.symm⟩
 ·rw [if_neg e] at h;exact Or.inr ⟨e,h⟩
/-- facts about whom there is do not ask what they have -/
theorem upd_old {F:Int→Option Cz} {n x:Int} {c d e:Cz} (hn:F n=some e) (h:upd F n c x=some d):∃ d',F x=some d':=by
 rcases upd_some h with ⟨rfl,_⟩|⟨_,h⟩
 ·exact ⟨e,hn⟩
 ·exact ⟨d,h⟩
theorem Cit.put (h:Cit B w g bv bt N K V T F) (hn:F n=some c) (k:Kept [V n] w w') {vals:List Bnd} (hm:MapAt strEnc w' (V n) N' (valV vals)) (hN:N≤N'):Cit B w' g bv bt N' K V T (upd F n ⟨c.num,vals,c.tick⟩):=by
 have hc:=h.lowc n c hn
 have ne:∀ (x:Int) d,F x=some d→T x∉[V n]:=fun x d hx hm=>by
  rw [List.mem_singleton] at hm;exact (h.own n c hn).ne_blk (h.tick x d hx).1 hm.symm
 refine ⟨h.blk.kept k ?_,((h.mv.kept k ?_).mono hN).congr fun x _=>upd_map hn (fun x=>Value.map (some (V x))) x,((h.mt.kept k ?_).mono hN).congr fun x _=>upd_map hn (fun x=>Value.slice (some ⟨T x,0,none⟩) K K) x,fun x d hx=>?_,fun x d hx=>?_,h.low,fun x d hx=>?_,fun x y d e hx hy=>?_⟩
 ·simpa using Ne.symm ((h.own n c hn).ne_blk h.blk)
 ·simpa using Ne.symm hc.2.1
 ·simpa using Ne.symm hc.2.2.1
 ·rcases upd_some hx with ⟨rfl,rfl⟩|⟨h1,h2⟩
  ·exact hm
  ·exact ((h.own x d h2).kept k (by simpa using fun e=>h1 ((h.inj x n d c h2 hn).1 e))).mono hN
 ·rcases upd_some hx with ⟨rfl,rfl⟩|⟨h1,h2⟩
  ·exact ⟨(h.tick x c hn).1.kept k (ne x c hn),(h.tick x c hn).2⟩
  ·exact ⟨(h.tick x d h2).1.kept k (ne x d h2),(h.tick x d h2).2⟩
 ·obtain ⟨d',h1⟩:=upd_old hn hx;exact h.lowc x d' h1
 ·obtain ⟨d',h1⟩:=upd_old hn hx;obtain ⟨e',h2⟩:=upd_old hn hy;exact h.inj x y d' e' h1 h2
theorem Cit.ticked (h:Cit B w g bv bt N K V T F) (hn:F n=some c) (k:Kept [T n] w w') {t:List Int} (hb:Blk w' (T n) 3 (ints t).toArray) (hl:t.length=K):Cit B w' g bv bt N K V T (upd F n ⟨c.num,c.vals,t⟩):=by
 have hc:=h.lowc n c hn;have hT:=(h.tick n c hn).1;refine ⟨h.blk.kept k ?_,(h.mv.kept k ?_).congr fun x _=>upd_map hn (fun x=>Value.map (some (V x))) x,(h.mt.kept k ?_).congr fun x _=>upd_map hn (fun x=>Value.slice (some ⟨T x,0,none⟩) K K) x,fun x d hx=>?_,fun x d hx=>?_,h.low,fun x d hx=>?_,fun x y d e hx hy=>?_⟩
 ·simpa using Ne.symm hc.2.2.2.2
 ·simpa using h.mv.ne_blk hT
 ·simpa using h.mt.ne_blk hT
 ·rcases upd_some hx with ⟨rfl,rfl⟩|⟨h1,h2⟩
  ·exact (h.own x c hn).kept k (by simpa using (h.own x c hn).ne_blk hT)
  ·exact (h.own x d h2).kept k (by simpa using (h.own x d h2).ne_blk hT)
 ·rcases upd_some hx with ⟨rfl,rfl⟩|⟨h1,h2⟩
  ·exact ⟨hb,hl⟩
  ·exact ⟨(h.tick x d h2).1.kept k (by simpa using fun e=>h1 ((h.inj x n d c h2 hn).2 e)),(h.tick x d h2).2⟩
 ·obtain ⟨d',h1⟩:=upd_old hn hx;exact h.lowc x d' h1
 ·obtain ⟨d',h1⟩:=upd_old hn hx;obtain ⟨e',h2⟩:=upd_old hn hy;exact h.inj x y d' e' h1 h2
theorem Cit.new (h:Cit B w g bv bt N K V T F) (hB:B≤w.heap.size) (k:Kept [bv,bt] w w') {v t:Nat} (hv:w.heap.size≤v) (ht:w.heap.size≤t)
  (h1:MapAt intEnc w' bv N' fun y=>if y=n then some (.map (some v)) else (F y).map fun _=>.map (some (V y)))
  (h2:MapAt intEnc w' bt N' fun y=>if y=n then some (.slice (some ⟨t,0,none⟩) K K) else (F y).map fun _=>.slice (some ⟨T y,0,none⟩) K K)
  (h3:MapAt strEnc w' v N' (fun _=>none)) (h4:Blk w' t 3 (ints (List.replicate K 0)).toArray) (hN:N≤N') :
  Cit B w' g bv bt N' K (fun x=>if x=n then v else V x) (fun x=>if x=n then t else T x) (upd F n ⟨n,[],List.replicate K 0⟩):=by
 have lt:∀ x d,F x=some d→V x < w.heap.size∧T x < w.heap.size:=fun x d hx=>⟨(h.own x d hx).lt,(h.tick x d hx).1.lt⟩
 have l1:=h.mv.lt;have l2:=h.mt.lt;have l3:=h.blk.lt
 have ng:g∉[bv,bt]:=by
  have e1:=h.mv.ne_blk h.blk;have e2:=h.mt.ne_blk h.blk;simp only [List.mem_cons,List.not_mem_nil,or_false,not_or];exact ⟨Ne.symm e1,Ne.symm e2⟩
 have old:∀ {x d},upd F n ⟨n,[],List.replicate K 0⟩ x=some d→x≠n→F x=some d:=fun hx hne=>by
  rcases upd_some hx with ⟨e,_⟩|⟨_,h⟩
  ·exact absurd e hne
  ·exact h
 refine ⟨h.blk.kept k ng,h1.congr fun x _=>?_,h2.congr fun x _=>?_,fun x d hx=>?_,fun x d hx=>?_,h.low,fun x d hx=>?_,fun x y d e hx hy=>?_⟩
 ·unfold upd;by_cases e:x=n <;> simp [e]
 ·unfold upd;by_cases e:x=n <;> simp [e]
 ·by_cases e:x=n
  ·rcases upd_some hx with ⟨_,rfl⟩|⟨h,_⟩
   ·rw [if_pos e];exact h3.congr fun y _=>rfl
   ·exact absurd e h
  ·rw [if_neg e];have hx':=old hx e;have:=h.lowc x d hx';exact ((h.own x d hx').kept k (by simp only [List.mem_cons,List.not_mem_nil,or_false,not_or];exact ⟨this.2.1,this.2.2.1⟩)).mono hN
 ·by_cases e:x=n
  ·rcases upd_some hx with ⟨_,rfl⟩|⟨h,_⟩
   ·rw [if_pos e];exact ⟨h4,by simp⟩
   ·exact absurd e h
  ·rw [if_neg e];have hx':=old hx e;have ht:=h.tick x d hx';have e1:=h.mv.ne_blk ht.1;have e2:=h.mt.ne_blk ht.1;exact ⟨ht.1.kept k (by simp only [List.mem_cons,List.not_mem_nil,or_false,not_or];exact ⟨Ne.symm e1,Ne.symm e2⟩),ht.2⟩
 ·by_cases e:x=n
  ·rw [if_pos e,if_pos e];exact ⟨by omega,by omega,by omega,by omega,by omega⟩
  ·rw [if_neg e,if_neg e];exact h.lowc x d (old hx e)
 ·by_cases e1:x=n
  ·by_cases e2:y=n
   ·exact ⟨fun _=>by rw [e1,e2],fun _=>by rw [e1,e2]⟩
   ·have:=lt y e (old hy e2);rw [if_pos e1,if_neg e2,if_pos e1,if_neg e2];exact ⟨fun h=>by omega,fun h=>by omega⟩
  ·by_cases e2:y=n
   ·have:=lt x d (old hx e1);rw [if_neg e1,if_pos e2,if_neg e1,if_pos e2];exact ⟨fun h=>by omega,fun h=>by omega⟩
   ·rw [if_neg e1,if_neg e2,if_neg e1,if_neg e2];exact h.inj x y d e (old hx e1) (old hy e2)
end
end Go.Proofs.YtpcmamoomaddoaaGreatDoor
