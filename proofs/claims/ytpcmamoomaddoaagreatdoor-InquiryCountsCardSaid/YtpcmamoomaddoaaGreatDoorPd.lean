/- Predicates in memory; most. -/
import Derived.Test.YtpcmamoomaddoaaGreatDoorPs4
/- JOINED: Ps5 Pd -/
/- The parser's sum. -/
namespace Go.Proofs.YtpcmamoomaddoaaGreatDoor
open Go.RowKit
theorem Ps.setNew {B:Nat} {W0:World} {rb:Nat} {ts:List Tok} {a:Option Addr} {c:Nat} {z:Int} {w:World} {i:Nat} (h:Ps B W0 rb ts a c z w i) {p:Addr} (hp:rb < p.block) (u:Value) :
  Ps B W0 rb ts a c z (w.setCell p u) i :=
 ⟨h.env,h.kept.setCell (Or.inr (by have:=h.lo;omega)) _,h.lo,h.row,h.blk.far (by omega) _,h.small,h.ok,h.le⟩
theorem numberP_le {ts:List Tok} (ok:∀ t∈ts,t.text.length≤100000∧0≤t.n∧t.n≤1099511627776) {i j:Nat} {n:Int} (h:numberP ts i=.ok (n,j)):0≤n∧n≤1099511627776:=by
 unfold numberP at h
 split at h
 ·cases h
 ·next t ht =>
  split at h
  ·injection h with h;injection h with h _;exact h▸(ok t (List.mem_of_getElem? ht)).2
  ·cases h
theorem nameP_le {ts:List Tok} {i j:Nat} {s:Bs} (h:nameP ts i=.ok (s,j)):s.length≤20:=by
 have:=nameP_free h
 unfold freeB nameB at this
 simp only [Bool.and_eq_true,decide_eq_true_eq] at this;exact this.1.1.2
def SmI (s:Sm):Prop:=-1099511627776≤s.off∧s.off≤1099511627776
def SumE (B:Nat) (W0:World) (rb:Nat) (ts:List Tok) (a:Option Addr) (c:Nat) (z:Int) (w:World) (r:Res Sm) (e:Ending) (w':World):Prop :=
 match r with
 | .error k=>Fails [rb] w k e w'
 | .ok (s,j)=>e=.returned (.agg #[.string ⟨s.name.toArray⟩,.int .i64 s.off])∧Kept [rb] w w'∧Ps B W0 rb ts a c z w' j∧SmI s∧s.name.length≤41
theorem sum_end {w2:World} {tmps:Array Value} {v0 v1 X:Value} {b:Nat} {R:Ending→World→Prop} (hb:Blk w2 b 252 #[v0,v1]) (h2:tmps[2]?.getD undef=.pointer (some ⟨b,0,none⟩))
  (hX:.agg #[v0,v1]=X) (hR:R (.returned X) w2) :
  bodyPost Tryz.prog Tryz.f197 R Exit.ret { tmps:=tmps,defers:=[] } w2:=by
 subst hX;have c0:w2.cell? ⟨b,0,none⟩=some v0:=hb.cell 0;have c1:w2.cell? ⟨b,1,none⟩=some v1:=hb.cell 1;refine bodyPost_ret (v:=.agg #[v0,v1]) ?_ rfl hR;simp only [results,Tryz.results197]
 simp [go_sem,h2,c0,c1]
set_option maxRecDepth 100000 in
set_option maxHeartbeats 8000000 in
theorem sum_any {B:Nat} {W0:World} {rb:Nat} {ts:List Tok} {a:Option Addr} {c:Nat} {z:Int} {w:World} {i:Nat} (h:Ps B W0 rb ts a c z w i) :
  Calls Tryz.prog 197 #[.pointer (some ⟨rb,0,none⟩)] w (SumE B W0 rb ts a c z w (sumP ts i)):=by
 obtain ⟨b,hbe⟩:∃ b,w.heap.size=b:=⟨_,rfl⟩;obtain ⟨W,hW⟩:∃ W,w.alloc (.cells #[.string ⟨#[]⟩,.int .i64 0] 252)=W:=⟨_,rfl⟩;have hB:Blk W b 252 #[.string ⟨#[]⟩,.int .i64 0]:=hbe▸hW▸Blk.new _ _ _;have hkW:Kept [] w W:=hW▸(Kept.refl _ _).alloc _;have hw:Ps B W0 rb ts a c z W i:=h.step hkW;have hrb:rb < b:=hbe▸h.blk.lt;have HLO:Hid (w.heap.size≤b):=Lib.hid (by omega);have HLO2:=Lib.hid hrb;have HNE:Hid (b≠rb):=Lib.hid (by omega);have HB:=Lib.hid hB;have HK:Hid (Kept [rb] w W):=Lib.hid (hkW.mono (by simp));have HW:=Lib.hid hW;have HS:=Lib.hid (skip_any hw [45]);obtain ⟨R,hR⟩:∃ R,sumP ts i=R:=⟨_,rfl⟩;have hR2:=hR;rw [sumP] at hR2;rw [hR];clear hW hB hkW h hrb hR;subst hbe
 go_enter Tryz.func197,Tryz.ntmps197
 go_upto_region 1 with (fail);have hW':=HW.out;rw [hW'];clear hW';obtain ⟨b,hbe⟩:∃ b,w.heap.size=b:=⟨_,rfl⟩;rw [hbe] at HLO2 HNE HB;rw [hbe];clear HLO;have HLO:=Lib.hid (Nat.le_of_eq hbe)
 cases hb:skipP ts [45] i
 ·rw [hb] at HS hR2;rw [if_neg (by simp)] at hR2;go_upto_region 3 with (go_at_call 115;refine (HS.out).mono ?_;rintro e w5 ⟨rfl,k9,h5⟩);have h5:Ps B W0 rb ts a c z w5 i:=h5;replace HK:=Lib.hid (HK.out.trans k9);replace HB:=Lib.hid (HB.out.kept k9 (by simpa using HNE.out));clear k9;have HPK:=Lib.hid (peek_any h5)
  cases ht:ts[i]? with
  | none =>
   rw [ht] at HPK
   have hnn:isNum ts i=false:=by unfold isNum;rw [ht]
   have hnm:nameP ts i=.error 12:=by unfold nameP;rw [ht]
   rw [hnn,if_neg (by simp),hnm] at hR2;simp only [bnd] at hR2;subst hR2;clear ht;go_upto_region 6 with (go_at_call 116;refine HPK.out.mono ?_;unfold peekV;rintro e w6 ⟨rfl,k9⟩);obtain ⟨wA,hwA⟩:∃ x,w6.alloc (.cells #[.int .i64 0,.string ⟨#[]⟩,.int .i64 0,.int .i64 0] 170)=x:=⟨_,rfl⟩;rw [hwA];have k9:Kept [] w5 wA:=hwA▸k9.alloc _;have h6:=h5.step k9;have HNM:=Lib.hid (pname_any h6);rw [hnm] at HNM;replace HK:=Lib.hid (HK.out.trans (k9.mono (by simp)));clear k9 hwA hnm hnn;go_wp2_with (go_at_call 70;refine HNM.out.mono ?_;unfold NameE;rintro e w9 ⟨⟨p,rfl⟩,k9⟩);exact ⟨rfl,⟨p,rfl⟩,HK.out.trans k9⟩
  | some t =>
   rw [ht] at HPK
   have hnn:isNum ts i=(t.kind==1):=by unfold isNum;rw [ht]
   rw [hnn] at hR2;clear hnn ht;go_upto_region 4 with (go_at_call 116;refine HPK.out.mono ?_;unfold peekV;rintro e w6 ⟨rfl,k9⟩);obtain ⟨wA,hwA⟩:∃ x,w6.alloc (.cells #[.int .i64 t.kind,.string ⟨t.text.toArray⟩,.int .i64 t.n,.int .i64 t.pos] 170)=x:=⟨_,rfl⟩;rw [hwA];have hBA:Blk wA w6.heap.size 170 #[.int .i64 t.kind,.string ⟨t.text.toArray⟩,.int .i64 t.n,.int .i64 t.pos]:=hwA▸Blk.new _ _ _;have a0:wA.cell? ⟨w6.heap.size,0,none⟩=some (.int .i64 t.kind):=hBA.cell 0;have k9:Kept [] w5 wA:=hwA▸k9.alloc _;have h6:=h5.step k9;replace HK:=Lib.hid (HK.out.trans (k9.mono (by simp)));replace HB:=Lib.hid (HB.out.kept k9 (by simp));clear k9 hwA hBA HPK;obtain ⟨kd,hkd⟩:∃ k,t.kind=k:=⟨_,rfl⟩;rw [hkd] at a0 hR2 ⊢;clear hkd
   by_cases h1:kd=1
   ·have b1:(kd==1)=true:=by simp [h1]
    rw [b1,if_pos rfl] at hR2;clear h1;have HNU:=Lib.hid (pnum_any h6)
    cases hnu:numberP ts (i) with
    | error k =>
     rw [hnu] at HNU hR2;simp only [bnd] at hR2;subst hR2;go_wp2_with (go_at_call 233;refine HNU.out.mono ?_;unfold NumE;rintro e w9 ⟨⟨p,rfl⟩,k9⟩);exact ⟨rfl,⟨p,rfl⟩,HK.out.trans k9⟩
    | ok y =>
     obtain ⟨n,j⟩:=y;have hnb:=numberP_le h6.ok hnu;rw [hnu] at HNU hR2;simp only [bnd] at hR2;subst hR2;go_wp2_with (go_at_call 233;refine HNU.out.mono ?_;unfold NumE;rintro e w9 ⟨rfl,k9,h9⟩;replace HK:=Lib.hid (HK.out.trans k9);replace HB:=Lib.hid (HB.out.kept k9 (by simpa using HNE.out));have z0:w9.cell? ⟨b,0,none⟩=some (.string ⟨#[]⟩):=HB.out.cell 0;have z1:w9.cell? ⟨b,1,none⟩=some (.int .i64 0):=HB.out.cell 1;have y0:=HB.out.frozen 0;have y1:=HB.out.frozen 1;clear k9);exact sum_end ((HB.out.set_ 0 _).set_ 1 _) rfl rfl ⟨rfl,(HK.out.setCell (Or.inr HLO.out) _).setCell (Or.inr HLO.out) _,(h9.setNew HLO2.out _).setNew HLO2.out _,by constructor <;> simp only <;> omega,by simp⟩
   ·have b1:(kd==1)=false:=by simp [h1]
    rw [b1,if_neg (by simp)] at hR2;clear h1;have HNM:=Lib.hid (pname_any h6)
    cases hn:nameP ts i with
    | error k =>
     rw [hn] at HNM hR2;simp only [bnd] at hR2;subst hR2;go_wp2_with (go_at_call 70;refine HNM.out.mono ?_;unfold NameE;rintro e w9 ⟨⟨p,rfl⟩,k9⟩);exact ⟨rfl,⟨p,rfl⟩,HK.out.trans k9⟩
    | ok y =>
     obtain ⟨x,j1⟩:=y;have hx20:=nameP_le hn;rw [hn] at HNM hR2;simp only [bnd] at hR2;go_upto_region 7 with (go_at_call 70;refine HNM.out.mono ?_;unfold NameE;rintro e w7 ⟨rfl,k9,h7⟩);replace HK:=Lib.hid (HK.out.trans k9);replace HB:=Lib.hid (HB.out.kept k9 (by simpa using HNE.out));clear k9;clear HNM a0;have HTK:=Lib.hid (take_any h7 [46])
     cases hn2:takeP ts [46] j1 with
     | error k =>
      rw [hn2] at HTK hR2
      simp only at hR2
      subst hR2;go_wp2_with (go_at_call 69;refine HTK.out.mono ?_;unfold TakeE;rintro e w9 ⟨⟨p,rfl⟩,k9⟩);exact ⟨rfl,⟨p,rfl⟩,HK.out.trans k9⟩
     | ok y =>
      obtain ⟨u0,j2⟩:=y;rw [hn2] at HTK hR2
      simp only at hR2
      go_upto_region 8 with (go_at_call 69;refine HTK.out.mono ?_;unfold TakeE;rintro e w8 ⟨rfl,k9,h8⟩);replace HK:=Lib.hid (HK.out.trans k9);replace HB:=Lib.hid (HB.out.kept k9 (by simpa using HNE.out));clear k9;clear HTK;have HNM:=Lib.hid (pname_any h8)
      cases hn3:nameP ts j2 with
      | error k =>
       rw [hn3] at HNM hR2
       simp only at hR2
       subst hR2;go_wp2_with (go_at_call 70;refine HNM.out.mono ?_;unfold NameE;rintro e w9 ⟨⟨p,rfl⟩,k9⟩);exact ⟨rfl,⟨p,rfl⟩,HK.out.trans k9⟩
      | ok y =>
       obtain ⟨y,j3⟩:=y;have hy20:=nameP_le hn3;rw [hn3] at HNM hR2
       simp only at hR2
       obtain ⟨nm,hnm⟩:∃ nm,x++46::y=nm:=⟨_,rfl⟩
       have hnl:nm.length≤41:=by rw [←hnm,List.length_append,List.length_cons];omega
       have hc1:(⟨#[46]⟩:ByteArray)++⟨y.toArray⟩=⟨(46::y).toArray⟩:=ByteArray.mk_append_mk [46] y;have hc2:(⟨x.toArray⟩:ByteArray)++⟨(46::y).toArray⟩=⟨nm.toArray⟩:=hnm▸ByteArray.mk_append_mk x (46::y);rw [hnm] at hR2;have HC1:=Lib.hid hc1;have HC2:=Lib.hid hc2;clear hnm hc1 hc2
       have s1:¬ (9223372036854775807:Int) < 1+(y.length:Int):=by omega
       have s2:¬ (9223372036854775807:Int) < (x.length:Int)+(1+(y.length:Int)):=by omega
       go_upto_region 9 with (go_at_call 70;refine HNM.out.mono ?_;unfold NameE;rintro e w10 ⟨rfl,k9,h10⟩);rw [HC1.out,HC2.out];clear HC1 HC2 s1 s2 hx20 hy20 HNM;replace HK:=Lib.hid (HK.out.trans k9);replace HB:=Lib.hid (HB.out.kept k9 (by simpa using HNE.out));clear k9;have HSK:=Lib.hid (skip_any h10 [43])
       cases hb2:skipP ts [43] j3
       ·rw [hb2] at HSK hR2;rw [if_neg (by simp)] at hR2;go_upto_region 11 with (go_at_call 115;refine HSK.out.mono ?_;rintro e w11 ⟨rfl,k9,h11⟩);have h11:Ps B W0 rb ts a c z w11 j3:=h11;clear HSK;replace HK:=Lib.hid (HK.out.trans k9);replace HB:=Lib.hid (HB.out.kept k9 (by simpa using HNE.out));clear k9;have HSK:=Lib.hid (skip_any h11 [45])
        cases hb3:skipP ts [45] j3
        ·rw [hb3] at HSK hR2;rw [if_neg (by simp)] at hR2;subst hR2;go_upto_region 13 with (go_at_call 115;refine HSK.out.mono ?_;rintro e w12 ⟨rfl,k9,h12⟩);have h12:Ps B W0 rb ts a c z w12 j3:=h12;clear HSK;replace HK:=Lib.hid (HK.out.trans k9);replace HB:=Lib.hid (HB.out.kept k9 (by simpa using HNE.out));clear k9;have z0:w12.cell? ⟨b,0,none⟩=some (.string ⟨#[]⟩):=HB.out.cell 0;have z1:w12.cell? ⟨b,1,none⟩=some (.int .i64 0):=HB.out.cell 1;have y0:=HB.out.frozen 0;have y1:=HB.out.frozen 1;go_wp2_with fail;exact sum_end ((HB.out.set_ 0 _).set_ 1 _) rfl rfl ⟨rfl,(HK.out.setCell (Or.inr HLO.out) _).setCell (Or.inr HLO.out) _,(h12.setNew HLO2.out _).setNew HLO2.out _,by constructor <;> simp only <;> omega,hnl⟩
        ·rw [hb3] at HSK hR2;rw [if_pos rfl] at hR2;go_upto_region 12 with (go_at_call 115;refine HSK.out.mono ?_;rintro e w12 ⟨rfl,k9,h12⟩);have h12:Ps B W0 rb ts a c z w12 (j3+1):=h12;clear HSK;replace HK:=Lib.hid (HK.out.trans k9);replace HB:=Lib.hid (HB.out.kept k9 (by simpa using HNE.out));clear k9;have HNU:=Lib.hid (pnum_any h12)
         cases hnu:numberP ts (j3+1) with
         | error k =>
          rw [hnu] at HNU hR2
          simp only at hR2
          subst hR2;go_wp2_with (go_at_call 233;refine HNU.out.mono ?_;unfold NumE;rintro e w9 ⟨⟨p,rfl⟩,k9⟩);exact ⟨rfl,⟨p,rfl⟩,HK.out.trans k9⟩
         | ok y =>
          obtain ⟨n,j⟩:=y;have hnb:=numberP_le h12.ok hnu;rw [hnu] at HNU hR2
          simp only at hR2
          subst hR2;go_wp2_with (go_at_call 233;refine HNU.out.mono ?_;unfold NumE;rintro e w9 ⟨rfl,k9,h9⟩;replace HK:=Lib.hid (HK.out.trans k9);replace HB:=Lib.hid (HB.out.kept k9 (by simpa using HNE.out));have z0:w9.cell? ⟨b,0,none⟩=some (.string ⟨#[]⟩):=HB.out.cell 0;have z1:w9.cell? ⟨b,1,none⟩=some (.int .i64 0):=HB.out.cell 1;have y0:=HB.out.frozen 0;have y1:=HB.out.frozen 1;clear k9);exact sum_end ((HB.out.set_ 0 _).set_ 1 _) rfl rfl ⟨rfl,(HK.out.setCell (Or.inr HLO.out) _).setCell (Or.inr HLO.out) _,(h9.setNew HLO2.out _).setNew HLO2.out _,by constructor <;> simp only <;> omega,hnl⟩
       ·rw [hb2] at HSK hR2;rw [if_pos rfl] at hR2;go_upto_region 10 with (go_at_call 115;refine HSK.out.mono ?_;rintro e w11 ⟨rfl,k9,h11⟩);have h11:Ps B W0 rb ts a c z w11 (j3+1):=h11;clear HSK;replace HK:=Lib.hid (HK.out.trans k9);replace HB:=Lib.hid (HB.out.kept k9 (by simpa using HNE.out));clear k9;have HNU:=Lib.hid (pnum_any h11)
        cases hnu:numberP ts (j3+1) with
        | error k =>
         rw [hnu] at HNU hR2
         simp only at hR2
         subst hR2;go_wp2_with (go_at_call 233;refine HNU.out.mono ?_;unfold NumE;rintro e w9 ⟨⟨p,rfl⟩,k9⟩);exact ⟨rfl,⟨p,rfl⟩,HK.out.trans k9⟩
        | ok y =>
         obtain ⟨n,j⟩:=y;have hnb:=numberP_le h11.ok hnu;rw [hnu] at HNU hR2
         simp only at hR2
         subst hR2;go_wp2_with (go_at_call 233;refine HNU.out.mono ?_;unfold NumE;rintro e w9 ⟨rfl,k9,h9⟩;replace HK:=Lib.hid (HK.out.trans k9);replace HB:=Lib.hid (HB.out.kept k9 (by simpa using HNE.out));have z0:w9.cell? ⟨b,0,none⟩=some (.string ⟨#[]⟩):=HB.out.cell 0;have z1:w9.cell? ⟨b,1,none⟩=some (.int .i64 0):=HB.out.cell 1;have y0:=HB.out.frozen 0;have y1:=HB.out.frozen 1;clear k9);exact sum_end ((HB.out.set_ 0 _).set_ 1 _) rfl rfl ⟨rfl,(HK.out.setCell (Or.inr HLO.out) _).setCell (Or.inr HLO.out) _,(h9.setNew HLO2.out _).setNew HLO2.out _,by constructor <;> simp only <;> omega,hnl⟩
 ·rw [hb] at HS hR2;rw [if_pos rfl] at hR2;go_upto_region 2 with (go_at_call 115;refine (HS.out).mono ?_;rintro e w5 ⟨rfl,k9,h5⟩);have h5:Ps B W0 rb ts a c z w5 (i+1):=h5;replace HK:=Lib.hid (HK.out.trans k9);replace HB:=Lib.hid (HB.out.kept k9 (by simpa using HNE.out));clear k9;have HNU:=Lib.hid (pnum_any h5)
  cases hnu:numberP ts (i+1) with
  | error k =>
   rw [hnu] at HNU hR2;simp only [bnd] at hR2;subst hR2;go_wp2_with (go_at_call 233;refine HNU.out.mono ?_;unfold NumE;rintro e w9 ⟨⟨p,rfl⟩,k9⟩);exact ⟨rfl,⟨p,rfl⟩,HK.out.trans k9⟩
  | ok y =>
   obtain ⟨n,j⟩:=y;have hnb:=numberP_le h5.ok hnu;rw [hnu] at HNU hR2;simp only [bnd] at hR2;subst hR2;go_wp2_with (go_at_call 233;refine HNU.out.mono ?_;unfold NumE;rintro e w9 ⟨rfl,k9,h9⟩;replace HK:=Lib.hid (HK.out.trans k9);replace HB:=Lib.hid (HB.out.kept k9 (by simpa using HNE.out));have z0:w9.cell? ⟨b,0,none⟩=some (.string ⟨#[]⟩):=HB.out.cell 0;have z1:w9.cell? ⟨b,1,none⟩=some (.int .i64 0):=HB.out.cell 1;have y0:=HB.out.frozen 0;have y1:=HB.out.frozen 1;clear k9);exact sum_end ((HB.out.set_ 0 _).set_ 1 _) rfl rfl ⟨rfl,(HK.out.setCell (Or.inr HLO.out) _).setCell (Or.inr HLO.out) _,(h9.setNew HLO2.out _).setNew HLO2.out _,by constructor <;> simp only <;> omega,by simp⟩
end Go.Proofs.YtpcmamoomaddoaaGreatDoor
namespace Go.Proofs.YtpcmamoomaddoaaGreatDoor
open Go.RowKit
mutual
/-- the five cells of a predicate -/
def PdR (w:World):List Value→Pd→Prop
 | cs,.node k l r c ks=>∃ v vs,cs=[.int .i64 k,.string ⟨l.toArray⟩,.string ⟨r.toArray⟩,.int .i64 c,v]∧Row w 5 v ks.length vs.flatten∧PdL w vs ks
def PdL (w:World):List (List Value)→List Pd→Prop
 | vs,[]=>vs=[]
 | vs,p::l=>∃ c vs',vs=c::vs'∧PdR w c p∧PdL w vs' l
end
theorem PdR.len {w:World} {cs:List Value}:∀ {p:Pd},PdR w cs p→cs.length=5
 | .node ..,h=>by
  rw [PdR] at h;obtain ⟨v,vs,rfl,_⟩:=h
  rfl
theorem pdL_elems {w:World}:∀ {vs:List (List Value)} {l:List Pd},PdL w vs l↔Elems PdR 5 vs l w
 | vs,[]=>by
  rw [PdL]
  constructor
  ·rintro rfl;exact Elems.nil_ _ _ _
  ·rintro ⟨h,_⟩;exact List.eq_nil_of_length_eq_zero h
 | vs,p::l=>by
  rw [PdL]
  constructor
  ·rintro ⟨c,vs',rfl,h1,h2⟩;obtain ⟨e1,e2,e3⟩:=pdL_elems.1 h2;refine ⟨by simp [e1],fun x hx=>?_,fun k a ha=>?_⟩
   ·rcases List.mem_cons.1 hx with rfl|hx
    ·exact h1.len
    ·exact e2 x hx
   ·rcases k with _|k
    ·simp at ha;subst ha;exact ⟨c,rfl,h1⟩
    ·exact e3 k a (by simpa using ha)
  ·rintro ⟨e1,e2,e3⟩
   rcases vs with _|⟨c,vs'⟩
   ·simp at e1
   ·obtain ⟨c',hc,hR⟩:=e3 0 p rfl;simp at hc;subst hc;refine ⟨c,vs',rfl,hR,pdL_elems.2 ⟨by simpa using e1,fun x hx=>e2 x (by simp [hx]),fun k a ha=>?_⟩⟩;obtain ⟨d,hd,hR⟩:=e3 (k+1) a (by simpa using ha);exact ⟨d,by simpa using hd,hR⟩
mutual
theorem PdR.kept {w w':World} (k:Kept [] w w'):∀ {p:Pd} {cs:List Value},PdR w cs p→PdR w' cs p
 | .node ..,cs,h=>by
  rw [PdR] at h ⊢;obtain ⟨v,vs,h1,h2,h3⟩:=h;exact ⟨v,vs,h1,h2.kept k,PdL.kept k h3⟩
theorem PdL.kept {w w':World} (k:Kept [] w w'):∀ {l:List Pd} {vs:List (List Value)},PdL w vs l→PdL w' vs l
 | [],vs,h=>by rw [PdL] at h ⊢;exact h
 | p::l,vs,h=>by
  rw [PdL] at h ⊢;obtain ⟨c,vs',h1,h2,h3⟩:=h;exact ⟨c,vs',h1,PdR.kept k h2,PdL.kept k h3⟩
end
theorem PdR.rows {w:World} {cs:List Value} {k:Int} {l r:Bs} {c:Int} {ks:List Pd} (h:PdR w cs (.node k l r c ks)) :
  ∃ a cc,cs=[.int .i64 k,.string ⟨l.toArray⟩,.string ⟨r.toArray⟩,.int .i64 c,.slice a ks.length cc]∧RowOf PdR 5 w (.slice a ks.length cc) ks:=by
 rw [PdR] at h;obtain ⟨v,vs,h1,h2,h3⟩:=h;obtain ⟨a,cc,rfl,_,_⟩:=h2.form;obtain ⟨e1,e2,e3⟩:=pdL_elems.1 h3;exact ⟨a,cc,h1,vs,e1,e2,e3,h2⟩
theorem PdR.of_rows {w:World} {k:Int} {l r:Bs} {c:Int} {ks:List Pd} {v:Value} (h:RowOf PdR 5 w v ks) :
  PdR w [.int .i64 k,.string ⟨l.toArray⟩,.string ⟨r.toArray⟩,.int .i64 c,v] (.node k l r c ks):=by
 obtain ⟨vs,e1,e2,e3,h2⟩:=h;rw [PdR];exact ⟨v,vs,rfl,h2,pdL_elems.2 ⟨e1,e2,e3⟩⟩
/-- a predicate by value whose memory is new since block B -/
def PdN (B:Nat) (w:World) (v:Value) (p:Pd):Prop:=∃ cs,v=.agg cs.toArray∧Stable (List.range B) (fun w=>PdR w cs p) w
section
variable {B:Nat} {w w':World} {v:Value} {p:Pd} {S:List Nat}
theorem Stable.blk {X:List Nat} {g:Nat} {T:TypeId} {cs:Array Value} (h:Blk w g T cs) (hX:g∉X):Stable X (fun w=>Blk w g T cs) w:=fun _ _ k hS=>h.kept k fun hm=>hX (hS g hm h.lt)
end
theorem PdN.atom (B:Nat) (w:World) (l r:Bs) (c:Int):PdN B w (.agg #[.int .i64 0,.string ⟨l.toArray⟩,.string ⟨r.toArray⟩,.int .i64 c,.slice none 0 0]) (.node 0 l r c []) :=
 ⟨[.int .i64 0,.string ⟨l.toArray⟩,.string ⟨r.toArray⟩,.int .i64 c,.slice none 0 0],rfl,fun _ _ _ _=>PdR.of_rows (RowOf.nil_ _ _ _)⟩
theorem Blk.new1 (w:World) (o:Obj) (T:TypeId) (a:Array Value):Blk ((w.alloc o).alloc (.cells a T)) (w.heap.size+1) T a:=by
 have:=Blk.new (w.alloc o) T a;rw [World.size_alloc] at this;exact this
theorem Blk.new2 (w:World) (o p:Obj) (T:TypeId) (a:Array Value):Blk (((w.alloc o).alloc p).alloc (.cells a T)) (w.heap.size+1+1) T a:=by
 have:=Blk.new ((w.alloc o).alloc p) T a;rw [World.size_alloc,World.size_alloc] at this;exact this
theorem most_end {w2:World} {tmps:Array Value} {v0 v1 v2 v3 v4 X:Value} {b:Nat} {R:Ending→World→Prop} (hb:Blk w2 b 46 #[v0,v1,v2,v3,v4]) (h2:tmps[6]?.getD undef=.pointer (some ⟨b,0,none⟩))
  (hX:.agg #[v0,v1,v2,v3,v4]=X) (hR:R (.returned X) w2) :
  bodyPost Tryz.prog Tryz.f234 R Exit.ret { tmps:=tmps,defers:=[] } w2:=by
 subst hX;have c0:w2.cell? ⟨b,0,none⟩=some v0:=hb.cell 0;have c1:w2.cell? ⟨b,1,none⟩=some v1:=hb.cell 1;have c2:w2.cell? ⟨b,2,none⟩=some v2:=hb.cell 2;have c3:w2.cell? ⟨b,3,none⟩=some v3:=hb.cell 3;have c4:w2.cell? ⟨b,4,none⟩=some v4:=hb.cell 4;refine bodyPost_ret (v:=.agg #[v0,v1,v2,v3,v4]) ?_ rfl hR;simp only [results,Tryz.results234]
 simp [go_sem,h2,c0,c1,c2,c3,c4]
set_option maxRecDepth 100000 in
set_option maxHeartbeats 2000000 in
theorem most_any (a b:Sm) (n:Int) (w:World) (ha:SmI a) (hb:SmI b) (hn:0≤n∧n≤1) :
  Calls Tryz.prog 234 #[.agg #[.string ⟨a.name.toArray⟩,.int .i64 a.off],.agg #[.string ⟨b.name.toArray⟩,.int .i64 b.off],.int .i64 n] w fun e w' =>
   e=.returned (.agg #[.int .i64 0,.string ⟨a.name.toArray⟩,.string ⟨b.name.toArray⟩,.int .i64 (b.off - a.off - n),.slice none 0 0])∧Kept [] w w':=by
 obtain ⟨h1,h2⟩:=ha;obtain ⟨h3,h4⟩:=hb;obtain ⟨h5,h6⟩:=hn
 go_enter Tryz.func234,Tryz.ntmps234
 go_wp2_with fail;exact most_end (Blk.new2 _ _ _ _ _) rfl rfl ⟨rfl,(((Kept.refl _ _).alloc _).alloc _).alloc _⟩
end Go.Proofs.YtpcmamoomaddoaaGreatDoor
