/- ask.sized, small. -/
import Derived.Test.YtpcmamoomaddoaaGreatDoorEql
import Derived.Test.YtpcmamoomaddoaaGreatDoorVps
import Derived.Test.YtpcmamoomaddoaaGreatDoorRng
/- JOINED: Vks Idp Siz -/
/- inquiry's validKeys. -/
namespace Go.Proofs.YtpcmamoomaddoaaGreatDoor
open Go.RowKit
def PssR (w:World) (c:List Value) (p:Pss):Prop:=∃ v u,c=[.string ⟨p.name.toArray⟩,.int .i64 p.pub,v,u]∧Row w 1 v p.attrs.length (strs p.attrs)∧Row w 1 u p.guests.length (ints p.guests)
theorem PssR.kept {w w':World} {c:List Value} {p:Pss} (h:PssR w c p) (k:Kept [] w w'):PssR w' c p:=by obtain ⟨v,u,h1,h2,h3⟩:=h;exact ⟨v,u,h1,h2.kept k,h3.kept k⟩
def keyBad (p q:Pss):Bool:=decide (q.name=p.name)&&(decide (q.pub=p.pub) || !decide (q.attrs=p.attrs))
def badK (l:List Pss) (i:Nat):Bool:=match l[i]? with|none=>false|some p=>!passB p || (l.take i).any (keyBad p)
def keysB (l:List Pss):Bool:=decide (l.length≠0)&&decide (l.length≤16)&&!(List.range l.length).any (badK l)
theorem keysB_bad {l:List Pss} {i:Nat} (hi:i < l.length) (h:badK l i=true):keysB l=false:=by
 unfold keysB
 rw [show (List.range l.length).any (badK l)=true from List.any_eq_true.2 ⟨i,List.mem_range.2 hi,h⟩]
 simp
theorem keysB_done {l:List Pss} (h0:l.length≠0) (h1:l.length≤16) (h:∀ i,i < l.length→badK l i=false):keysB l=true:=by
 unfold keysB
 rw [show (List.range l.length).any (badK l)=false from List.any_eq_false.2 fun i hi=>by rw [h i (List.mem_range.1 hi)];simp]
 simp [h1]
 exact fun e=>h0 (by rw [e];rfl)
set_option maxRecDepth 100000 in
set_option maxHeartbeats 4000000 in
theorem validKeys_any {B:Nat} {w:World} {v:Value} {l:List Pss} (h:RowOf PssR 4 w v l) (hs:∀ p∈l,p.name.length≤10000000∧∀ a∈p.attrs,a.length≤10000000) (hE:EnvB B w) :
  Calls Tryz.prog 38 #[v] w fun e w'=>e=.returned (.bool (keysB l))∧Kept [] w w':=by
 obtain ⟨a,c,rfl,hl63,hlc⟩:=h.form;obtain ⟨R,hR⟩:∃ R,keysB l=R:=⟨_,rfl⟩;obtain ⟨n,hn⟩:∃ n,l.length=n:=⟨_,rfl⟩
 have G1:∀ i,i < n→badK l i=true→R=false:=fun i hi hb=>by rw [←hR];exact keysB_bad (by omega) hb
 have G2:n≠0→n≤16→(∀ i,i < n→badK l i=false)→R=true:=fun h1 h2 h3=>by rw [←hR];exact keysB_done (by omega) (by omega) (fun i hi=>h3 i (by omega))
 have G3:n=0→R=false:=fun h0=>by rw [←hR];unfold keysB;simp [show l.length=0 by omega]
 have G4:¬ n≤16→R=false:=fun h0=>by rw [←hR];unfold keysB;simp;intro _ h;omega
 rw [hR];rw [hn] at h hlc hl63 ⊢;have H:=Lib.hid h;have HN:=Lib.hid hn;have HS:=Lib.hid hs;have HE:=Lib.hid hE;have G1:=Lib.hid G1;have G2:=Lib.hid G2;have G3:=Lib.hid G3;have G4:=Lib.hid G4;clear hR hn h hs hE
 by_cases h0:n=0
 ·subst h0
  go_enter Tryz.func38,Tryz.ntmps38
  go_wp2_with fail;go_ret;exact ⟨by first|rfl|(rw [G3.out trivial];rfl),Kept.refl _ _⟩
 ·by_cases h16:n≤16
  ·have h0':(n:Int)≠0:=by omega
   have h16':¬ (16:Int) < (n:Int):=by omega
   have hne:((n:Int)==0)=false:=by simpa using h0
   go_enter Tryz.func38,Tryz.ntmps38
   go_wp2_with fail
   (try simp only [hne])
   have HH0:=Lib.hid h0;clear h0'
   go_loopw [17] (fun v wr=>∃ i:Nat,i≤n∧v=.int .i64 i∧Kept [] w wr∧∀ k,k < i→badK l k=false) (fun v _=>n - (intOf v).toNat)
   case atStart=>exact ⟨0,Nat.zero_le _,rfl,Kept.refl _ _,fun k hk=>absurd hk (by omega)⟩
   case round =>
    obtain ⟨i,hi,rfl,hkr,hall⟩:=hrel;have HALL:=Lib.hid hall;have HKR:=Lib.hid hkr;clear hall
    by_cases hlt:i < n
    ·have hlt':(i:Int) < (n:Int):=by omega
     obtain ⟨b,off,rfl,hc⟩:=H.out.at_ (by have:=HN.out;omega);obtain ⟨p,hp⟩:∃ p,l[i]?=some p:=⟨_,List.getElem?_eq_getElem (by have:=HN.out;omega)⟩;obtain ⟨cp,q1,q2,q3⟩:=hc i p hp;obtain ⟨va,vg,rfl,hra,hrg⟩:=q2;obtain ⟨aa,ac,rfl,_,_⟩:=hra.form;obtain ⟨ga,gc,rfl,_,_⟩:=hrg.form;obtain ⟨an,han⟩:∃ an,p.attrs.length=an:=⟨_,rfl⟩;obtain ⟨gn,hgn⟩:∃ gn,p.guests.length=gn:=⟨_,rfl⟩;rw [han] at hra q3;rw [hgn] at q3;have HAN:=Lib.hid han;have hps:=HS.out p (List.mem_of_getElem? hp);have y0:wr.cell? ⟨b,off+i*4,none⟩=some (.string ⟨p.name.toArray⟩):=Kept.cellOf (q3 0 _ (by decide) rfl) _ hkr;have y1:wr.cell? ⟨b,off+i*4+1,none⟩=some (.int .i64 p.pub):=Kept.cellOf (q3 1 _ (by decide) rfl) _ hkr;have y2:wr.cell? ⟨b,off+i*4+2,none⟩=some (.slice aa an ac):=Kept.cellOf (q3 2 _ (by decide) rfl) _ hkr;have y3:wr.cell? ⟨b,off+i*4+3,none⟩=some (.slice ga gn gc):=Kept.cellOf (q3 3 _ (by decide) rfl) _ hkr;obtain ⟨wA,hwA⟩:∃ x,wr.alloc (.cells #[.string ⟨p.name.toArray⟩,.int .i64 p.pub,.slice aa an ac,.slice ga gn gc] 36)=x:=⟨_,rfl⟩;have kA:Kept [] wr wA:=hwA▸(Kept.refl _ _).alloc _;have hBA:Blk wA wr.heap.size 36 #[.string ⟨p.name.toArray⟩,.int .i64 p.pub,.slice aa an ac,.slice ga gn gc]:=hwA▸Blk.new _ _ _;have x0:wA.cell? ⟨wr.heap.size,0,none⟩=some (.string ⟨p.name.toArray⟩):=hBA.cell 0;have x1:wA.cell? ⟨wr.heap.size,1,none⟩=some (.int .i64 p.pub):=hBA.cell 1;have x2:wA.cell? ⟨wr.heap.size,2,none⟩=some (.slice aa an ac):=hBA.cell 2;have x3:wA.cell? ⟨wr.heap.size,3,none⟩=some (.slice ga gn gc):=hBA.cell 3;have HV:=Lib.hid (validPass_any (p:=p) (va:=.slice aa an ac) (vg:=.slice ga gn gc) (by rw [HAN.out];exact hra.kept (hkr.trans kA)) hps.1 hps.2 (HE.out.kept0 (hkr.trans kA)))
     have HBA:=Lib.hid hBA;have HWA:=Lib.hid hwA;have HKA:=Lib.hid (hkr.trans kA);have HRA:=Lib.hid hra;have HP:=Lib.hid hp;clear hc q1 q3 hrg hwA kA hBA hkr hra hp hps han hgn;go_upto_region 6 with (fail);have hwA':=HWA.out;rw [hwA'];clear hwA' y0 y1 y2 y3 HWA
     cases hpb:passB p
     ·rw [hpb] at HV;have HPB:=Lib.hid hpb;clear hpb;go_wp2_with (go_at_call 28;refine HV.out.mono ?_;rintro e w5 ⟨rfl,k5⟩);go_ret;exact ⟨by rw [G1.out i hlt (by unfold badK;rw [HP.out];simp [HPB.out])];rfl,HKA.out.trans k5⟩
     ·rw [hpb] at HV;have HPB:=Lib.hid hpb;clear hpb
      have hic:i≤c:=by omega
      go_wp2_with (go_at_call 28;refine HV.out.mono ?_;rintro e w5 ⟨rfl,k5⟩);have HK5:=Lib.hid (HKA.out.trans k5);have HB5:=Lib.hid (HBA.out.kept k5 (by simp));obtain ⟨g,hg⟩:∃ g,wr.heap.size=g:=⟨_,rfl⟩;rw [hg] at HB5
      (try rw [hg])
      clear hg k5 HV HBA x0 x1 x2 x3 hne
      go_loopw [29] (fun v wi=>∃ k:Nat,k≤i∧v=.int .i64 k∧Kept [] w5 wi∧(l.take k).any (keyBad p)=false) (fun v _=>i - (intOf v).toNat)
      case atStart=>exact ⟨0,Nat.zero_le _,rfl,Kept.refl _ _,by simp⟩
      case round =>
       obtain ⟨k,hk,rfl,hki,hany⟩:=hrel;have HANY:=Lib.hid hany;have HKI:=Lib.hid (HK5.out.trans hki);clear hany
       by_cases hlk:k < i
       ·have hlk':(k:Int) < (i:Int):=by omega
        obtain ⟨b',off',hbo,hc⟩:=H.out.at_ (by have:=HN.out;omega);injection hbo with hbo;injection hbo with e1 e2;subst e1;subst e2;obtain ⟨q,hq⟩:∃ q,l[k]?=some q:=⟨_,List.getElem?_eq_getElem (by have:=HN.out;omega)⟩;obtain ⟨cq,q1,q2,q3⟩:=hc k q hq;obtain ⟨ua,ug,rfl,hqa,hqg⟩:=q2;obtain ⟨qa,qc,rfl,_,_⟩:=hqa.form;obtain ⟨ha',hc',rfl,_,_⟩:=hqg.form;obtain ⟨qn,hqn⟩:∃ qn,q.attrs.length=qn:=⟨_,rfl⟩;obtain ⟨hn',hhn⟩:∃ gn,q.guests.length=gn:=⟨_,rfl⟩;rw [hqn] at hqa q3;rw [hhn] at q3
        have htk:l.take (k+1)=l.take k++[q]:=by rw [List.take_succ_eq_append_getElem (by have:=HN.out;omega),(List.getElem?_eq_some_iff.1 hq).2]
        have y0:wr.cell? ⟨b,off+k*4,none⟩=some (.string ⟨q.name.toArray⟩):=Kept.cellOf (q3 0 _ (by decide) rfl) _ HKI.out;have y1:wr.cell? ⟨b,off+k*4+1,none⟩=some (.int .i64 q.pub):=Kept.cellOf (q3 1 _ (by decide) rfl) _ HKI.out;have y2:wr.cell? ⟨b,off+k*4+2,none⟩=some (.slice qa qn qc):=Kept.cellOf (q3 2 _ (by decide) rfl) _ HKI.out;have y3:wr.cell? ⟨b,off+k*4+3,none⟩=some (.slice ha' hn' hc'):=Kept.cellOf (q3 3 _ (by decide) rfl) _ HKI.out;obtain ⟨wB,hwB⟩:∃ x,wr.alloc (.cells #[.string ⟨q.name.toArray⟩,.int .i64 q.pub,.slice qa qn qc,.slice ha' hn' hc'] 36)=x:=⟨_,rfl⟩;have kB:Kept [] wr wB:=hwB▸(Kept.refl _ _).alloc _;have hBB:Blk wB wr.heap.size 36 #[.string ⟨q.name.toArray⟩,.int .i64 q.pub,.slice qa qn qc,.slice ha' hn' hc']:=hwB▸Blk.new _ _ _;have hBP:=HB5.out.kept (hki.trans kB) (by simp);have z0:wB.cell? ⟨wr.heap.size,0,none⟩=some (.string ⟨q.name.toArray⟩):=hBB.cell 0;have z1:wB.cell? ⟨wr.heap.size,1,none⟩=some (.int .i64 q.pub):=hBB.cell 1;have z2:wB.cell? ⟨wr.heap.size,2,none⟩=some (.slice qa qn qc):=hBB.cell 2;have u0:wB.cell? ⟨g,0,none⟩=some (.string ⟨p.name.toArray⟩):=hBP.cell 0;have u1:wB.cell? ⟨g,1,none⟩=some (.int .i64 p.pub):=hBP.cell 1;have u2:wB.cell? ⟨g,2,none⟩=some (.slice aa an ac):=hBP.cell 2;have HEQ:=Lib.hid (equal_strs (hqa.kept (HKI.out.trans kB)) ((by have:=HRA.out;exact this.kept (HKI.out.trans kB):Row wB 1 (.slice aa an ac) an (strs p.attrs))));have HWB:=Lib.hid hwB;have HKB:=Lib.hid (HKI.out.trans kB);have HK5B:=Lib.hid (hki.trans kB);have HTK:=Lib.hid htk
        have HMQ:Hid (q∈l.take i):=Lib.hid (List.mem_of_getElem? (show (l.take i)[k]?=some q by rw [List.getElem?_take_of_lt hlk];exact hq));clear hc q1 q3 hqg hwB kB hBB hBP hqa htk hqn hhn hki hq;go_upto_region 11 with (fail);have hwB':=HWB.out;rw [hwB'];clear hwB' y0 y1 y2 y3 HWB
        have HBAD:Hid (keyBad p q=true→R=false):=Lib.hid fun hb=>G1.out i hlt (by
         unfold badK
         rw [HP.out];simp only [Bool.or_eq_true,List.any_eq_true]
         exact Or.inr ⟨q,HMQ.out,hb⟩)
        by_cases n1:q.name=p.name
        ·by_cases n2:q.pub=p.pub
         ·go_wp2_with fail;go_ret;exact ⟨by rw [HBAD.out (by unfold keyBad;simp [n1,n2])];rfl,HKB.out⟩
         ·by_cases n3:q.attrs=p.attrs
          ·have heq:=HEQ.out;rw [decide_eq_true n3] at heq;have HEQ2:=Lib.hid heq;clear heq HEQ;go_wp2_with (go_at_call 83;refine HEQ2.out.mono ?_;rintro e w6 ⟨rfl,k6⟩)
           go_roundw
           case rel=>exact ⟨k+1,by omega,by go_num,HK5B.out.trans k6,by rw [HTK.out,List.any_append,HANY.out];simp [keyBad,n1,n2,n3]⟩
           case measure=>simp [intOf];omega
          ·have heq:=HEQ.out;rw [decide_eq_false n3] at heq;have HEQ2:=Lib.hid heq;clear heq HEQ;go_wp2_with (go_at_call 83;refine HEQ2.out.mono ?_;rintro e w6 ⟨rfl,k6⟩);go_ret;exact ⟨by rw [HBAD.out (by unfold keyBad;simp [n1,n3])];rfl,HKB.out.trans k6⟩
        ·go_wp2_with fail
         go_roundw
         case rel=>exact ⟨k+1,by omega,by go_num,HK5B.out,by rw [HTK.out,List.any_append,HANY.out];simp [keyBad,n1]⟩
         case measure=>simp [intOf];omega
       ·obtain rfl:k=i:=by omega
        go_wp2_with fail
        go_roundw
        case rel =>
         refine ⟨k+1,by omega,by go_num,HKI.out,fun k' hk'=>?_⟩
         by_cases e:k'=k
         ·subst e;unfold badK;rw [HP.out];simp only [HPB.out,HANY.out];rfl
         ·exact HALL.out k' (by omega)
        case measure=>simp [intOf];omega
    ·obtain rfl:i=n:=by omega
     go_wp2_with fail;go_ret;exact ⟨by rw [G2.out HH0.out h16 (fun k hk=>HALL.out k hk)];rfl,HKR.out⟩
  ·have h16':(16:Int) < (n:Int):=by omega
   have hne:((n:Int)==0)=false:=by simpa using h0
   go_enter Tryz.func38,Tryz.ntmps38
   go_wp2_with fail;go_ret;exact ⟨by rw [G4.out h16];rfl,Kept.refl _ _⟩
end Go.Proofs.YtpcmamoomaddoaaGreatDoor
/- slices.IndexFunc and ContainsFunc at predicates. -/
namespace Go.Proofs.YtpcmamoomaddoaaGreatDoor
open Go.RowKit
theorem idx_some {α:Type} {q:α→Bool} {l:List α} {j:Nat} {a:α} (hb:∀ x∈l.take j,q x=false) (hj:l[j]?=some a) (ha:q a=true):l.findIdx? q=some j:=by
 rw [List.findIdx?_eq_some_iff_getElem];obtain ⟨h1,h2⟩:=List.getElem?_eq_some_iff.1 hj;refine ⟨h1,by rw [h2];exact ha,fun i hi=>?_⟩;have:=hb (l[i]) (List.mem_take_iff_getElem.2 ⟨i,by omega,rfl⟩)
 simp [this]
theorem idx_none {α:Type} {q:α→Bool} {l:List α} (hb:∀ x∈l,q x=false):l.findIdx? q=none:=by
 rw [List.findIdx?_eq_none_iff];exact hb
theorem idx_any {α:Type} (q:α→Bool) (l:List α):l.any q=match l.findIdx? q with|some _=>true|none=>false:=by
 cases h:l.findIdx? q with
 | none =>
  rw [List.findIdx?_eq_none_iff] at h
  simpa using h
 | some i =>
  obtain ⟨h1,h2,_⟩:=List.findIdx?_eq_some_iff_getElem.1 h;simp only [List.any_eq_true];exact ⟨l[i],List.getElem_mem h1,h2⟩
def idxV (o:Option Nat):Int:=match o with|some i=>(i:Int)|none=>-1
set_option maxRecDepth 100000 in
set_option maxHeartbeats 2000000 in
theorem formedK_ix {w:World} {v:Value} {l:List Pd} (q:Pd→Bool) (h:RowOf PdR 5 w v l)
  (hq:∀ a∈l,∀ cs w',Kept [] w w'→PdR w' cs a→Calls Tryz.prog 124 #[.agg cs.toArray] w' fun e w2=>e=.returned (.bool (q a))∧Kept [] w' w2) :
  Calls Tryz.prog 95 #[v,.func (.func 124) #[] #[]] w fun e w'=>e=.returned (.int .i64 (idxV (l.findIdx? q)))∧Kept [] w w':=by
 obtain ⟨sa,sc,rfl,hln,_⟩:=h.form;have HQ:=Lib.hid hq;have HROW:=Lib.hid h;clear hq h
 go_enter Tryz.func95,Tryz.ntmps95
 go_wp2_with fail
 go_loopw [8] (fun v wr=>∃ j:Nat,j≤l.length∧v=.int .i64 j∧Kept [] w wr∧∀ a∈l.take j,q a=false) (fun v _=>l.length - (intOf v).toNat)
 case atStart=>exact ⟨0,Nat.zero_le _,rfl,Kept.refl _ _,by simp⟩
 case round =>
  obtain ⟨j,hj,rfl,hkr,hall⟩:=hrel;have HKR:=Lib.hid hkr;have HALL:=Lib.hid hall;clear hall
  by_cases hlt:j < l.length
  ·have hlt':(j:Int) < (l.length:Int):=by omega
   have hrw:=HROW.out.kept (fun c a hR=>PdR.kept hkr hR) hkr;obtain ⟨b,off,rfl,hc⟩:=hrw.at_ (by omega);obtain ⟨a,hae⟩:∃ a,l[j]?=some a:=⟨_,List.getElem?_eq_getElem hlt⟩;obtain ⟨cq,h1,h2,h3⟩:=hc j a hae;have hcl:=HQ.out a (List.mem_of_getElem? hae) cq wr hkr h2;obtain ⟨r,hr⟩:∃ r,q a=r:=⟨_,rfl⟩;rw [hr] at hcl;have HAE:=Lib.hid hae;have HRR:=Lib.hid hr;clear hc hrw hae hr hkr;obtain ⟨qk,ql,qr,qc,qks⟩:=a;obtain ⟨qa,qcc,rfl,_⟩:=h2.rows;have y0:wr.cell? ⟨b,off+j*5,none⟩=some (.int .i64 qk):=h3 0 _ (by decide) rfl;have y1:wr.cell? ⟨b,off+j*5+1,none⟩=some (.string ⟨ql.toArray⟩):=h3 1 _ (by decide) rfl;have y2:wr.cell? ⟨b,off+j*5+2,none⟩=some (.string ⟨qr.toArray⟩):=h3 2 _ (by decide) rfl;have y3:wr.cell? ⟨b,off+j*5+3,none⟩=some (.int .i64 qc):=h3 3 _ (by decide) rfl;have y4:wr.cell? ⟨b,off+j*5+4,none⟩=some (.slice qa qks.length qcc):=h3 4 _ (by decide) rfl;have HCL:=Lib.hid hcl;clear h1 h2 h3 hcl
   cases r
   ·go_wp2_with (go_at_call 124;refine HCL.out.mono ?_;rintro e w5 ⟨rfl,k5⟩)
    go_roundw
    case rel =>
     refine ⟨j+1,by omega,by go_num,HKR.out.trans k5,fun x hx=>?_⟩;rw [List.take_add_one,HAE.out] at hx
     rcases List.mem_append.1 hx with hx|hx
     ·exact HALL.out x hx
     ·simp at hx;rw [hx];exact HRR.out
    case measure=>simp [intOf];omega
   ·go_wp2_with (go_at_call 124;refine HCL.out.mono ?_;rintro e w5 ⟨rfl,k5⟩);go_ret;exact ⟨by rw [idx_some HALL.out HAE.out HRR.out];rfl,HKR.out.trans k5⟩
  ·obtain rfl:j=l.length:=by omega
   have hfin:=idx_none (q:=q) (l:=l) (by rw [←List.take_length (l:=l)];exact HALL.out);have HFIN:=Lib.hid hfin;clear hfin;go_wp2_with fail;go_ret;exact ⟨by rw [HFIN.out];rfl,HKR.out⟩
set_option maxRecDepth 100000 in
set_option maxHeartbeats 1000000 in
theorem formedK_any {w:World} {v:Value} {l:List Pd} (q:Pd→Bool) (h:RowOf PdR 5 w v l)
  (hq:∀ a∈l,∀ cs w',Kept [] w w'→PdR w' cs a→Calls Tryz.prog 124 #[.agg cs.toArray] w' fun e w2=>e=.returned (.bool (q a))∧Kept [] w' w2) :
  Calls Tryz.prog 52 #[v,.func (.func 124) #[] #[]] w fun e w'=>e=.returned (.bool (l.any q))∧Kept [] w w':=by
 have HI:=Lib.hid (formedK_ix q h hq);rw [idx_any];obtain ⟨sa,sc,rfl,hln,_⟩:=h.form;clear h hq
 cases ho:l.findIdx? q with
 | none =>
  rw [ho] at HI;have HI2:Hid (Calls Tryz.prog 95 #[.slice sa l.length sc,.func (.func 124) #[] #[]] w fun e w'=>e=.returned (.int .i64 (-1))∧Kept [] w w'):=HI;clear HI ho
  go_enter Tryz.func52,Tryz.ntmps52
  go_wp2_with (go_at_call 95;refine HI2.out.mono ?_;rintro e w5 ⟨rfl,k5⟩);go_ret;exact ⟨rfl,k5⟩
 | some i =>
  rw [ho] at HI;have HI2:Hid (Calls Tryz.prog 95 #[.slice sa l.length sc,.func (.func 124) #[] #[]] w fun e w'=>e=.returned (.int .i64 (i:Int))∧Kept [] w w'):=HI
  have hge:(0:Int)≤(i:Int):=by omega
  clear HI ho
  go_enter Tryz.func52,Tryz.ntmps52
  go_wp2_with (go_at_call 95;refine HI2.out.mono ?_;rintro e w5 ⟨rfl,k5⟩);go_ret;exact ⟨rfl,k5⟩
end Go.Proofs.YtpcmamoomaddoaaGreatDoor
namespace Go.Proofs.YtpcmamoomaddoaaGreatDoor
open Go.RowKit
mutual
/-- whether there is room, and what room is left -/
def szB:Pd→Int→Int→Bool × Int
 | .node _ _ _ _ ks,room,lv=>if room - 1 < 0∨lv < 1 then (false,room - 1) else szL ks (room - 1) (lv - 1)
def szL:List Pd→Int→Int→Bool × Int
 | [],r,_=>(true,r)
 | p::l,r,lv=>if (szB p r lv).1 then szL l (szB p r lv).2 lv else (false,(szB p r lv).2)
end
mutual
theorem szB_spec:∀ (p:Pd) (r lv:Int),((szB p r lv).1=true↔(sizeB p:Int)≤r∧(deepB p:Int)≤lv)∧((szB p r lv).1=true→(szB p r lv).2=r - sizeB p)∧(szB p r lv).2 < r
 | .node k l rr c ks,r,lv=>by
  rw [szB,sizeB,deepB];have h:=szL_spec ks (r - 1) (lv - 1)
  split
  ·next hc =>
   refine ⟨⟨fun h=>(by cases h),fun h=>?_⟩,fun h=>(by cases h),by simp only;omega⟩;omega
  ·next hc =>
   obtain ⟨h1,h2,h3⟩:=h;refine ⟨?_,fun ht=>?_,by omega⟩
   ·rw [h1];constructor <;> intro hh <;> omega
   ·rw [h2 ht];omega
theorem szL_spec:∀ (l:List Pd) (r lv:Int),((szL l r lv).1=true↔(sizeL l=0∨(sizeL l:Int)≤r)∧(deepL l=0∨(deepL l:Int)≤lv))∧((szL l r lv).1=true→(szL l r lv).2=r - sizeL l)∧(szL l r lv).2≤r
 | [],r,lv=>by rw [szL,sizeL,deepL];simp
 | p::l,r,lv=>by
  rw [szL,sizeL,deepL];obtain ⟨h1,h2,h3⟩:=szB_spec p r lv;obtain ⟨g1,g2,g3⟩:=szL_spec l (szB p r lv).2 lv
  have hp:1≤sizeB p:=by cases p;rw [sizeB];omega
  have hd:1≤deepB p:=by cases p;rw [deepB];omega
  split
  ·next hc =>
   have e2:=h2 hc;have e1:=h1.1 hc;refine ⟨?_,fun ht=>?_,by omega⟩
   ·rw [g1];constructor <;> intro hh <;> omega
   ·rw [g2 ht];omega
  ·next hc =>
   refine ⟨⟨fun h=>(by cases h),fun hh=>absurd (h1.2 ?_) hc⟩,fun h=>(by cases h),by simp only;omega⟩;omega
end
theorem small_sz (p:Pd):(szB p 100 12).1=smallB p:=by
 rw [Bool.eq_iff_iff,(szB_spec p 100 12).1]
 unfold smallB
 simp only [Bool.and_eq_true,decide_eq_true_eq];omega
theorem sized_end {w2:World} {tmps:Array Value} {b:Bool} {R:Ending→World→Prop} (h2:tmps[6]?.getD undef=.bool b) (hR:R (.returned (.bool b)) w2) :
  bodyPost Tryz.prog Tryz.f119 R Exit.ret { tmps:=tmps,defers:=[] } w2:=by
 refine bodyPost_ret (v:=.bool b) ?_ rfl hR;simp only [results,Tryz.results119]
 simp [go_sem,h2]
set_option maxRecDepth 100000 in
set_option maxHeartbeats 4000000 in
theorem sized_any {W1:World} {rp:Nat} (hlo:W1.heap.size≤rp):∀ (m:Nat) (p:Pd) (cs:List Value) (w:World) (room lv:Int),sizeB p≤m→PdR W1 cs p→Kept [] W1 w→Blk w rp 3 #[.int .i64 room]→0≤room→room≤1000000→0≤lv→lv≤12 →
  Calls Tryz.prog 119 #[.agg cs.toArray,.pointer (some ⟨rp,0,none⟩),.int .i64 lv] w fun e w'=>e=.returned (.bool (szB p room lv).1)∧Kept [rp] w w'∧Blk w' rp 3 #[.int .i64 (szB p room lv).2]:=by
 intro m
 induction m with
 | zero=>intro p cs w room lv hm;cases p;rw [sizeB] at hm;omega
 | succ m ih =>
  rintro ⟨kd,l,r,cc,ks⟩ cs w room lv hm hp hk hb hr0 hr1 hl0 hl1;obtain ⟨ka,kc,rfl,hrow⟩:=hp.rows;rw [sizeB] at hm;obtain ⟨_,_,hke,hkn,_⟩:=hrow.form;obtain ⟨W,hW⟩:∃ W,w.alloc (.cells #[.int .i64 kd,.string ⟨l.toArray⟩,.string ⟨r.toArray⟩,.int .i64 cc,.slice ka ks.length kc] 46)=W:=⟨_,rfl⟩;have hkW:Kept [] w W:=hW▸(Kept.refl _ _).alloc _;have hB1:Blk W w.heap.size 46 #[.int .i64 kd,.string ⟨l.toArray⟩,.string ⟨r.toArray⟩,.int .i64 cc,.slice ka ks.length kc]:=hW▸Blk.new _ _ _;have hb1:=hb.kept hkW (by simp);have hlt:=hb.lt;have r0:W.cell? ⟨rp,0,none⟩=some (.int .i64 room):=hb1.cell 0;have f0:=hb1.frozen 0;obtain ⟨V,hV⟩:∃ V,W.setCell ⟨rp,0,none⟩ (.int .i64 (room - 1))=V:=⟨_,rfl⟩;have kV:Kept [rp] w V:=hV▸(hkW.mono (by simp)).setCell (Or.inl (by simp)) _;have kV1:Kept [] W1 V:=hV▸(hk.trans hkW).setCell (Or.inr hlo) _;have bV:Blk V rp 3 #[.int .i64 (room - 1)]:=hV▸hb1.set_ 0 _;have bV1:Blk V w.heap.size 46 #[.int .i64 kd,.string ⟨l.toArray⟩,.string ⟨r.toArray⟩,.int .i64 cc,.slice ka ks.length kc]:=hV▸hB1.far (by simp only;omega) _;have s0:V.cell? ⟨rp,0,none⟩=some (.int .i64 (room - 1)):=bV.cell 0;have s4:V.cell? ⟨w.heap.size,4,none⟩=some (.slice ka ks.length kc):=bV1.cell 4;have HV:=Lib.hid hV;have KV:=Lib.hid kV;have KV1:=Lib.hid kV1;have BV:=Lib.hid bV;have HW:=Lib.hid hW;have HROW:=Lib.hid hrow;obtain ⟨o,ho⟩:∃ o,szB (.node kd l r cc ks) room lv=o:=⟨_,rfl⟩;have ho2:=ho;rw [szB] at ho2;rw [ho];have HO:=Lib.hid ho2;clear hW hkW hB1 hb1 hb hk hp hrow hke ho hV kV kV1 bV bV1 ho2
  show Calls _ _ #[.agg #[.int .i64 kd,.string ⟨l.toArray⟩,.string ⟨r.toArray⟩,.int .i64 cc,.slice ka ks.length kc],.pointer (some ⟨rp,0,none⟩),.int .i64 lv] _ _
  go_enter Tryz.func119,Tryz.ntmps119
  go_upto_region 1 with (fail);have hW':=HW.out;rw [hW'];clear hW';go_upto_region 2 with (fail);have hV':=HV.out;rw [hV'];clear hV' r0 f0
  by_cases hc1:room - 1 < 0
  ·have ho:=HO.out;rw [if_pos (Or.inl hc1)] at ho;subst ho;go_wp2_with fail;refine sized_end (b:=false) rfl ⟨rfl,KV.out,BV.out⟩
  ·by_cases hc2:lv < 1
   ·have ho:=HO.out;rw [if_pos (Or.inr hc2)] at ho;subst ho;go_wp2_with fail;refine sized_end (b:=false) rfl ⟨rfl,KV.out,BV.out⟩
   ·have ho:=HO.out;rw [if_neg (by omega)] at ho;have HO2:=Lib.hid ho;clear ho;go_wp2_with fail
    go_loopw [25] (fun v wr=>∃ (j:Nat) (rr:Int),j≤ks.length∧v=.int .i64 j∧Kept [rp] V wr∧Blk wr rp 3 #[.int .i64 rr]∧szL (ks.drop j) rr (lv - 1)=o∧0≤rr∧rr≤1000000) (fun v _=>ks.length - (intOf v).toNat)
    case atStart=>exact ⟨0,room - 1,Nat.zero_le _,rfl,Kept.refl _ _,BV.out,HO2.out,by omega,by omega⟩
    case round =>
     obtain ⟨j,rr,hj,rfl,hkr,hbr,hsz,hb0,hb9⟩:=hrel;have HKR:=Lib.hid hkr
     by_cases hlt:j < ks.length
     ·have hlt':(j:Int) < (ks.length:Int):=by omega
      have k1:Kept [] W1 wr:=KV1.out.fresh hkr (by simp;exact hlo);obtain ⟨b,off,rfl,hc⟩:=HROW.out.at_ (by omega);obtain ⟨cq,h1,h2,h3⟩:=hc j ks[j] (List.getElem?_eq_getElem hlt);obtain ⟨q,hq⟩:∃ q,ks[j]=q:=⟨_,rfl⟩;rw [hq] at h2;rw [List.drop_eq_getElem_cons hlt,hq] at hsz;rw [szL] at hsz
      have hqs:sizeB q≤m:=by have:=sizeL_mem (hq▸List.getElem_mem hlt:q∈ks);omega
      have hsp:=szB_spec q rr (lv - 1);obtain ⟨kd',l',r',cc',ks'⟩:=q;obtain ⟨ka',kc',rfl,_⟩:=h2.rows;have y0:wr.cell? ⟨b,off+j*5,none⟩=some (.int .i64 kd'):=Kept.cellOf (h3 0 _ (by decide) rfl) wr k1;have y1:wr.cell? ⟨b,off+j*5+1,none⟩=some (.string ⟨l'.toArray⟩):=Kept.cellOf (h3 1 _ (by decide) rfl) wr k1;have y2:wr.cell? ⟨b,off+j*5+2,none⟩=some (.string ⟨r'.toArray⟩):=Kept.cellOf (h3 2 _ (by decide) rfl) wr k1;have y3:wr.cell? ⟨b,off+j*5+3,none⟩=some (.int .i64 cc'):=Kept.cellOf (h3 3 _ (by decide) rfl) wr k1;have y4:wr.cell? ⟨b,off+j*5+4,none⟩=some (.slice ka' ks'.length kc'):=Kept.cellOf (h3 4 _ (by decide) rfl) wr k1;obtain ⟨wA,hwA⟩:∃ x,wr.alloc (.cells #[(.int .i64 kd'),(.string ⟨l'.toArray⟩),(.string ⟨r'.toArray⟩),(.int .i64 cc'),(.slice ka' ks'.length kc')] 46)=x:=⟨_,rfl⟩;have kA:Kept [] wr wA:=hwA▸(Kept.refl _ _).alloc _;have hBA:Blk wA wr.heap.size 46 #[(.int .i64 kd'),(.string ⟨l'.toArray⟩),(.string ⟨r'.toArray⟩),(.int .i64 cc'),(.slice ka' ks'.length kc')]:=hwA▸Blk.new _ _ _;have IH:=Lib.hid (ih (.node kd' l' r' cc' ks') _ wA rr (lv - 1) hqs h2 (k1.trans kA) (hbr.kept kA (by simp)) (by omega) (by omega) (by omega) (by omega));have HWA:=Lib.hid hwA;have KA:=Lib.hid (hkr.fresh kA (by simp));have x0:wA.cell? ⟨wr.heap.size,0,none⟩=some (.int .i64 kd'):=hBA.cell 0;have x1:wA.cell? ⟨wr.heap.size,1,none⟩=some (.string ⟨l'.toArray⟩):=hBA.cell 1;have x2:wA.cell? ⟨wr.heap.size,2,none⟩=some (.string ⟨r'.toArray⟩):=hBA.cell 2;have x3:wA.cell? ⟨wr.heap.size,3,none⟩=some (.int .i64 cc'):=hBA.cell 3
      have x4:wA.cell? ⟨wr.heap.size,4,none⟩=some (.slice ka' ks'.length kc'):=hBA.cell 4;have HSZ:=Lib.hid hsz;have HSP:=Lib.hid hsp;clear h1 h2 h3 hwA kA hBA hc hq hsz hsp;go_upto_region 7 with (fail);have hwA':=HWA.out;rw [hwA'];clear hwA' y0 y1 y2 y3 y4
      cases hrq:(szB (.node kd' l' r' cc' ks') rr (lv - 1)).1
      ·have hz:=HSZ.out;rw [hrq] at hz IH;simp only [Bool.false_eq_true,if_false] at hz;subst hz;go_wp2_with (go_at_call 119;refine IH.out.mono ?_;rintro e w6 ⟨rfl,k6,b6⟩);refine sized_end (b:=false) rfl ⟨rfl,KV.out.trans (KA.out.trans k6),b6⟩
      ·have hz:=HSZ.out;have hv:=HSP.out.2.1 hrq;rw [hrq] at hz IH;simp only [if_true] at hz;have HZ:=Lib.hid hz;have HV2:=Lib.hid hv;clear hz hv;go_wp2_with (go_at_call 119;refine IH.out.mono ?_;rintro e w6 ⟨rfl,k6,b6⟩)
       go_roundw
       case rel=>exact ⟨j+1,_,by omega,by go_num,KA.out.trans k6,b6,HZ.out,by rw [HV2.out];have:=(HSP.out.1.1 hrq).1;omega,by have:=HSP.out.2.2;omega⟩
       case measure=>simp [intOf];omega
     ·obtain rfl:j=ks.length:=by omega
      have hfin:o=(true,rr):=by
       rw [←hsz,List.drop_length,szL]
      subst hfin;have HBR:=Lib.hid hbr;clear hbr;go_wp2_with fail;refine sized_end (b:=true) rfl ⟨rfl,KV.out.trans HKR.out,HBR.out⟩
theorem small_end {w2:World} {tmps:Array Value} {b:Bool} {R:Ending→World→Prop} (h2:tmps[2]?.getD undef=.bool b) (hR:R (.returned (.bool b)) w2) :
  bodyPost Tryz.prog Tryz.f73 R Exit.ret { tmps:=tmps,defers:=[] } w2:=by
 refine bodyPost_ret (v:=.bool b) ?_ rfl hR;simp only [results,Tryz.results73]
 simp [go_sem,h2]
set_option maxRecDepth 100000 in
set_option maxHeartbeats 4000000 in
theorem small_any {w:World} {p:Pd} {cs:List Value} (hp:PdR w cs p) :
  Calls Tryz.prog 73 #[.agg cs.toArray] w fun e w'=>e=.returned (.bool (smallB p))∧Kept [] w w':=by
 obtain ⟨kd,l,r,cc,ks⟩:=p;obtain ⟨ka,kc,rfl,_⟩:=hp.rows;obtain ⟨W,hW⟩:∃ W,w.alloc (.cells #[.int .i64 kd,.string ⟨l.toArray⟩,.string ⟨r.toArray⟩,.int .i64 cc,.slice ka ks.length kc] 46)=W:=⟨_,rfl⟩;obtain ⟨V,hV⟩:∃ V,W.alloc (.cells #[.int .i64 100] 3)=V:=⟨_,rfl⟩;have hkW:Kept [] w W:=hW▸(Kept.refl _ _).alloc _;have hkV:Kept [] W V:=hV▸(Kept.refl _ _).alloc _;have hB1:Blk W w.heap.size 46 #[.int .i64 kd,.string ⟨l.toArray⟩,.string ⟨r.toArray⟩,.int .i64 cc,.slice ka ks.length kc]:=hW▸Blk.new _ _ _;have hB2:=hB1.kept hkV (by simp);have hB3:Blk V W.heap.size 3 #[.int .i64 100]:=hV▸Blk.new _ _ _;have x0:V.cell? ⟨w.heap.size,0,none⟩=some (.int .i64 kd):=hB2.cell 0;have x1:V.cell? ⟨w.heap.size,1,none⟩=some (.string ⟨l.toArray⟩):=hB2.cell 1;have x2:V.cell? ⟨w.heap.size,2,none⟩=some (.string ⟨r.toArray⟩):=hB2.cell 2;have x3:V.cell? ⟨w.heap.size,3,none⟩=some (.int .i64 cc):=hB2.cell 3;have x4:V.cell? ⟨w.heap.size,4,none⟩=some (.slice ka ks.length kc):=hB2.cell 4;have HS:=Lib.hid (sized_any (W1:=W) (rp:=W.heap.size) (Nat.le_refl _) _ _ _ V 100 12 (Nat.le_refl _) (PdR.kept hkW hp) hkV hB3 (by decide) (by decide) (by decide) (by decide));rw [small_sz] at HS;have HW:=Lib.hid hW;have HV:=Lib.hid hV;have HK:=Lib.hid (hkW.trans hkV);have HZ:=Lib.hid hkW.size;clear hW hV hkW hkV hB1 hB2 hB3 hp
 show Calls _ _ #[.agg #[.int .i64 kd,.string ⟨l.toArray⟩,.string ⟨r.toArray⟩,.int .i64 cc,.slice ka ks.length kc]] _ _
 go_enter Tryz.func73,Tryz.ntmps73
 go_upto_region 1 with (fail);have hW':=HW.out;rw [hW'];clear hW';go_upto_region 2 with (fail);have hV':=HV.out;rw [hV'];clear hV';go_wp2_with (go_at_call 119;refine HS.out.mono ?_;rintro e w6 ⟨rfl,k6,b6⟩);refine small_end (b:=smallB ⟨kd,l,r,cc,ks⟩) rfl ⟨rfl,HK.out.fresh k6 ?_⟩;intro x hx;rw [List.mem_singleton] at hx;exact hx▸HZ.out
end Go.Proofs.YtpcmamoomaddoaaGreatDoor
