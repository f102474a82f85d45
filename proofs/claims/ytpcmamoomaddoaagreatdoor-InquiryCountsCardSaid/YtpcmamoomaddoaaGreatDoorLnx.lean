/- base.next. -/
import Derived.Test.YtpcmamoomaddoaaGreatDoorLnm
import Derived.Lib.Strings
import Derived.Lib.SlBytesRow
import Derived.Lib.BufferRead
import Derived.LaidLaws
import Derived.Test.YtpcmamoomaddoaaGreatDoorShelf
import Derived.Deep.Cut
/- JOINED: Lgp Lqu Enq Lnx -/
/- base.gap. -/
namespace Go.Proofs.YtpcmamoomaddoaaGreatDoor
open Go.RowKit
theorem drop_run (p:UInt8→Bool) (l:Bs):l.drop (runB p l)=l.dropWhile p:=by
 unfold runB
 induction l with
 | nil=>rfl
 | cons a l ih =>
  rw [List.takeWhile_cons,List.dropWhile_cons]
  split
  ·simpa using ih
  ·simp
theorem extract_mk (l:List UInt8) (a b:Nat):(⟨l.toArray⟩:ByteArray).extract a b=⟨((l.drop a).take (b - a)).toArray⟩:=by
 rw [Lib.extract_eq]
theorem pre_eq (l:List UInt8) (k:Nat):(⟨l.toArray⟩:ByteArray).extract 0 k=⟨(l.take k).toArray⟩:=by
 rw [extract_mk];rfl
theorem post_eq (l:List UInt8) (k:Nat):(⟨l.toArray⟩:ByteArray).extract k l.length=⟨(l.drop k).toArray⟩:=by
 rw [extract_mk,List.take_of_length_le (by simp)]
set_option maxRecDepth 100000 in
set_option maxHeartbeats 2000000 in
theorem gap_any (s:List UInt8) (w:World) (hs:s.length≤100000000) :
  Calls Tryz.prog 113 #[.string ⟨s.toArray⟩] w fun e w'=>e=.returned (.int .i64 ((s.length - (gapB s).length:Nat):Int))∧w=w':=by
 have hrun:=Lib.hid (run_blank s w hs);have hle:=runB_le blankB s;obtain ⟨q,hq⟩:∃ q,runB blankB s=q:=⟨_,rfl⟩
 have hst:gapC (s.length+1) (s.drop q)=gapB s:=by rw [←hq,drop_run];rfl
 have hqs:q≤s.length:=hq▸hle;rw [hq] at hrun;have HG:=Lib.hid hst;clear hst hq hle;obtain ⟨R,hR⟩:∃ R,gapB s=R:=⟨_,rfl⟩;rw [hR] at HG ⊢
 go_enter Tryz.func113,Tryz.ntmps113
 go_wp2_with (go_at_call 105;refine hrun.out.mono ?_;rintro e w' ⟨rfl,rfl⟩)
 go_loop [3] (fun i=>∃ k f:Nat,k≤s.length∧i=.int .i64 k∧s.length - k < f∧gapC f (s.drop k)=R) (fun i=>s.length - (intOf i).toNat)
 case atStart=>exact ⟨q,s.length+1,hqs,rfl,by omega,HG.out⟩
 case round =>
  obtain ⟨k,f,hk,rfl,hf,hg⟩:=hrel;have HC:=Lib.hid hg;clear hg HG hqs hrun
  by_cases hlt:k < s.length
  ·have hsz:k < (⟨s.toArray⟩:ByteArray).size:=by simpa [ByteArray.size] using hlt
   obtain ⟨c,hc⟩:∃ c,((⟨s.toArray⟩:ByteArray)[k]'hsz).toNat=c:=⟨_,rfl⟩
   by_cases h35:(c:Int)=35
   ·have hb:((c:Int)==35)=true:=by simp [h35]
    go_wp2_with fail;have hdk:s.drop k=s[k]::s.drop (k+1):=List.drop_eq_getElem_cons hlt
    have hck:s[k].toNat=35:=by have:s[k].toNat=c:=hc;omega
    obtain ⟨f,rfl⟩:∃ g,f=g+1:=⟨f - 1,by omega⟩
    have hnext:gapC f (((s.drop k).dropWhile (fun c=>c.toNat != 10)).dropWhile blankB)=R:=by
     have:=HC.out;rw [hdk,gapC,if_pos hck,←hdk] at this;exact this
    have HN:=Lib.hid hnext;have HD:=Lib.hid hdk;have HK:=Lib.hid hck;clear hnext hdk hck HC hc hb h35
    go_loop [3] (fun i=>∃ j:Nat,k≤j∧j≤s.length∧i=.int .i64 j∧(s.drop k).dropWhile (fun c=>c.toNat != 10)=(s.drop j).dropWhile (fun c=>c.toNat != 10)) (fun i=>s.length - (intOf i).toNat)
    case atStart=>exact ⟨k,Nat.le_refl _,hk,rfl,rfl⟩
    case round =>
     obtain ⟨j,hkj,hj,rfl,hsame⟩:=hrel;have HS:=Lib.hid hsame;clear hsame
     by_cases hjl:j < s.length
     ·have hsz:j < (⟨s.toArray⟩:ByteArray).size:=by simpa [ByteArray.size] using hjl
      have hdj:s.drop j=s[j]::s.drop (j+1):=List.drop_eq_getElem_cons hjl;obtain ⟨d,hd⟩:∃ d,((⟨s.toArray⟩:ByteArray)[j]'hsz).toNat=d:=⟨_,rfl⟩
      by_cases h10:(d:Int)=10
      ·have hb:((d:Int) != 10)=false:=by simp [h10]
       have hex:(s.drop j).dropWhile (fun c=>c.toNat != 10)=s.drop j:=by
        have h1:s[j].toNat=d:=hd;rw [hdj,List.dropWhile_cons,if_neg (by rw [h1];simp;omega)]
       have hne:j≠k:=by
        intro e;subst e;have h1:s[j].toNat=d:=hd;have:=HK.out;omega
       have HX:=Lib.hid hex;clear hex hdj h10;have hrl:=runB_le blankB (s.drop j);obtain ⟨r,hr⟩:∃ r,runB blankB (s.drop j)=r:=⟨_,rfl⟩
       have hfin:gapC f (s.drop (j+r))=R:=by
        have h1:=HN.out;rw [HS.out,HX.out,←drop_run,hr,List.drop_drop] at h1;exact h1
       have hrun2:=Lib.hid (run_blank (s.drop j) w (by rw [List.length_drop];omega));rw [hr] at hrun2 hrl;rw [List.length_drop] at hrl;have HF:=Lib.hid hfin;clear hfin hr HN HS HX HD HK;go_wp2_with (go_at_call 105;rw [post_eq];refine hrun2.out.mono ?_;rintro e w' ⟨rfl,rfl⟩)
       go_round
       case rel=>exact ⟨j+r,f,by omega,by go_num,by omega,HF.out⟩
       case measure=>simp [intOf];omega
      ·have hb:((d:Int) != 10)=true:=by simp [h10]
       have hst:(s.drop k).dropWhile (fun c=>c.toNat != 10)=(s.drop (j+1)).dropWhile (fun c=>c.toNat != 10):=by
        have h1:s[j].toNat=d:=hd;rw [HS.out,hdj,List.dropWhile_cons,if_pos (by rw [h1];simp;omega)]
       have HT:=Lib.hid hst;clear hst hdj;go_wp2_with fail
       go_round
       case rel=>exact ⟨j+1,by omega,by omega,by go_num,HT.out⟩
       case measure=>simp [intOf];omega
     ·have hex:(s.drop j).dropWhile (fun c=>c.toNat != 10)=s.drop j:=by rw [List.drop_of_length_le (by omega)];rfl
      have hne:j≠k:=by omega
      have HX:=Lib.hid hex;clear hex;have hrl:=runB_le blankB (s.drop j);obtain ⟨r,hr⟩:∃ r,runB blankB (s.drop j)=r:=⟨_,rfl⟩
      have hfin:gapC f (s.drop (j+r))=R:=by
       have h1:=HN.out;rw [HS.out,HX.out,←drop_run,hr,List.drop_drop] at h1;exact h1
      have hrun2:=Lib.hid (run_blank (s.drop j) w (by rw [List.length_drop];omega));rw [hr] at hrun2 hrl;rw [List.length_drop] at hrl;have HF:=Lib.hid hfin;clear hfin hr HN HS HX HD HK;go_wp2_with (go_at_call 105;rw [post_eq];refine hrun2.out.mono ?_;rintro e w' ⟨rfl,rfl⟩)
      go_round
      case rel=>exact ⟨j+r,f,by omega,by go_num,by omega,HF.out⟩
      case measure=>simp [intOf];omega
   ·have hb:((c:Int)==35)=false:=by simp [h35]
    have hfin:R.length=s.length - k:=by
     have hdk:s.drop k=s[k]::s.drop (k+1):=List.drop_eq_getElem_cons hlt;have h1:s[k].toNat=c:=hc;have:=HC.out;obtain ⟨f,rfl⟩:∃ g,f=g+1:=⟨f - 1,by omega⟩;rw [hdk,gapC,if_neg (by omega),←hdk] at this;rw [←this,List.length_drop]
    have hk2:s.length - R.length=k:=by omega
    have HF:=Lib.hid hk2;clear hfin hk2;go_wp2_with fail;go_ret;exact ⟨by rw [HF.out];rfl,rfl⟩
  ·obtain rfl:k=s.length:=by omega
   have hfin:R.length=0:=by
    have:=HC.out;obtain ⟨f,rfl⟩:∃ g,f=g+1:=⟨f - 1,by omega⟩;rw [List.drop_length,gapC] at this;rw [←this];rfl
   have hk2:s.length - R.length=s.length:=by omega
   have HF:=Lib.hid hk2;clear hfin hk2;go_wp2_with fail;go_ret;exact ⟨by rw [HF.out];rfl,rfl⟩
end Go.Proofs.YtpcmamoomaddoaaGreatDoor
/- base.quoted. -/
namespace Go.Proofs.YtpcmamoomaddoaaGreatDoor
open Go.RowKit
theorem infoU8:(Tryz.prog.info? 5).map (fun i=>(i.zero,i.size,i.bytes))=some (some (.int .u8 0),1,1):=by kernel_rfl
def u8s (l:Bs):List Value:=l.map fun c=>.int .u8 (c.toNat:Int)
theorem conv_own {w:World} {B:Nat} {v:Value} {l:Bs} (h:w.ownsRow B 5 1 v l.length (u8s l)) :
  (convert 248 9 v).run Tryz.prog w=.ok (.string ⟨l.toArray⟩) w:=by
 rcases h.2 with ⟨h1,h2⟩|⟨g,cap,cur,hv,hB,hg,hnc,hcm,hcs,hx⟩
 ·have:l=[]:=by simpa [u8s] using h2
  subst this;subst h1;exact Lib.run_convert_nil_bytes w _ _ 5 0 Tryz.underlying248 Tryz.underlying5 Tryz.underlying9
 ·subst hv;have:=Lib.run_convert_whole (P:=Tryz.prog) w 248 5 9 Tryz.underlying248 Tryz.underlying5 Tryz.underlying9 g 0 ⟨l.toArray⟩ (fun i hi=>?_) cap
  ·exact this
  ·have hil:i < l.length:=by simpa [ByteArray.size] using hi
   have e1:(u8s l)[i]?=some (.int .u8 (l[i].toNat:Int)):=by simp [u8s,hil]
   rw [←hx,List.getElem?_take] at e1
   split at e1
   ·simp only [World.cell?,hg,Option.isSome_none,Bool.false_eq_true,if_false,Nat.zero_add];rw [Array.getElem?_toList] at e1;exact e1
   ·cases e1
def quotRet (o:Option (Bs × Nat)):Value :=
 match o with
 | none=>.tuple #[.string ⟨#[]⟩,.int .i64 0]
 | some (v,n)=>.tuple #[.string ⟨v.toArray⟩,.int .i64 n]
set_option maxRecDepth 100000 in
set_option maxHeartbeats 4000000 in
theorem quoted_any (s:List UInt8) (w:World) (hs:s.length≤100000000) (h1:1≤s.length) :
  Calls Tryz.prog 151 #[.string ⟨s.toArray⟩] w fun e w'=>e=.returned (quotRet (quotedB (s.drop 1) [] 1))∧Kept [] w w':=by
 obtain ⟨R,hR⟩:∃ R,quotedB (s.drop 1) [] 1=R:=⟨_,rfl⟩;have H1:=Lib.hid hR;rw [hR];clear hR;obtain ⟨i0,hi,hz0,hz1,hz2⟩:=info_parts infoU8
 go_enter Tryz.func151,Tryz.ntmps151
 go_wp2_with fail
 go_step3
 go_wp2_with fail
 go_step3
 go_wp2_with fail
 go_loopw [4,5] (fun v i wr=>∃ (val:Bs) (n:Nat),1≤n∧n≤s.length∧i=.int .i64 n∧wr.ownsRow w.heap.size 5 1 v val.length (u8s val)∧Kept [] w wr∧val.length≤n∧quotedB (s.drop n) val n=R) (fun _ i _=>s.length - (intOf i).toNat)
 case atStart=>exact ⟨[],1,Nat.le_refl _,h1,rfl,World.ownsRow_nil _ _ _ _,Kept.refl _ _,Nat.zero_le _,H1.out⟩
 case round =>
  obtain ⟨val,n,hn1,hn,rfl,hown,hkr,hvl,hq⟩:=hrel;obtain ⟨av,cv,rfl⟩:=own_len hown (by decide);have HQ:=Lib.hid hq;have HO:=Lib.hid hown;have HKR:=Lib.hid hkr;clear hq H1 h1
  by_cases hlt:n < s.length
  ·have hsz:n < (⟨s.toArray⟩:ByteArray).size:=by simpa [ByteArray.size] using hlt
   have hd:s.drop n=s[n]::s.drop (n+1):=List.drop_eq_getElem_cons hlt;obtain ⟨c,hc⟩:∃ c,s[n]=c:=⟨_,rfl⟩;have hc':(⟨s.toArray⟩:ByteArray)[n]'hsz=c:=hc;rw [hc] at hd;have hq2:=HQ.out;rw [hd,quotedB.eq_def] at hq2
   simp only at hq2
   cases hp:plainB c
   ·rw [if_pos hp] at hq2;subst hq2;clear hd;go_wp2_with (go_at_call 193;refine (plain_any _ _).mono ?_;rw [hp];rintro e w' ⟨rfl,rfl⟩);rw [Exit.noGoto_ret]
    go_ret2
    exact ⟨rfl,HKR.out⟩
   ·rw [if_neg (by rw [hp];simp)] at hq2;obtain ⟨m,hm⟩:∃ m,c.toNat=m:=⟨_,rfl⟩;have HP:=Lib.hid (plain_any c wr);rw [hp,hm] at HP;rw [hm] at hq2;have HM:=Lib.hid hm
    have hcm:((⟨s.toArray⟩:ByteArray)[n]'hsz).toNat=m:=by rw [hc'];exact hm
    clear hc hc' hm hp
    by_cases h34:m=34
    ·rw [if_pos h34] at hq2
     have hb:((m:Int)==34)=true:=by simp;omega
     have H2:=Lib.hid hq2;clear hq2 hd h34
     by_cases h400:(400:Int) < (val.length:Int)
     ·have hq3:=H2.out;rw [if_pos (by omega)] at hq3;subst hq3;go_wp2_with (go_at_call 193;refine HP.out.mono ?_;rintro e w' ⟨rfl,rfl⟩);rw [Exit.noGoto_ret]
      go_ret2
      exact ⟨rfl,HKR.out⟩
     ·have hq3:=H2.out;rw [if_neg (by omega)] at hq3;subst hq3;have hcv:=conv_own HO.out;go_wp2_with (go_at_call 193;refine HP.out.mono ?_;rintro e w' ⟨rfl,rfl⟩);rw [Exit.noGoto_ret]
      go_ret2
      exact ⟨rfl,HKR.out⟩
    ·rw [if_neg h34] at hq2
     have hb:((m:Int)==34)=false:=by simp;omega
     by_cases h92:m=92
     ·rw [if_pos h92] at hq2
      have hb2:((m:Int)==92)=true:=by simp;omega
      by_cases hlt2:n+1 < s.length
      ·have hsz2:n+1 < (⟨s.toArray⟩:ByteArray).size:=by simpa [ByteArray.size] using hlt2
       have hd2:s.drop (n+1)=s[n+1]::s.drop (n+1+1):=List.drop_eq_getElem_cons hlt2;obtain ⟨d,hdd⟩:∃ d,s[n+1]=d:=⟨_,rfl⟩;have hdd':(⟨s.toArray⟩:ByteArray)[n+1]'hsz2=d:=hdd;rw [hdd] at hd2;rw [hd2] at hq2
       simp only at hq2
       obtain ⟨k,hk⟩:∃ k,d.toNat=k:=⟨_,rfl⟩;rw [hk] at hq2;have HKD:=Lib.hid hk
       have hkd:((⟨s.toArray⟩:ByteArray)[n+1]'hsz2).toNat=k:=by rw [hdd'];exact hk
       clear hdd hdd' hk hd hd2
       by_cases hok:k=34∨k=92
       ·rw [if_pos hok] at hq2;have H2:=Lib.hid hq2;clear hq2
        rcases hok with hok|hok
        ·have hb3:((k:Int) != 34)=false:=by simp;omega
         clear hok h34 h92
         go_wp2_with (first
          | (go_at_call 193;refine HP.out.mono ?_;rintro e w' ⟨rfl,rfl⟩)
          | (at_builtin;refine wpList_append_row rfl _ _ _ rfl w.heap.size 5 i0 (.int .u8 0) 1 1 Tryz.underlying248 hi hz0 hz1 hz2 rfl (by decide) _ val.length (u8s val) rfl (HO.out.alloc _) _ 1 [.int .u8 (k:Int)] rfl (row_of_blk (Blk.new _ _ _) rfl (by decide)) (by simp [Value.oneCell']) (by unfold maxLen;omega) (by omega) (by simp only [World.size_alloc];have:=HKR.out.size;omega) ?_))
         intro a' c' w2 hown2 hg2 hl2;have hk2:Kept [] w w2:=HKR.out.fresh (S':=obl (.slice av val.length cv)) (((Kept.refl _ _).alloc _).trans hg2) (fun z hz=>(own_ge HO.out z hz).1)
         have hown3:w2.ownsRow w.heap.size 5 1 (.slice a' (val.length+1) c') (val++[d]).length (u8s (val++[d])):=by
          have e1:u8s (val++[d])=u8s val++[.int .u8 (k:Int)]:=by simp [u8s,HKD.out]
          rw [e1,List.length_append];exact hown2
         have HO3:=Lib.hid hown3;clear hown2 hg2 hl2 hown3;go_wp2_with fail
         go_roundw
         case rel=>exact ⟨val++[d],n+2,by omega,by omega,by go_num,HO3.out,hk2,by rw [List.length_append];simp;omega,H2.out⟩
         case measure=>simp [intOf];omega
        ·have hb3:((k:Int) != 34)=true:=by simp;omega
         have hb4:((k:Int) != 92)=false:=by simp;omega
         clear hok h34 h92
         go_wp2_with (first
          | (go_at_call 193;refine HP.out.mono ?_;rintro e w' ⟨rfl,rfl⟩)
          | (at_builtin;refine wpList_append_row rfl _ _ _ rfl w.heap.size 5 i0 (.int .u8 0) 1 1 Tryz.underlying248 hi hz0 hz1 hz2 rfl (by decide) _ val.length (u8s val) rfl (HO.out.alloc _) _ 1 [.int .u8 (k:Int)] rfl (row_of_blk (Blk.new _ _ _) rfl (by decide)) (by simp [Value.oneCell']) (by unfold maxLen;omega) (by omega) (by simp only [World.size_alloc];have:=HKR.out.size;omega) ?_))
         intro a' c' w2 hown2 hg2 hl2;have hk2:Kept [] w w2:=HKR.out.fresh (S':=obl (.slice av val.length cv)) (((Kept.refl _ _).alloc _).trans hg2) (fun z hz=>(own_ge HO.out z hz).1)
         have hown3:w2.ownsRow w.heap.size 5 1 (.slice a' (val.length+1) c') (val++[d]).length (u8s (val++[d])):=by
          have e1:u8s (val++[d])=u8s val++[.int .u8 (k:Int)]:=by simp [u8s,HKD.out]
          rw [e1,List.length_append];exact hown2
         have HO3:=Lib.hid hown3;clear hown2 hg2 hl2 hown3;go_wp2_with fail
         go_roundw
         case rel=>exact ⟨val++[d],n+2,by omega,by omega,by go_num,HO3.out,hk2,by rw [List.length_append];simp;omega,H2.out⟩
         case measure=>simp [intOf];omega
       ·rw [if_neg hok] at hq2;subst hq2
        have hb3:((k:Int) != 34)=true:=by simp;omega
        have hb4:((k:Int) != 92)=true:=by simp;omega
        clear hok h34 h92;go_wp2_with (go_at_call 193;refine HP.out.mono ?_;rintro e w' ⟨rfl,rfl⟩);rw [Exit.noGoto_ret]
        go_ret2
        exact ⟨rfl,HKR.out⟩
      ·obtain hle:s.length=n+1:=by omega
       have hnil:s.drop (n+1)=[]:=List.drop_of_length_le (by omega);rw [hnil] at hq2
       simp only at hq2
       subst hq2;clear hd h34 h92 hnil
       have hge:(s.length:Int)≤(n:Int)+1:=by omega
       clear hle;go_wp2_with (go_at_call 193;refine HP.out.mono ?_;rintro e w' ⟨rfl,rfl⟩);rw [Exit.noGoto_ret]
       go_ret2
       exact ⟨rfl,HKR.out⟩
     ·rw [if_neg h92] at hq2
      have hb2:((m:Int)==92)=false:=by simp;omega
      have H2:=Lib.hid hq2;clear hq2 hd h34 h92
      go_wp2_with (first
       | (go_at_call 193;refine HP.out.mono ?_;rintro e w' ⟨rfl,rfl⟩)
       | (at_builtin;refine wpList_append_row rfl _ _ _ rfl w.heap.size 5 i0 (.int .u8 0) 1 1 Tryz.underlying248 hi hz0 hz1 hz2 rfl (by decide) _ val.length (u8s val) rfl (HO.out.alloc _) _ 1 [.int .u8 (m:Int)] rfl (row_of_blk (Blk.new _ _ _) rfl (by decide)) (by simp [Value.oneCell']) (by unfold maxLen;omega) (by omega) (by simp only [World.size_alloc];have:=HKR.out.size;omega) ?_))
      intro a' c' w2 hown2 hg2 hl2;have hk2:Kept [] w w2:=HKR.out.fresh (S':=obl (.slice av val.length cv)) (((Kept.refl _ _).alloc _).trans hg2) (fun z hz=>(own_ge HO.out z hz).1)
      have hown3:w2.ownsRow w.heap.size 5 1 (.slice a' (val.length+1) c') (val++[c]).length (u8s (val++[c])):=by
       have e1:u8s (val++[c])=u8s val++[.int .u8 (m:Int)]:=by simp [u8s,HM.out]
       rw [e1,List.length_append];exact hown2
      have HO3:=Lib.hid hown3;clear hown2 hg2 hl2 hown3;go_wp2_with fail
      go_roundw
      case rel=>exact ⟨val++[c],n+1,by omega,by omega,by go_num,HO3.out,hk2,by rw [List.length_append];simp;omega,H2.out⟩
      case measure=>simp [intOf];omega
  ·obtain rfl:n=s.length:=by omega
   have hq2:=HQ.out;rw [List.drop_length,quotedB] at hq2;subst hq2;go_wp2_with fail;rw [Exit.noGoto_ret]
   go_ret2
   exact ⟨rfl,HKR.out⟩
end Go.Proofs.YtpcmamoomaddoaaGreatDoor
/- The listed package-level variables, as every contract takes them: base.signs, ask.reserved. -/
namespace Go.Proofs.YtpcmamoomaddoaaGreatDoor
open Go.RowKit
theorem g_signs : Tryz.prog.globalNamed "cloak/base.signs" = some 1 := by kernel_rfl
theorem g_reserved : Tryz.prog.globalNamed "cloak/ask.reserved" = some 0 := by kernel_rfl
theorem var_kept {S:List Nat} {w w':World} {n:String} {g:Nat} {cs:Array Value} (hg:Tryz.prog.globalNamed n=some g) (h:Kept S w w') (hS:g∉S)
  (hv:w.var? Tryz.prog n=some cs):w'.var? Tryz.prog n=some cs:=by
 unfold World.var? at hv ⊢
 rw [hg] at hv ⊢;simp only [Option.bind_some] at hv ⊢
 have hlt:g < w.heap.size:=by
  rcases Nat.lt_or_ge g w.heap.size with h1|h1
  ·exact h1
  ·rw [Array.getElem?_eq_none h1] at hv;cases hv
 rw [h.block g hlt hS];exact hv
/-- a cell of a variable -/
theorem var_cell {w:World} {n:String} {g:Nat} {cs:Array Value} (hg:Tryz.prog.globalNamed n=some g) (hv:w.var? Tryz.prog n=some cs) (i:Nat):w.cell? ⟨g,i,none⟩=cs[i]?:=by
 unfold World.var? at hv
 rw [hg] at hv;simp only [Option.bind_some] at hv
 unfold World.cell?
 split at hv
 ·next h =>
  injection hv with hv;subst hv
  simp [h]
 ·cases hv
/-- the variables are as laid; all that they lead to lies below block B -/
structure EnvB (B:Nat) (w:World):Prop where
 size:B≤w.heap.size
 low:1 < B∧0 < B∧2 < B
 mlen:∃ m,w.cell? ⟨2,0,none⟩=some (.int .i64 m)
 signs : w.var? Tryz.prog "cloak/base.signs" = some (strs signsB).toArray
 res : ∃ b off c, b < B ∧ 8 ≤ c ∧ w.var? Tryz.prog "cloak/ask.reserved" = some #[.slice (some ⟨b, off, none⟩) 8 c] ∧ ∀ k u, (strs reservedB)[k]? = some u → w.cell? ⟨b, off + k, none⟩ = some u
section
variable {B:Nat} {S:List Nat} {w w':World}
theorem EnvB.kept (hE:EnvB B w) (h:Kept S w w') (hS:∀ k∈S,B≤k):EnvB B w':=by
 have ne:∀ g,g < B→g∉S:=fun g hg hx=>by have:=hS g hx;omega
 obtain ⟨b,off,c,h1,h2,h3,h4⟩:=hE.res;obtain ⟨m,hm⟩:=hE.mlen;refine ⟨Nat.le_trans hE.size h.size,hE.low,⟨m,(h.cell (World.block_lt_of_cell? w _ hm) (ne _ hE.low.2.2)).trans hm⟩,var_kept g_signs h (ne _ hE.low.1) hE.signs,b,off,c,h1,h2,var_kept g_reserved h (ne _ hE.low.2.1) h3,fun k u hu=>?_⟩;have:=h4 k u hu;exact (h.cell (World.block_lt_of_cell? w _ this) (ne _ h1)).trans this
theorem EnvB.kept0 (hE:EnvB B w) (h:Kept [] w w'):EnvB B w':=hE.kept h (by simp)
end
end Go.Proofs.YtpcmamoomaddoaaGreatDoor
namespace Go.Proofs.YtpcmamoomaddoaaGreatDoor
open Go.RowKit
def nextRet (o:Except Int (Tok × Nat)):Value :=
 match o with
 | .error e=>.tuple #[.agg #[.int .i64 0,.string ⟨#[]⟩,.int .i64 0,.int .i64 0],.int .i64 0,.int .i64 e]
 | .ok (t,n)=>.tuple #[.agg #[.int .i64 t.kind,.string ⟨t.text.toArray⟩,.int .i64 t.n,.int .i64 t.pos],.int .i64 n,.int .i64 0]
set_option maxRecDepth 100000 in
theorem infoSg:(Tryz.prog.info? 208).map (·.size)=some 19:=by kernel_rfl
theorem EnvB.row {B:Nat} {w:World} (hE:EnvB B w):∃ t fr,w.heap[1]?=some (.cells (strs signsB).toArray t fr):=by
 have hv:=hE.signs
 unfold World.var? at hv
 rw [g_signs] at hv;simp only [Option.bind_some] at hv
 split at hv
 ·next cs t fr h =>
  injection hv with hv;exact ⟨t,fr,hv▸h⟩
 ·cases hv
theorem sign_at (k:Nat) (hk:k < 19) (w:World):(Instr.index 208 (.agg (strs signsB).toArray) (.int .i64 (k:Int))).run Tryz.prog w=.ok (.string ⟨(signsB.getD k []).toArray⟩) w:=by
 have h:∀ k:Nat,k < 19→(strs signsB).toArray[k]?=some (.string ⟨(signsB.getD k []).toArray⟩):=fun k hk=>by
  rw [List.getElem?_toArray];have hl:k < signsB.length:=hk;rw [strs_get hl,List.getD_eq_getElem?_getD,List.getElem?_eq_getElem hl]
  rfl
 have h2:=h k hk;obtain ⟨A,hA⟩:∃ A,(strs signsB).toArray=A:=⟨_,rfl⟩;rw [hA] at h2 ⊢;clear hA h
 simp [Instr.index,run_underlying Tryz.underlying208,asIntOf,go_sem,h2]
 omega
theorem next_end {w w2:World} {tmps:Array Value} {v0 v1 v2 v3 n e X:Value} {b:Nat} (hb:Blk w2 b 170 #[v0,v1,v2,v3]) (h2:tmps[2]?.getD undef=.pointer (some ⟨b,0,none⟩))
  (h3:tmps[3]?.getD undef=n) (h4:tmps[4]?.getD undef=e) (hk:Kept [] w w2) (hX:.tuple #[.agg #[v0,v1,v2,v3],n,e]=X) :
  bodyPost Tryz.prog Tryz.f114 (fun e w'=>e=.returned X∧Kept [] w w') Exit.ret { tmps:=tmps,defers:=[] } w2:=by
 subst hX;have c0:w2.cell? ⟨b,0,none⟩=some v0:=hb.cell 0;have c1:w2.cell? ⟨b,1,none⟩=some v1:=hb.cell 1;have c2:w2.cell? ⟨b,2,none⟩=some v2:=hb.cell 2;have c3:w2.cell? ⟨b,3,none⟩=some v3:=hb.cell 3;refine bodyPost_ret (v:=.tuple #[.agg #[v0,v1,v2,v3],n,e]) ?_ rfl ⟨rfl,hk⟩;simp only [results,Tryz.results114]
 simp [go_sem,h2,h3,h4,c0,c1,c2,c3]
set_option maxRecDepth 100000 in
set_option maxHeartbeats 4000000 in
theorem next_any (B:Nat) (a:UInt8) (r:Bs) (w:World) (hs:r.length+1≤100000000) (hE:EnvB B w) :
  Calls Tryz.prog 114 #[.string ⟨(a::r).toArray⟩] w fun e w'=>e=.returned (nextRet (nextB (a::r)))∧Kept [] w w':=by
 have hsz:0 < (⟨(a::r).toArray⟩:ByteArray).size:=by simp [ByteArray.size]
 obtain ⟨m,hm⟩:∃ m,a.toNat=m:=⟨_,rfl⟩;have hg:((⟨(a::r).toArray⟩:ByteArray)[0]'hsz).toNat=m:=hm;obtain ⟨W,hW⟩:∃ W,w.alloc (.cells #[.int .i64 0,.string ⟨#[]⟩,.int .i64 0,.int .i64 0] 170)=W:=⟨_,rfl⟩;have hB:Blk W w.heap.size 170 #[.int .i64 0,.string ⟨#[]⟩,.int .i64 0,.int .i64 0]:=hW▸Blk.new _ _ _;have hkW:Kept [] w W:=hW▸(Kept.refl _ _).alloc _;have hEW:=hE.kept0 hkW;have HB:=Lib.hid hB;have HKW:=Lib.hid hkW;have HW:=Lib.hid hW;have HE:=Lib.hid hEW;clear hW hB hkW hE hEW;have HL:=Lib.hid (letter_any a W);have HD:=Lib.hid (digit_any a W);rw [hm] at HL HD;obtain ⟨R,hR⟩:∃ R,nextB (a::r)=R:=⟨_,rfl⟩;have hR2:=hR;rw [nextB] at hR2;rw [hR];clear hR;have q0:∀ v0 v1 v2 v3,Blk ((((W.setCell ⟨w.heap.size,0,none⟩ v0).setCell ⟨w.heap.size,1,none⟩ v1).setCell ⟨w.heap.size,2,none⟩ v2).setCell ⟨w.heap.size,3,none⟩ v3) w.heap.size 170 #[v0,v1,v2,v3]:=fun v0 v1 v2 v3=>(((HB.out.set_ 0 v0).set_ 1 v1).set_ 2 v2).set_ 3 v3
 have k0:∀ v0 v1 v2 v3,Kept [] w ((((W.setCell ⟨w.heap.size,0,none⟩ v0).setCell ⟨w.heap.size,1,none⟩ v1).setCell ⟨w.heap.size,2,none⟩ v2).setCell ⟨w.heap.size,3,none⟩ v3):=fun v0 v1 v2 v3 =>
  (((HKW.out.setCell (Or.inr (Nat.le_refl _)) v0).setCell (Or.inr (Nat.le_refl _)) v1).setCell (Or.inr (Nat.le_refl _)) v2).setCell (Or.inr (Nat.le_refl _)) v3
 have Q0:=Lib.hid q0;have K0:=Lib.hid k0;clear k0;clear q0
 go_enter Tryz.func114,Tryz.ntmps114
 go_upto_region 1 with (fail);have hW':=HW.out;rw [hW'];clear hW';have c0:W.cell? ⟨w.heap.size,0,none⟩=some (.int .i64 0):=HB.out.cell 0;have c1:W.cell? ⟨w.heap.size,1,none⟩=some (.string ⟨#[]⟩):=HB.out.cell 1;have c2:W.cell? ⟨w.heap.size,2,none⟩=some (.int .i64 0):=HB.out.cell 2;have c3:W.cell? ⟨w.heap.size,3,none⟩=some (.int .i64 0):=HB.out.cell 3;have f0:=HB.out.frozen 0;have f1:=HB.out.frozen 1;have f2:=HB.out.frozen 2;have f3:=HB.out.frozen 3
 cases hl:letterB a
 ·rw [hl] at HL hR2
  cases hd:digitB a
  ·rw [hd] at HD hR2;rw [if_neg (by simp),if_neg (by simp),hm] at hR2
   by_cases h34:m=34
   ·rw [if_pos h34] at hR2
    have hb:((m:Int)==34)=true:=by simp;omega
    have hq:=quoted_any (a::r) W hs (by simp);rw [show (a::r).drop 1=r from rfl] at hq;have HQ:=Lib.hid hq;clear hq h34 hm
    cases hqr:quotedB r [] 1 with
    | none =>
     rw [hqr] at HQ hR2
     simp only at hR2
     subst hR2
     go_wp2_with (first
      | (go_at_call 104;refine HL.out.mono ?_;rintro e w' ⟨rfl,rfl⟩)
      | (go_at_call 147;refine HD.out.mono ?_;rintro e w' ⟨rfl,rfl⟩)
      | (go_at_call 151;refine HQ.out.mono ?_;unfold quotRet;rintro e w5 ⟨rfl,k5⟩;replace c0:=Kept.cellOf c0 w5 k5;replace c1:=Kept.cellOf c1 w5 k5;replace c2:=Kept.cellOf c2 w5 k5;replace c3:=Kept.cellOf c3 w5 k5;replace f0:=(k5.frozen HB.out.lt (by simp)).trans f0;replace f1:=(k5.frozen (p:=⟨w.heap.size,1,none⟩) HB.out.lt (by simp)).trans f1;replace f2:=(k5.frozen (p:=⟨w.heap.size,2,none⟩) HB.out.lt (by simp)).trans f2;replace f3:=(k5.frozen (p:=⟨w.heap.size,3,none⟩) HB.out.lt (by simp)).trans f3;replace HB:=Lib.hid (HB.out.kept k5 (by simp));replace HKW:=Lib.hid (HKW.out.trans k5);clear k5))
     exact next_end ((((HB.out.set_ 0 _).set_ 1 _).set_ 2 _).set_ 3 _) rfl rfl rfl ((((HKW.out.setCell (Or.inr (Nat.le_refl _)) _).setCell (Or.inr (Nat.le_refl _)) _).setCell (Or.inr (Nat.le_refl _)) _).setCell (Or.inr (Nat.le_refl _)) _) rfl
    | some x =>
     obtain ⟨v,n⟩:=x;have hpos:=quotedB_pos _ _ _ hqr
     have hn0:((n:Int)==0)=false:=by simp;omega
     rw [hqr] at HQ hR2
     simp only at hR2
     subst hR2;clear hpos
     go_wp2_with (first
      | (go_at_call 104;refine HL.out.mono ?_;rintro e w' ⟨rfl,rfl⟩)
      | (go_at_call 147;refine HD.out.mono ?_;rintro e w' ⟨rfl,rfl⟩)
      | (go_at_call 151;refine HQ.out.mono ?_;unfold quotRet;rintro e w5 ⟨rfl,k5⟩;replace c0:=Kept.cellOf c0 w5 k5;replace c1:=Kept.cellOf c1 w5 k5;replace c2:=Kept.cellOf c2 w5 k5;replace c3:=Kept.cellOf c3 w5 k5;replace f0:=(k5.frozen HB.out.lt (by simp)).trans f0;replace f1:=(k5.frozen (p:=⟨w.heap.size,1,none⟩) HB.out.lt (by simp)).trans f1;replace f2:=(k5.frozen (p:=⟨w.heap.size,2,none⟩) HB.out.lt (by simp)).trans f2;replace f3:=(k5.frozen (p:=⟨w.heap.size,3,none⟩) HB.out.lt (by simp)).trans f3;replace HB:=Lib.hid (HB.out.kept k5 (by simp));replace HKW:=Lib.hid (HKW.out.trans k5);clear k5))
     exact next_end ((((HB.out.set_ 0 _).set_ 1 _).set_ 2 _).set_ 3 _) rfl rfl rfl ((((HKW.out.setCell (Or.inr (Nat.le_refl _)) _).setCell (Or.inr (Nat.le_refl _)) _).setCell (Or.inr (Nat.le_refl _)) _).setCell (Or.inr (Nat.le_refl _)) _) rfl
   ·rw [if_neg h34] at hR2
    have hb:((m:Int)==34)=false:=by simp;omega
    obtain ⟨tg,fr,hrow⟩:=HE.out.row;have HG:=Lib.hid hrow;obtain ⟨A,hA⟩:∃ A,(strs signsB).toArray=A:=⟨_,rfl⟩
    have hA19:(Tryz.prog.info? 208).map (·.size)=some A.size:=by rw [infoSg,←hA];rfl
    have HI:=Lib.hid hA19;rw [hA] at HG;clear h34 hm hrow hA19
    go_wp2_with (first
     | (go_at_call 104;refine HL.out.mono ?_;rintro e w' ⟨rfl,rfl⟩)
     | (go_at_call 147;refine HD.out.mono ?_;rintro e w' ⟨rfl,rfl⟩)
     | (refine wpList_load_row rfl _ _ rfl 1 rfl tg A fr _ HG.out Tryz.underlying208 rfl HI.out ?_))
    have HAS:=Lib.hid hA;clear hA
    go_loop [66] (fun i=>∃ k:Nat,k≤19∧i=.int .i64 k∧signsB.find? (fun t=>t.isPrefixOf (a::r))=(signsB.drop k).find? (fun t=>t.isPrefixOf (a::r))) (fun i=>19 - (intOf i).toNat)
    case atStart=>exact ⟨0,Nat.zero_le _,rfl,rfl⟩
    case round =>
     obtain ⟨k,hk,rfl,hf⟩:=hrel;have HF:=Lib.hid hf;clear hf
     by_cases hlt:k < 19
     ·have hlt':(k:Int) < 19:=by omega
      obtain ⟨t,ht⟩:∃ t,signsB.getD k []=t:=⟨_,rfl⟩;have hix:=sign_at k hlt W;rw [HAS.out,ht] at hix;have hkl:k < signsB.length:=hlt
      have hdk:signsB.drop k=t::signsB.drop (k+1):=by
       rw [List.drop_eq_getElem_cons hkl,←ht,List.getD_eq_getElem?_getD,List.getElem?_eq_getElem hkl]
       rfl
      have hpre:=Tryz.strings_HasPrefix ⟨(a::r).toArray⟩ ⟨t.toArray⟩ W;have hf2:=HF.out;rw [hdk,List.find?_cons] at hf2;have hpb:Lib.hasPrefix (a::r) t=t.isPrefixOf (a::r):=rfl
      change Calls _ _ _ _ (fun e w'=>e=.returned (.bool (Lib.hasPrefix (a::r) t))∧w'=W) at hpre
      rw [hpb] at hpre
      cases hp:t.isPrefixOf (a::r)
      ·rw [hp] at hpre hf2
       simp only at hf2
       have HP:=Lib.hid hpre;have HF2:=Lib.hid hf2;clear hpre hf2 hpb hdk ht hp;go_wp2_with (go_at_call 152;refine HP.out.mono ?_;rintro e w' ⟨rfl,rfl⟩)
       go_round
       case rel=>exact ⟨k+1,by omega,by go_num,HF2.out⟩
       case measure=>simp [intOf];omega
      ·rw [hp] at hpre hf2
       simp only at hf2
       rw [hf2] at hR2
       simp only at hR2
       subst hR2;have HP:=Lib.hid hpre;clear hpre hf2 hpb hdk ht hp HF;go_wp2_with (go_at_call 152;refine HP.out.mono ?_;rintro e w' ⟨rfl,rfl⟩);exact next_end (Q0.out _ _ _ _) rfl rfl rfl (K0.out _ _ _ _) rfl
     ·obtain rfl:k=19:=by omega
      have hnone:signsB.find? (fun t=>t.isPrefixOf (a::r))=none:=by rw [HF.out];rfl
      rw [hnone] at hR2
      simp only at hR2
      subst hR2;clear hlt hnone;go_wp2_with fail;exact next_end (Q0.out _ _ _ _) rfl rfl rfl (K0.out _ _ _ _) rfl
  ·rw [hd] at HD hR2;have hrun:=Lib.hid (run_digit (a::r) W hs);obtain ⟨q,hq⟩:∃ q,runB digitB (a::r)=q:=⟨_,rfl⟩
   have hql:q≤r.length+1:=by rw [←hq];exact runB_le _ _
   rw [hq] at hrun hR2;have HX:=Lib.hid (pre_eq (a::r) q);obtain ⟨t,ht⟩:∃ t,(a::r).take q=t:=⟨_,rfl⟩
   have htl:t.length=q:=by rw [←ht,List.length_take,List.length_cons];omega
   rw [ht] at HX hR2;rw [if_neg (by simp),if_pos rfl] at hR2;have hnm:=Lib.hid (number_any t W (by omega));clear hq ht hm
   cases hn:numberB t with
   | none =>
    rw [hn] at hnm hR2
    simp only at hR2
    subst hR2
    go_wp2_with (first
     | (go_at_call 104;refine HL.out.mono ?_;rintro e w' ⟨rfl,rfl⟩)
     | (go_at_call 147;refine HD.out.mono ?_;rintro e w' ⟨rfl,rfl⟩)
     | (go_at_call 105;refine hrun.out.mono ?_;rintro e w' ⟨rfl,rfl⟩)
     | (go_at_call 150;rw [HX.out];refine hnm.out.mono ?_;unfold numRet;rintro e w' ⟨rfl,rfl⟩))
    exact next_end (Q0.out _ _ _ _) rfl rfl rfl (K0.out _ _ _ _) rfl
   | some k =>
    rw [hn] at hnm hR2
    simp only at hR2
    subst hR2
    go_wp2_with (first
     | (go_at_call 104;refine HL.out.mono ?_;rintro e w' ⟨rfl,rfl⟩)
     | (go_at_call 147;refine HD.out.mono ?_;rintro e w' ⟨rfl,rfl⟩)
     | (go_at_call 105;refine hrun.out.mono ?_;rintro e w' ⟨rfl,rfl⟩)
     | (go_at_call 150;rw [HX.out];refine hnm.out.mono ?_;unfold numRet;rintro e w' ⟨rfl,rfl⟩))
    exact next_end (Q0.out _ _ _ _) rfl rfl rfl (K0.out _ _ _ _) (by rw [←htl];rfl)
 ·rw [hl] at HL hR2;rw [if_pos rfl] at hR2;have hrun:=Lib.hid (run_inner (a::r) W hs);obtain ⟨q,hq⟩:∃ q,runB innerB (a::r)=q:=⟨_,rfl⟩
  have hql:q≤r.length+1:=by rw [←hq];exact runB_le _ _
  rw [hq] at hrun hR2;have HX:=Lib.hid (pre_eq (a::r) q);obtain ⟨t,ht⟩:∃ t,(a::r).take q=t:=⟨_,rfl⟩
  have htl:t.length=q:=by rw [←ht,List.length_take,List.length_cons];omega
  rw [ht] at HX hR2;have hnm:=Lib.hid (name_any t W (by omega));clear hq ht hm
  cases hn:nameB t
  ·rw [hn] at hnm hR2;rw [if_neg (by simp)] at hR2;subst hR2
   go_wp2_with (first
    | (go_at_call 104;refine HL.out.mono ?_;rintro e w' ⟨rfl,rfl⟩)
    | (go_at_call 105;refine hrun.out.mono ?_;rintro e w' ⟨rfl,rfl⟩)
    | (go_at_call 61;rw [HX.out];refine hnm.out.mono ?_;rintro e w' ⟨rfl,rfl⟩))
   exact next_end (Q0.out _ _ _ _) rfl rfl rfl (K0.out _ _ _ _) rfl
  ·rw [hn] at hnm hR2;rw [if_pos rfl] at hR2;subst hR2
   go_wp2_with (first
    | (go_at_call 104;refine HL.out.mono ?_;rintro e w' ⟨rfl,rfl⟩)
    | (go_at_call 105;refine hrun.out.mono ?_;rintro e w' ⟨rfl,rfl⟩)
    | (go_at_call 61;rw [HX.out];refine hnm.out.mono ?_;rintro e w' ⟨rfl,rfl⟩))
   exact next_end (Q0.out _ _ _ _) rfl rfl rfl (K0.out _ _ _ _) (by rw [←htl];rfl)
end Go.Proofs.YtpcmamoomaddoaaGreatDoor
