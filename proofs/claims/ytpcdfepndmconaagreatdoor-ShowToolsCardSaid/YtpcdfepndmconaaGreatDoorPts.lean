/- Lists of points: SamePoints. -/
import Derived.Test.YtpcdfepndmconaaGreatDoorRtk
import Derived.Test.YtpcdfepndmconaaGreatDoorSameT
import Derived.Test.YtpcdfepndmconaaGreatDoorKnu
/- JOINED: FewS FewR Pts -/
/- The documents' bounds: fewLists, fewNums, fewLinks. -/
namespace Go.Proofs.YtpcdfepndmconaaGreatDoor
open Go.RowKit Tape
/-- a test's answer, and what it tells if it is true -/
def FewRet (P:Prop) (w:World) (e:Ending) (w':World):Prop:=∃ b,e=.returned (.bool b)∧(b=true→P)∧Kept [] w w'
theorem all_succ {α:Type} {P:α→Prop} {l:List α} {k:Nat} (hk:k < l.length) (h:∀ j (h:j < l.length),j < k→P l[j]) (hp:P l[k]):∀ j (h:j < l.length),j < k+1→P l[j]:=fun j hj hjk=>by
 rcases (by omega:j < k∨j=k) with h1|rfl
 ·exact h j hj h1
 ·exact hp
theorem all_mem {α:Type} {P:α→Prop} {l:List α} (h:∀ j (h:j < l.length),j < l.length→P l[j]):∀ x∈l,P x:=fun x hx=>by
 obtain ⟨j,hj,rfl⟩:=List.getElem_of_mem hx;exact h j hj hj
def FewLs (l:List (List Int)) (n m:Nat):Prop:=l.length≤n∧∀ x∈l,x.length≤m
def FewNs (l:List (List (List Int))):Prop:=l.length≤160∧∀ x∈l,x.length≤10∧∀ y∈x,y.length≤70
def FewLk (l:List (Lnk × List UInt8)):Prop:=l.length≤6∧∀ x∈l,x.2.length≤100∧x.1.2.2.length≤9
set_option maxRecDepth 100000 in
set_option maxHeartbeats 2000000 in
theorem fewLists_any (v:Value) (l:List (List Int)) (n m:Nat) (w:World) (h:RowOf ListR 1 w v l) (hn:n≤1000) (_hm:m≤1000) :
  Calls Tryz.prog 78 #[v,.int .i64 (n:Int),.int .i64 (m:Int)] w (FewRet (FewLs l n m) w):=by
 obtain ⟨a,c,rfl,hl,_⟩:=h.form;have H:=Lib.hid h;clear h
 go_enter Tryz.func78,Tryz.ntmps78
 go_wp2_with fail
 go_loop [7] (fun i=>∃ k:Nat,k≤l.length∧k≤n+1∧i=.int .i64 k∧∀ j (h:j < l.length),j < k→l[j].length≤m) (fun i=>l.length - (intOf i).toNat)
 case atStart=>exact ⟨0,Nat.zero_le _,by omega,rfl,fun j _ h=>by omega⟩
 case round =>
  obtain ⟨k,hk,hkn,rfl,hall⟩:=hrel;have HA:=Lib.hid hall;clear hall
  by_cases hlt:k < l.length
  ·by_cases h18:k≤n
   ·obtain ⟨b,off,u,rfl,x,v1,e1,hv⟩:=H.out.one k hlt;injection e1 with e1;subst e1;obtain ⟨a1,c1,rfl,hl1,_⟩:=hv.form
    by_cases hx:l[k].length≤m
    ·have HT:=Lib.hid (all_succ (P:=fun x:List Int=>x.length≤m) hlt HA.out hx);clear hv;obtain ⟨L,hL⟩:∃ L,l[k].length=L:=⟨_,rfl⟩;rw [hL] at x hl1 hx;clear hL;go_wp2_with fail
     go_round
     case rel=>exact ⟨k+1,by omega,by omega,by go_num,HT.out⟩
     case measure=>simp [intOf];omega
    ·clear hv;obtain ⟨L,hL⟩:∃ L,l[k].length=L:=⟨_,rfl⟩;rw [hL] at x hl1 hx;clear hL;go_wp2_with fail;go_ret;exact ⟨false,rfl,by simp,Kept.refl _ _⟩
   ·go_wp2_with fail;go_ret;exact ⟨_,rfl,fun h=>by simp at h;omega,Kept.refl _ _⟩
  ·obtain rfl:k=l.length:=by omega
   go_wp2_with fail;go_ret;exact ⟨_,rfl,fun h=>⟨by simp at h;omega,all_mem (P:=fun x:List Int=>x.length≤m) HA.out⟩,Kept.refl _ _⟩
set_option maxRecDepth 100000 in
set_option maxHeartbeats 2000000 in
theorem fewNums_any (v:Value) (l:List (List (List Int))) (w:World) (h:RowOf ListsR 1 w v l) :
  Calls Tryz.prog 79 #[v] w (FewRet (FewNs l) w):=by
 obtain ⟨a,c,rfl,hl,_⟩:=h.form;have H:=Lib.hid h;clear h
 go_enter Tryz.func79,Tryz.ntmps79
 go_wp2_with fail
 go_loopw [3] (fun i wr=>∃ k:Nat,k≤l.length∧k≤161∧i=.int .i64 k∧(∀ j (h:j < l.length),j < k→l[j].length≤10∧∀ y∈l[j],y.length≤70)∧Kept [] w wr) (fun i _=>l.length - (intOf i).toNat)
 case atStart=>exact ⟨0,Nat.zero_le _,by omega,rfl,fun j _ h=>by omega,Kept.refl _ _⟩
 case round =>
  obtain ⟨k,hk,hkn,rfl,hall,hkr⟩:=hrel;have HA:=Lib.hid hall;clear hall
  by_cases hlt:k < l.length
  ·by_cases h18:k≤160
   ·obtain ⟨b,off,u,rfl,x,v1,e1,hv⟩:=H.out.one k hlt;injection e1 with e1;subst e1;have x1:=Kept.cellOf x wr hkr;have HL:Hid (Calls Tryz.prog 78 #[u,.int .i64 10,.int .i64 70] wr (FewRet (FewLs l[k] 10 70) wr)):=fewLists_any u l[k] 10 70 wr (RowOf.kept hv (fun _ _ y=>ListR.kept y hkr) hkr) (by omega) (by omega);have HS:Hid (FewLs l[k] 10 70→∀ j (h:j < l.length),j < k+1→l[j].length≤10∧∀ y∈l[j],y.length≤70):=fun hp=>all_succ (P:=fun x:List (List Int)=>x.length≤10∧∀ y∈x,y.length≤70) hlt HA.out hp;clear hv x;go_wp2_with (go_at_call 78;refine HL.out.mono ?_);rintro e w1 ⟨bb,rfl,hbb,hk1⟩
    cases bb
    ·go_wp2_with fail;go_ret;exact ⟨false,rfl,by simp,hkr.trans hk1⟩
    ·have HT:=Lib.hid (HS.out (hbb rfl));clear hbb;go_wp2_with fail
     go_roundw
     case rel=>exact ⟨k+1,by omega,by omega,by go_num,HT.out,hkr.trans hk1⟩
     case measure=>simp [intOf];omega
   ·go_wp2_with fail;go_ret;exact ⟨_,rfl,fun h=>by simp at h;omega,hkr⟩
  ·obtain rfl:k=l.length:=by omega
   go_wp2_with fail;go_ret;exact ⟨_,rfl,fun h=>⟨by simp at h;omega,all_mem (P:=fun x:List (List Int)=>x.length≤10∧∀ y∈x,y.length≤70) HA.out⟩,hkr⟩
set_option maxRecDepth 100000 in
set_option maxHeartbeats 2000000 in
theorem fewLinks_any (v:Value) (l:List (Lnk × List UInt8)) (w:World) (h:RowOf LnkR 9 w v l) (hs:∀ x∈l,x.2.length≤9223372036854775807) :
  Calls Tryz.prog 77 #[v] w (FewRet (FewLk l) w):=by
 obtain ⟨a,c,rfl,hl,_⟩:=h.form;have H:=Lib.hid h;have HS:=Lib.hid hs;clear h hs
 go_enter Tryz.func77,Tryz.ntmps77
 go_wp2_with fail
 go_loop [3] (fun i=>∃ k:Nat,k≤l.length∧k≤7∧i=.int .i64 k∧∀ j (h:j < l.length),j < k→l[j].2.length≤100∧l[j].1.2.2.length≤9) (fun i=>l.length - (intOf i).toNat)
 case atStart=>exact ⟨0,Nat.zero_le _,by omega,rfl,fun j _ h=>by omega⟩
 case round =>
  obtain ⟨k,hk,hkn,rfl,hall⟩:=hrel;have HA:=Lib.hid hall;clear hall
  by_cases hlt:k < l.length
  ·by_cases h18:k < 7
   ·obtain ⟨b,off,rfl,hcell⟩:=H.out.at_ (by omega);obtain ⟨cs,hcl,⟨u,rfl,hu⟩,hce⟩:=hcell k _ (List.getElem?_eq_getElem hlt);obtain ⟨a1,c1,rfl,hl1,_⟩:=hu.form;have hlen:=HS.out l[k] (List.getElem_mem hlt);have HT:Hid (l[k].2.length≤100∧l[k].1.2.2.length≤9→∀ j (h:j < l.length),j < k+1→l[j].2.length≤100∧l[j].1.2.2.length≤9):=fun hp=>all_succ (P:=fun x:Lnk × List UInt8=>x.2.length≤100∧x.1.2.2.length≤9) hlt HA.out hp;obtain ⟨x,hx⟩:∃ x,l[k]=x:=⟨_,rfl⟩;rw [hx] at hce hlen HT hl1;obtain ⟨⟨tt,dare,ans⟩,term⟩:=x
    have x7:w.cell? ⟨b,off+k*9+7,none⟩=some (.slice a1 ans.length c1):=by have:=hce 7 _ (by omega) rfl;rw [Nat.add_assoc];exact this
    have x8:w.cell? ⟨b,off+k*9+8,none⟩=some (.string ⟨term.toArray⟩):=by have:=hce 8 _ (by omega) rfl;rw [Nat.add_assoc];exact this
    replace hlen:term.length≤9223372036854775807:=hlen;replace hl1:ans.length≤9223372036854775807:=hl1;replace HT:Hid (term.length≤100∧ans.length≤9→∀ j (h:j < l.length),j < k+1→l[j].2.length≤100∧l[j].1.2.2.length≤9):=HT;clear hcell hce hcl hu hx
    by_cases h1:term.length≤100
    ·by_cases h2:ans.length≤9
     ·have HT2:=Lib.hid (HT.out ⟨h1,h2⟩);go_wp2_with fail
      go_round
      case rel=>exact ⟨k+1,by omega,by omega,by go_num,HT2.out⟩
      case measure=>simp [intOf];omega
     ·go_wp2_with fail;go_ret;exact ⟨false,rfl,by simp,Kept.refl _ _⟩
    ·go_wp2_with fail;go_ret;exact ⟨false,rfl,by simp,Kept.refl _ _⟩
   ·go_wp2_with fail;go_ret;exact ⟨_,rfl,fun h=>by simp at h;omega,Kept.refl _ _⟩
  ·obtain rfl:k=l.length:=by omega
   go_wp2_with fail;go_ret;exact ⟨_,rfl,fun h=>⟨by simp at h;omega,all_mem (P:=fun x:Lnk × List UInt8=>x.2.length≤100∧x.1.2.2.length≤9) HA.out⟩,Kept.refl _ _⟩
end Go.Proofs.YtpcdfepndmconaaGreatDoor
/- The documents' bounds on records: FewRecord. -/
namespace Go.Proofs.YtpcdfepndmconaaGreatDoor
open Go.RowKit Tape
set_option maxRecDepth 100000 in
set_option maxHeartbeats 8000000 in
theorem fewRecord_any (v:Value) (r:Rec) (w:World) (h:RecV w v r) (hs:∀ l∈r.links,∀ x∈l,x.2.length≤9223372036854775807) :
  Calls Tryz.prog 28 #[v] w (FewRet (FewB r) w):=by
 obtain ⟨_,_,_,_,_,_,_,_,_,rfl,htk,hsp,hlk,hcm,hch,hbt,hes,hda,han⟩:=h;obtain ⟨s0,d0,rfl,l0,_⟩:=htk.form;obtain ⟨s1,d1,rfl,l1,_⟩:=hsp.form;obtain ⟨s2,d2,rfl,l2,_⟩:=hlk.form;obtain ⟨s3,d3,rfl,l3,_⟩:=hcm.form;obtain ⟨s4,d4,rfl,l4,_⟩:=hch.form;obtain ⟨s5,d5,rfl,l5,_⟩:=hbt.form;obtain ⟨s6,d6,rfl,l6,_⟩:=hes.form;obtain ⟨s7,d7,rfl,l7,_⟩:=hda.form;obtain ⟨s8,d8,rfl,l8,_⟩:=han.form;obtain ⟨W,hW⟩:∃ W,w.alloc (.cells #[.slice s0 r.tickets.length d0,.slice s1 r.spends.length d1,.slice s2 r.links.length d2,.slice s3 r.commits.length d3,.slice s4 r.chain.length d4,.slice s5 r.bits.length d5,.slice s6 r.escrow.length d6,.slice s7 r.proof.dares.length d7,.slice s8 r.proof.answers.length d8] 67)=W:=⟨_,rfl⟩;have b1:Blk W w.heap.size 67 #[.slice s0 r.tickets.length d0,.slice s1 r.spends.length d1,.slice s2 r.links.length d2,.slice s3 r.commits.length d3,.slice s4 r.chain.length d4,.slice s5 r.bits.length d5,.slice s6 r.escrow.length d6,.slice s7 r.proof.dares.length d7,.slice s8 r.proof.answers.length d8]:=hW▸Blk.new _ _ _;have hkW:Kept [] w W:=hW▸(Kept.refl _ _).alloc _;have KA0:Hid (∀ w',Kept [] W w'→w'.cell? ⟨w.heap.size,0,none⟩=some (.slice s0 r.tickets.length d0)):=Kept.cellOf (b1.cell 0);have KA1:Hid (∀ w',Kept [] W w'→w'.cell? ⟨w.heap.size,1,none⟩=some (.slice s1 r.spends.length d1)):=Kept.cellOf (b1.cell 1);have KA2:Hid (∀ w',Kept [] W w'→w'.cell? ⟨w.heap.size,2,none⟩=some (.slice s2 r.links.length d2)):=Kept.cellOf (b1.cell 2);have KA3:Hid (∀ w',Kept [] W w'→w'.cell? ⟨w.heap.size,3,none⟩=some (.slice s3 r.commits.length d3)):=Kept.cellOf (b1.cell 3)
 have KA4:Hid (∀ w',Kept [] W w'→w'.cell? ⟨w.heap.size,4,none⟩=some (.slice s4 r.chain.length d4)):=Kept.cellOf (b1.cell 4);have KA5:Hid (∀ w',Kept [] W w'→w'.cell? ⟨w.heap.size,5,none⟩=some (.slice s5 r.bits.length d5)):=Kept.cellOf (b1.cell 5);have KA6:Hid (∀ w',Kept [] W w'→w'.cell? ⟨w.heap.size,6,none⟩=some (.slice s6 r.escrow.length d6)):=Kept.cellOf (b1.cell 6);have KA7:Hid (∀ w',Kept [] W w'→w'.cell? ⟨w.heap.size,7,none⟩=some (.slice s7 r.proof.dares.length d7)):=Kept.cellOf (b1.cell 7);have KA8:Hid (∀ w',Kept [] W w'→w'.cell? ⟨w.heap.size,8,none⟩=some (.slice s8 r.proof.answers.length d8)):=Kept.cellOf (b1.cell 8);have HA1:Hid (RowOf SpndR 2 W (.slice s1 r.spends.length d1) r.spends):=RowOf.kept hsp (fun _ _ x=>SpndR.kept x hkW) hkW;have HA2:Hid (RowOf LnksR 1 W (.slice s2 r.links.length d2) r.links):=RowOf.kept hlk (fun _ _ x=>LnksR.kept x hkW) hkW;have HA5:Hid (RowOf ListR 1 W (.slice s5 r.bits.length d5) r.bits):=RowOf.kept hbt (fun _ _ x=>ListR.kept x hkW) hkW;have HA7:Hid (RowOf ListR 1 W (.slice s7 r.proof.dares.length d7) r.proof.dares):=RowOf.kept hda (fun _ _ x=>ListR.kept x hkW) hkW;have HA8:Hid (RowOf ListsR 1 W (.slice s8 r.proof.answers.length d8) r.proof.answers):=RowOf.kept han (fun _ _ x=>ListsR.kept x hkW) hkW;have HS:=Lib.hid hs;have HW:=Lib.hid hW;have HK:=Lib.hid hkW;clear b1 hW hs hkW htk hsp hlk hcm hch hbt hes hda han
 go_enter Tryz.func28,Tryz.ntmps28
 go_upto_region 2 with (fail);rw [HW.out]
 go_loop [3] (fun i=>∃ k:Nat,k≤r.spends.length∧k≤7∧i=.int .i64 k∧∀ j (h:j < r.spends.length),j < k→r.spends[j].2.length≤9) (fun i=>r.spends.length - (intOf i).toNat)
 case atStart=>exact ⟨0,Nat.zero_le _,by omega,rfl,fun j _ h=>by omega⟩
 case round =>
  obtain ⟨k,hk,hkn,rfl,hall⟩:=hrel;have HA:=Lib.hid hall;clear hall;have a1:=KA1.out W (Kept.refl _ _)
  by_cases hlt:k < r.spends.length
  ·by_cases h18:k < 7
   ·obtain ⟨b,off,cs,rfl,⟨u,rfl,hu⟩,hce⟩:=HA1.out.atk k hlt;have HT:Hid (r.spends[k].2.length≤9→∀ j (h:j < r.spends.length),j < k+1→r.spends[j].2.length≤9):=fun hp=>all_succ (P:=fun x:Spnd=>x.2.length≤9) hlt HA.out hp;obtain ⟨x,hx⟩:∃ x,r.spends[k]=x:=⟨_,rfl⟩;rw [hx] at hu hce HT;obtain ⟨dare,ans⟩:=x;replace hu:Row W 1 u ans.length (ints ans):=hu;obtain ⟨a2,c2,rfl,hl2,_⟩:=hu.form;have x1:=hce 1 _ (by omega) rfl;replace HT:Hid (ans.length≤9→∀ j (h:j < r.spends.length),j < k+1→r.spends[j].2.length≤9):=HT;clear hce hu hx
    by_cases h2:ans.length≤9
    ·have HT2:=Lib.hid (HT.out h2);go_wp2_with fail
     go_round
     case rel=>exact ⟨k+1,by omega,by omega,by go_num,HT2.out⟩
     case measure=>simp [intOf];omega
    ·go_wp2_with fail;go_ret;exact ⟨false,rfl,by simp,HK.out⟩
   ·have h7:¬ r.spends.length≤6:=by omega
    have a2:=KA2.out W (Kept.refl _ _);go_wp2_with fail;clear a1 a2
    go_loopw [4] (fun i wr=>∃ k:Nat,k≤r.links.length∧k≤7∧i=.int .i64 k∧(∀ j (h:j < r.links.length),j < k→FewLk r.links[j])∧Kept [] W wr) (fun i _=>r.links.length - (intOf i).toNat)
    case atStart=>exact ⟨0,Nat.zero_le _,by omega,rfl,fun j _ h=>by omega,Kept.refl _ _⟩
    case round =>
     obtain ⟨k,hk,hkn,rfl,hall,hkr⟩:=hrel;have HA:=Lib.hid hall;clear hall;have a2:=KA2.out wr hkr
     by_cases hlt:k < r.links.length
     ·by_cases h18:k < 7
      ·obtain ⟨b,off,u,rfl,xx,v1,e1,hv⟩:=HA2.out.one k hlt;injection e1 with e1;subst e1;have x1:=Kept.cellOf xx wr hkr;have HL:=Lib.hid (fewLinks_any u r.links[k] wr (RowOf.kept hv (fun _ _ y=>LnkR.kept y hkr) hkr) (HS.out _ (List.getElem_mem hlt)));have HT:Hid (FewLk r.links[k]→∀ j (h:j < r.links.length),j < k+1→FewLk r.links[j]):=fun hp=>all_succ (P:=FewLk) hlt HA.out hp;clear hv xx;go_wp2_with (go_at_call 77;refine HL.out.mono ?_);rintro e w1 ⟨bb,rfl,hbb,hk1⟩
       cases bb
       ·go_wp2_with fail;go_ret;exact ⟨false,rfl,by simp,HK.out.trans (hkr.trans hk1)⟩
       ·have HT2:=Lib.hid (HT.out (hbb rfl));clear hbb a2 x1;go_wp2_with fail
        go_roundw
        case rel=>exact ⟨k+1,by omega,by omega,by go_num,HT2.out,hkr.trans hk1⟩
        case measure=>simp [intOf];omega
      ·clear a2;have a0:=KA0.out wr hkr;have a1:=KA1.out wr hkr;have a2:=KA2.out wr hkr;have a3:=KA3.out wr hkr;have a4:=KA4.out wr hkr;have a5:=KA5.out wr hkr;have a6:=KA6.out wr hkr;have a7:=KA7.out wr hkr;have a8:=KA8.out wr hkr
       by_cases g0:r.tickets.length≤6
       ·have g1:¬ r.spends.length≤6:=by omega
        go_wp2_with fail;go_ret;exact ⟨false,rfl,by simp,HK.out.trans hkr⟩
       ·go_wp2_with fail;go_ret;exact ⟨false,rfl,by simp,HK.out.trans hkr⟩
     ·obtain rfl:k=r.links.length:=by omega
      have SLK:Hid (r.links.length≤6→∀ l∈r.links,FewLk l):=fun _=>all_mem (P:=FewLk) HA.out;clear HA a2;have a0:=KA0.out wr hkr;have a1:=KA1.out wr hkr;have a2:=KA2.out wr hkr;have a3:=KA3.out wr hkr;have a4:=KA4.out wr hkr;have a5:=KA5.out wr hkr;have a6:=KA6.out wr hkr;have a7:=KA7.out wr hkr;have a8:=KA8.out wr hkr
      by_cases g0:r.tickets.length≤6
      ·have g1:¬ r.spends.length≤6:=by omega
       go_wp2_with fail;go_ret;exact ⟨false,rfl,by simp,HK.out.trans hkr⟩
      ·go_wp2_with fail;go_ret;exact ⟨false,rfl,by simp,HK.out.trans hkr⟩
  ·obtain rfl:k=r.spends.length:=by omega
   have SPA:Hid (r.spends.length≤6→∀ x∈r.spends,x.2.length≤9):=fun _=>all_mem (P:=fun x:Spnd=>x.2.length≤9) HA.out;clear HA;have a2:=KA2.out W (Kept.refl _ _);go_wp2_with fail;clear a1 a2
   go_loopw [4] (fun i wr=>∃ k:Nat,k≤r.links.length∧k≤7∧i=.int .i64 k∧(∀ j (h:j < r.links.length),j < k→FewLk r.links[j])∧Kept [] W wr) (fun i _=>r.links.length - (intOf i).toNat)
   case atStart=>exact ⟨0,Nat.zero_le _,by omega,rfl,fun j _ h=>by omega,Kept.refl _ _⟩
   case round =>
    obtain ⟨k,hk,hkn,rfl,hall,hkr⟩:=hrel;have HA:=Lib.hid hall;clear hall;have a2:=KA2.out wr hkr
    by_cases hlt:k < r.links.length
    ·by_cases h18:k < 7
     ·obtain ⟨b,off,u,rfl,xx,v1,e1,hv⟩:=HA2.out.one k hlt;injection e1 with e1;subst e1;have x1:=Kept.cellOf xx wr hkr;have HL:=Lib.hid (fewLinks_any u r.links[k] wr (RowOf.kept hv (fun _ _ y=>LnkR.kept y hkr) hkr) (HS.out _ (List.getElem_mem hlt)));have HT:Hid (FewLk r.links[k]→∀ j (h:j < r.links.length),j < k+1→FewLk r.links[j]):=fun hp=>all_succ (P:=FewLk) hlt HA.out hp;clear hv xx;go_wp2_with (go_at_call 77;refine HL.out.mono ?_);rintro e w1 ⟨bb,rfl,hbb,hk1⟩
      cases bb
      ·go_wp2_with fail;go_ret;exact ⟨false,rfl,by simp,HK.out.trans (hkr.trans hk1)⟩
      ·have HT2:=Lib.hid (HT.out (hbb rfl));clear hbb a2 x1;go_wp2_with fail
       go_roundw
       case rel=>exact ⟨k+1,by omega,by omega,by go_num,HT2.out,hkr.trans hk1⟩
       case measure=>simp [intOf];omega
     ·clear a2;have a0:=KA0.out wr hkr;have a1:=KA1.out wr hkr;have a2:=KA2.out wr hkr;have a3:=KA3.out wr hkr;have a4:=KA4.out wr hkr;have a5:=KA5.out wr hkr;have a6:=KA6.out wr hkr;have a7:=KA7.out wr hkr;have a8:=KA8.out wr hkr
      by_cases g0:r.tickets.length≤6
      ·by_cases g1:r.spends.length≤6
       ·have g2:¬ r.links.length≤6:=by omega
        go_wp2_with fail;go_ret;exact ⟨false,rfl,by simp,HK.out.trans hkr⟩
       ·go_wp2_with fail;go_ret;exact ⟨false,rfl,by simp,HK.out.trans hkr⟩
      ·go_wp2_with fail;go_ret;exact ⟨false,rfl,by simp,HK.out.trans hkr⟩
    ·obtain rfl:k=r.links.length:=by omega
     have SLK:Hid (r.links.length≤6→∀ l∈r.links,FewLk l):=fun _=>all_mem (P:=FewLk) HA.out;clear HA a2;have a0:=KA0.out wr hkr;have a1:=KA1.out wr hkr;have a2:=KA2.out wr hkr;have a3:=KA3.out wr hkr;have a4:=KA4.out wr hkr;have a5:=KA5.out wr hkr;have a6:=KA6.out wr hkr;have a7:=KA7.out wr hkr;have a8:=KA8.out wr hkr
     by_cases g0:r.tickets.length≤6
     ·by_cases g1:r.spends.length≤6
      ·by_cases g2:r.links.length≤6
       ·by_cases g3:r.commits.length≤25
        ·by_cases g4:r.chain.length≤18
         ·have HB5:Hid (Calls Tryz.prog 78 #[.slice s5 r.bits.length d5,.int .i64 10,.int .i64 20] wr (FewRet (FewLs r.bits 10 20) wr)):=fewLists_any _ r.bits 10 20 wr (RowOf.kept HA5.out (fun _ _ x=>ListR.kept x hkr) hkr) (by omega) (by omega);go_wp2_with (go_at_call 78;refine HB5.out.mono ?_);rintro e y1 ⟨bb5,rfl,hb5,hy1⟩;clear a0 a1 a2 a3 a4 a5 a6 a7 a8;replace hy1:=hkr.trans hy1
          cases bb5
          ·go_wp2_with fail;go_ret;exact ⟨false,rfl,by simp,HK.out.trans hy1⟩
          ·have FB:=Lib.hid (hb5 rfl);clear hb5;have a6:=KA6.out y1 hy1;have a7:=KA7.out y1 hy1
           by_cases g6:r.escrow.length≤14
           ·have HB7:Hid (Calls Tryz.prog 78 #[.slice s7 r.proof.dares.length d7,.int .i64 160,.int .i64 10] y1 (FewRet (FewLs r.proof.dares 160 10) y1)):=fewLists_any _ r.proof.dares 160 10 y1 (RowOf.kept HA7.out (fun _ _ x=>ListR.kept x hy1) hy1) (by omega) (by omega);go_wp2_with (go_at_call 78;refine HB7.out.mono ?_);rintro e y2 ⟨bb7,rfl,hb7,hy2⟩;clear a6 a7;replace hy2:=hy1.trans hy2
            cases bb7
            ·go_wp2_with fail;go_ret;exact ⟨false,rfl,by simp,HK.out.trans hy2⟩
            ·have FD:=Lib.hid (hb7 rfl);clear hb7;have a8:=KA8.out y2 hy2;have HB8:=Lib.hid (fewNums_any (.slice s8 r.proof.answers.length d8) r.proof.answers y2 (RowOf.kept HA8.out (fun _ _ x=>ListsR.kept x hy2) hy2));go_wp2_with (go_at_call 79;refine HB8.out.mono ?_);rintro e y3 ⟨bb8,rfl,hb8,hy3⟩;clear a8;replace hy3:=hy2.trans hy3
             cases bb8
             ·go_wp2_with fail;go_ret;exact ⟨false,rfl,by simp,HK.out.trans hy3⟩
             ·have FN:=Lib.hid (hb8 rfl);clear hb8;go_wp2_with fail;go_ret;exact ⟨true,rfl,fun _=>⟨g0,g1,SPA.out g1,g2,fun l hl=>(SLK.out g2 l hl).1,fun l hl x hx=>((SLK.out g2 l hl).2 x hx).1,fun l hl x hx=>((SLK.out g2 l hl).2 x hx).2,g3,g4,FB.out.1,FB.out.2,g6,FD.out.1,FD.out.2,FN.out.1,fun l hl=>(FN.out.2 l hl).1,fun l hl x hx=>(FN.out.2 l hl).2 x hx⟩,HK.out.trans hy3⟩
           ·go_wp2_with fail;go_ret;exact ⟨false,rfl,by simp,HK.out.trans hy1⟩
         ·go_wp2_with fail;go_ret;exact ⟨false,rfl,by simp,HK.out.trans hkr⟩
        ·go_wp2_with fail;go_ret;exact ⟨false,rfl,by simp,HK.out.trans hkr⟩
       ·go_wp2_with fail;go_ret;exact ⟨false,rfl,by simp,HK.out.trans hkr⟩
      ·go_wp2_with fail;go_ret;exact ⟨false,rfl,by simp,HK.out.trans hkr⟩
     ·go_wp2_with fail;go_ret;exact ⟨false,rfl,by simp,HK.out.trans hkr⟩
end Go.Proofs.YtpcdfepndmconaaGreatDoor
namespace Go.Proofs.YtpcdfepndmconaaGreatDoor
open Go.RowKit
/-- three of a list's numbers at a point's place -/
theorem drop3 {l:List Int} {n k:Nat} (hl:l.length=n*3) (hk:k < n) :
  ∃ x y z,(ints l)[k*3]?=some (.int .i64 x)∧(ints l)[k*3+1]?=some (.int .i64 y)∧(ints l)[k*3+2]?=some (.int .i64 z)∧l.drop (k*3)=x::y::z::l.drop ((k+1)*3):=by
 have h0:k*3 < l.length:=by omega
 have h1:k*3+1 < l.length:=by omega
 have h2:k*3+2 < l.length:=by omega
 refine ⟨l[k*3],l[k*3+1],l[k*3+2],ints_get h0,ints_get h1,ints_get h2,?_⟩;rw [List.drop_eq_getElem_cons h0,List.drop_eq_getElem_cons h1,List.drop_eq_getElem_cons h2,show (k+1)*3=k*3+1+1+1 by omega]
set_option maxHeartbeats 2000000 in
theorem samePoints_any (va vb:Value) (na nb:Nat) (a b:List Int) (w:World) (ha:Row w 3 va na (ints a)) (hb:Row w 3 vb nb (ints b)) :
  Calls Tryz.prog 38 #[va,vb] w fun e w'=>e=.returned (.bool (decide (a=b)))∧Kept [] w w':=by
 have hal:a.length=na*3:=by simpa [ints] using ha.1
 have hbl:b.length=nb*3:=by simpa [ints] using hb.1
 obtain ⟨aa,ca,rfl,hla,_⟩:=ha.form;obtain ⟨ab,cb,rfl,hlb,_⟩:=hb.form
 by_cases hl:na=nb
 ·subst hl;have HAL:=Lib.hid hal;have HBL:=Lib.hid hbl;clear hal hbl
  have hlq:((na:Int) != (na:Int))=false:=by simp
  go_enter Tryz.func38,Tryz.ntmps38
  go_wp2_with fail
  go_loopw [5] (fun i wr=>∃ k:Nat,k≤na∧i=.int .i64 k∧(a=b↔a.drop (k*3)=b.drop (k*3))∧Kept [] w wr) (fun i _=>na - (intOf i).toNat)
  case atStart=>exact ⟨0,Nat.zero_le _,rfl,by simp,Kept.refl _ _⟩
  case round =>
   obtain ⟨k,hk,rfl,hr,hkr⟩:=hrel;have HR:=Lib.hid hr;clear hr
   by_cases hlt:k < na
   ·obtain ⟨ba,oa,rfl,hca⟩:=(ha.kept hkr).at_ (by omega);obtain ⟨bb,ob,rfl,hcb⟩:=(hb.kept hkr).at_ (by omega);obtain ⟨x0,x1,x2,g0,g1,g2,hda⟩:=drop3 HAL.out hlt;obtain ⟨y0,y1,y2,i0,i1,i2,hdb⟩:=drop3 HBL.out hlt;have xa0:=hca _ _ g0;have xa1:=hca _ _ g1;have xa2:=hca _ _ g2;have xb0:=hcb _ _ i0;have xb1:=hcb _ _ i1;have xb2:=hcb _ _ i2;rw [←Nat.add_assoc] at xa1 xa2 xb1 xb2
    have hn:a=b↔(x0=y0∧x1=y1∧x2=y2∧a.drop ((k+1)*3)=b.drop ((k+1)*3)):=by rw [HR.out,hda,hdb];simp
    have HN:=Lib.hid hn;clear hn hda hdb hca hcb g0 g1 g2 i0 i1 i2
    cases e0:(x0 != y0)
    ·cases e1:(x1 != y1)
     ·cases e2:(x2 != y2)
      ·have hnx:a=b↔a.drop ((k+1)*3)=b.drop ((k+1)*3):=by
        have q0:x0=y0:=by simpa using e0
        have q1:x1=y1:=by simpa using e1
        have q2:x2=y2:=by simpa using e2
        rw [HN.out];simp [q0,q1,q2]
       have HX:=Lib.hid hnx;clear hnx;go_wp2_with fail
       go_quiet (fail)
       go_wp2_with fail
       go_roundw
       case rel=>exact ⟨k+1,by omega,by go_num,HX.out,hkr.drewN _⟩
       case measure=>simp [intOf];omega
      ·have hno:¬ a=b:=by rw [HN.out];simp at e2;intro h;exact e2 h.2.2.1
       have HX:=Lib.hid hno;clear hno;go_wp2_with fail
       go_quiet (fail)
       go_wp2_with fail;go_ret;exact ⟨by rw [decide_eq_false HX.out];rfl,hkr.drewN _⟩
     ·have hno:¬ a=b:=by rw [HN.out];simp at e1;intro h;exact e1 h.2.1
      have HX:=Lib.hid hno;clear hno;go_wp2_with fail
      go_quiet (fail)
      go_wp2_with fail;go_ret;exact ⟨by rw [decide_eq_false HX.out];rfl,hkr.drewN _⟩
    ·have hno:¬ a=b:=by rw [HN.out];simp at e0;intro h;exact e0 h.1
     have HX:=Lib.hid hno;clear hno;go_wp2_with fail
     go_quiet (fail)
     go_wp2_with fail;go_ret;exact ⟨by rw [decide_eq_false HX.out];rfl,hkr.drewN _⟩
   ·obtain rfl:k=na:=by omega
    have hn:a=b:=by rw [HR.out,←HAL.out,List.drop_length,HAL.out,←HBL.out,List.drop_length]
    have HX:=Lib.hid hn;clear hn;go_wp2_with fail;go_ret;exact ⟨by rw [decide_eq_true HX.out];rfl,hkr⟩
 ·have hlq:((na:Int) != (nb:Int))=true:=by simp;omega
  have hn:¬ a=b:=fun h=>hl (by rw [h] at hal;omega);have HN:=Lib.hid hn;clear hn hl hal hbl
  go_enter Tryz.func38,Tryz.ntmps38
  go_wp2_with fail;go_ret;exact ⟨by rw [decide_eq_false HN.out];rfl,Kept.refl _ _⟩
end Go.Proofs.YtpcdfepndmconaaGreatDoor
