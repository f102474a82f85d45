/- The reference's reader: Text, Nums. -/
import Derived.Test.YtpcdfepndmconaaGreatDoorRr3
import Derived.Test.YtpcdfepndmconaaGreatDoorRd4
import Derived.Test.YtpcdfepndmconaaGreatDoorKnu
/- JOINED: Rr4 Rr5 -/
/- The reference's reader: ahead, number, Int, Done, OpenReader. -/
namespace Go.Proofs.YtpcdfepndmconaaGreatDoor
open Go.RowKit
theorem RrAt.kept {S:List Nat} {w w':World} {b:Nat} {r:Wire.Rd} (h:RrAt w b r) (k:Kept S w w') (hb:b∉S):RrAt w' b r:=⟨h.1,h.2.kept k hb⟩
/-- the place where the loop of 'ahead' stands -/
def AheadRel (l:List UInt8) (e:UInt8) (n:Nat) (v:Value):Prop:=∃ k:Nat,k≤n∧k≤21∧v=.int .i64 k∧∀ c∈l.take k,c≠e
theorem ahead_more {l:List UInt8} {e:UInt8} {k:Nat} (h:∀ c∈l.take k,c≠e) (hk:k < l.length) (hc:l.getD k 0≠e):∀ c∈l.take (k+1),c≠e:=by
 intro c hm;rw [List.take_succ_eq_append_getElem hk,List.mem_append] at hm
 rcases hm with hm|hm
 ·exact h c hm
 ·rw [List.mem_singleton] at hm;subst hm
  simpa [List.getD,hk] using hc
set_option maxRecDepth 100000 in
set_option maxHeartbeats 1600000 in
theorem rr_ahead (b:Nat) (r:Wire.Rd) (e:UInt8) (w:World) (h:RrAt w b r) (hne:¬ Wire.NumByte e) (ho:Wire.Ok r) (hf:r.rest.length≤100000000) :
  Calls Tryz.prog 148 #[.pointer (some ⟨b,0,none⟩),.int .u8 (e.toNat:Int)] w fun en w' =>
   en=.returned (.int .i64 (Wire.number e (-9223372036854775808) r).1)∧RrAt w' b (Wire.number e (-9223372036854775808) r).2∧Kept [b] w w':=by
 obtain ⟨x,r',hq⟩:∃ x r',Wire.number e (-9223372036854775808) r=(x,r'):=⟨_,_,rfl⟩;rw [hq];have HQ:=Lib.hid hq;have HO:=Lib.hid ho;have HNE:=Lib.hid hne;have IK:Hid (∀ k,k < r.rest.length→∀ w,(Instr.index 9 (.string ⟨r.rest.toArray⟩) (.int .i64 k)).run Tryz.prog w=.ok (.int .u8 ((r.rest.getD k 0).toNat:Int)) w):=fun k hk w=>index_str r.rest k hk w;obtain ⟨n,hn⟩:∃ n,r.rest.length=n:=⟨_,rfl⟩;have hsz:(⟨r.rest.toArray⟩:ByteArray).size=n:=hn;have HN:=Lib.hid hn;rw [hn] at IK hf;have c0:=h.c0;have f0:=h.2.frozen 0;clear hn hq ho hne;obtain ⟨eb,heb⟩:∃ x,e.toNat=x:=⟨_,rfl⟩;have HEB:=Lib.hid heb
 have heb8:eb < 256:=by rw [←heb];exact e.toNat_lt
 rw [heb];clear heb
 go_enter Tryz.func148,Tryz.ntmps148
 go_wp2_with fail
 go_loop [5] (fun v=>AheadRel r.rest e n v) (fun v=>n - (intOf v).toNat)
 case atStart=>exact ⟨0,Nat.zero_le _,by omega,rfl,by simp⟩
 case round =>
  obtain ⟨k,hk,hk21,rfl,hm⟩:=hrel;have HM:=Lib.hid hm;clear hm
  by_cases h1:k < n
  ·have xk:=IK.out k h1
   have HG:Hid (r.rest[k]?=some (r.rest.getD k 0)):=by
    show _=_
    simp [List.getD,show k < r.rest.length by rw [HN.out];exact h1]
   have HMORE:Hid (r.rest.getD k 0≠e→∀ c∈r.rest.take (k+1),c≠e):=fun hc=>ahead_more HM.out (by rw [HN.out];exact h1) hc;obtain ⟨c,hcc⟩:∃ c,r.rest.getD k 0=c:=⟨_,rfl⟩;rw [hcc] at xk HG HMORE;clear hcc
   by_cases hce:c=e
   ·have hcb:c.toNat=eb:=by rw [hce];exact HEB.out
    rw [hcb] at xk;rw [hce] at HG;clear hce hcb HMORE
    have q:((eb:Int) != (eb:Int))=false:=by simp
    have hl21:(r.rest.take k).length≤100000000:=by rw [List.length_take];omega
    have BK:=Lib.hid (rback_any (r.rest.take k) w hl21);have hx:(⟨r.rest.toArray⟩:ByteArray).extract 0 k=⟨(r.rest.take k).toArray⟩:=pre_eq r.rest k
    have hy:(⟨r.rest.toArray⟩:ByteArray).extract (k+1) n=⟨(r.rest.drop (k+1)).toArray⟩:=by
     have:=post_eq r.rest (k+1)
     rwa [HN.out] at this
    have b1:(k:Int)+1≤(n:Int):=by omega
    clear hl21
    have BP:Hid (∀ y,Wire.BackR (r.rest.take k) y false→x=0∧r'=Wire.failed):=fun y hb=>by
     have:=HQ.out;rw [Wire.ahead_no HO.out HNE.out HM.out HG.out hb] at this;injection this with e1 e2;exact ⟨e1.symm,e2.symm⟩
    have BT:Hid (∀ y,Wire.BackR (r.rest.take k) y true→x=y∧r'=⟨r.rest.drop (k+1),r.bad⟩):=fun y hb=>by
     have:=HQ.out;rw [Wire.ahead_yes HNE.out HG.out hb] at this;injection this with e1 e2;exact ⟨e1.symm,e2.symm⟩
    go_wp2_with (go_at_call 192;refine BK.out.mono ?_)
    all_goals (
     rintro en w1 ⟨y,t,rfl,hb,k1⟩;have hr1:=h.kept k1 (by simp);have d0:=hr1.c0;have g0:=hr1.2.frozen 0
     cases t
     ·have HF:=Lib.hid (BP.out y hb);clear hb;go_wp2_with (go_at_call 147;refine (rr_fail b r _ hr1).mono ?_;rintro e w2 ⟨rfl,hr,hk⟩);go_ret;refine ⟨by rw [HF.out.1];rfl,by rw [HF.out.2];exact hr,(k1.mono (by simp)).trans hk⟩
     ·have HF:=Lib.hid (BT.out y hb);clear hb;go_wp2_with fail;go_ret
      exact ⟨by rw [HF.out.1];rfl,by rw [HF.out.2];exact hr1.set1 _,(k1.mono (by simp)).setCell (by simp) _⟩)
   ·have HMO:=Lib.hid (HMORE.out hce)
    have q:((c.toNat:Int) != (eb:Int))=true:=by
     rw [bne_iff_ne];intro h;exact hce (UInt8.toNat_inj.1 (by rw [HEB.out];omega))
    have q3:(c.toNat==eb)=false:=by
     rw [beq_eq_false_iff_ne];intro h;exact hce (UInt8.toNat_inj.1 (by rw [HEB.out];exact h))
    have q4:((c.toNat:Int)==(eb:Int))=false:=by
     rw [beq_eq_false_iff_ne];intro h;exact hce (UInt8.toNat_inj.1 (by rw [HEB.out];omega))
    clear hce
    by_cases h21:k < 21
    ·go_wp2_with fail
     go_round
     case rel=>exact ⟨k+1,by omega,by omega,by go_num,HMO.out⟩
     case measure=>simp [intOf];omega
    ·have HF:Hid (x=0∧r'=Wire.failed):=by
      have:=HQ.out;rw [Wire.ahead_none HO.out HM.out (Or.inr (by omega))] at this;injection this with e1 e2;exact ⟨e1.symm,e2.symm⟩
     go_wp2_with (go_at_call 147;refine (rr_fail b r _ h).mono ?_;rintro e w2 ⟨rfl,hr,hk⟩);go_ret;exact ⟨by rw [HF.out.1];rfl,by rw [HF.out.2];exact hr,hk⟩
  ·obtain rfl:k=n:=by omega
   have HF:Hid (x=0∧r'=Wire.failed):=by
    have:=HQ.out;rw [Wire.ahead_none HO.out HM.out (Or.inl (by rw [HN.out];omega))] at this;injection this with e1 e2;exact ⟨e1.symm,e2.symm⟩
   go_wp2_with (go_at_call 147;refine (rr_fail b r _ h).mono ?_;rintro e w2 ⟨rfl,hr,hk⟩);go_ret;exact ⟨by rw [HF.out.1];rfl,by rw [HF.out.2];exact hr,hk⟩
theorem rr_ahead' {n:Int} {r1:Wire.Rd} (b:Nat) (r:Wire.Rd) (e:UInt8) (hq:Wire.number e (-9223372036854775808) r=(n,r1)) (w:World) (h:RrAt w b r) (hne:¬ Wire.NumByte e) (ho:Wire.Ok r) (hs:Fits r) :
  Calls Tryz.prog 148 #[.pointer (some ⟨b,0,none⟩),.int .u8 (e.toNat:Int)] w fun en w' =>
   en=.returned (.int .i64 n)∧RrAt w' b r1∧Kept [b] w w':=by
 have:=rr_ahead b r e w h hne ho hs;rw [hq] at this;exact this
set_option maxHeartbeats 400000 in
theorem rr_number {n:Int} {r1:Wire.Rd} (b:Nat) (r:Wire.Rd) (e:UInt8) (hq:Wire.number e 0 r=(n,r1)) (w:World) (h:RrAt w b r) (hne:¬ Wire.NumByte e) (ho:Wire.Ok r) (hs:Fits r) :
  Calls Tryz.prog 145 #[.pointer (some ⟨b,0,none⟩),.int .u8 (e.toNat:Int)] w fun en w' =>
   en=.returned (.int .i64 n)∧RrAt w' b r1∧Kept [b] w w':=by
 obtain ⟨x,r',hx⟩:∃ x r',Wire.number e (-9223372036854775808) r=(x,r'):=⟨_,_,rfl⟩;have hz:=Wire.number_zero e r hx;rw [hq] at hz;have C:=Lib.hid (rr_ahead' b r e hx w h hne ho hs);obtain ⟨eb,heb⟩:∃ x,e.toNat=x:=⟨_,rfl⟩;rw [heb] at C ⊢;clear hx hq heb hne
 by_cases hn:x < 0
 ·rw [if_pos hn] at hz;injection hz with e1 e2;have H1:=Lib.hid e1;have H2:=Lib.hid e2;clear e1 e2
  go_enter Tryz.func145,Tryz.ntmps145
  go_wp2_with (go_at_call 148;refine C.out.mono ?_);rintro en w1 ⟨rfl,h1,k1⟩;go_wp2_with (go_at_call 147;refine (rr_fail b _ _ h1).mono ?_;rintro e w2 ⟨rfl,hr,hk⟩);go_ret;exact ⟨by rw [H1.out];rfl,by rw [H2.out];exact hr,k1.trans hk⟩
 ·rw [if_neg hn] at hz;injection hz with e1 e2;have H1:=Lib.hid e1;have H2:=Lib.hid e2
  have hn0:decide (x < 0)=false:=by simpa using hn
  clear e1 e2 hn
  go_enter Tryz.func145,Tryz.ntmps145
  go_wp2_with (go_at_call 148;refine C.out.mono ?_);rintro en w1 ⟨rfl,h1,k1⟩;go_wp2_with fail;go_ret;exact ⟨by rw [H1.out];rfl,by rw [H2.out];exact h1,k1⟩
set_option maxHeartbeats 400000 in
theorem rr_int {n:Int} {r1:Wire.Rd} (b:Nat) (r:Wire.Rd) (hq:Wire.number 59 (-9223372036854775808) r=(n,r1)) (w:World) (h:RrAt w b r) (ho:Wire.Ok r) (hs:Fits r) :
  Calls Tryz.prog 67 #[.pointer (some ⟨b,0,none⟩)] w fun en w'=>en=.returned (.int .i64 n)∧RrAt w' b r1∧Kept [b] w w':=by
 have C:Hid (Calls Tryz.prog 148 #[.pointer (some ⟨b,0,none⟩),.int .u8 59] w fun en w'=>en=.returned (.int .i64 n)∧RrAt w' b r1∧Kept [b] w w'):=rr_ahead' b r 59 hq w h Wire.not59 ho hs;clear hq
 go_enter Tryz.func67,Tryz.ntmps67
 go_wp2_with (go_at_call 148;refine C.out.mono ?_);rintro e w1 ⟨rfl,h1,hk1⟩;go_wp2;go_ret;exact ⟨rfl,h1,hk1⟩
set_option maxHeartbeats 400000 in
theorem rr_done (b:Nat) (r:Wire.Rd) (w:World) (h:RrAt w b r) :
  Calls Tryz.prog 68 #[.pointer (some ⟨b,0,none⟩)] w fun en w' =>
   en=.returned (.bool (!r.bad&&r.rest.isEmpty))∧Kept [] w w':=by
 have c0:=h.c0;have c1:=h.c1
 cases hb:r.bad
 ·rw [hb] at c1
  go_enter Tryz.func68,Tryz.ntmps68
  go_wp2;go_ret;exact ⟨by simp,Kept.refl _ _⟩
 ·rw [hb] at c1
  go_enter Tryz.func68,Tryz.ntmps68
  go_wp2;go_ret;exact ⟨by simp,Kept.refl _ _⟩
set_option maxHeartbeats 400000 in
theorem rr_open (s:List UInt8) (w:World) (hE:Env w) :
  Calls Tryz.prog 64 #[.string ⟨s.toArray⟩] w fun en w' =>
   en=.returned (.pointer (some ⟨w.heap.size,0,none⟩))∧RrAt w' w.heap.size ⟨s,false⟩∧Kept [] w w':=by
 go_enter Tryz.func64,Tryz.ntmps64
 go_wp2;go_ret;exact ⟨rfl,⟨hE.size,Blk.new _ _ _⟩,(Kept.refl _ _).alloc _⟩
end Go.Proofs.YtpcdfepndmconaaGreatDoor
namespace Go.Proofs.YtpcdfepndmconaaGreatDoor
open Go.RowKit
theorem close_flag (e:UInt8) (r:Wire.Rd) (h:r.bad=false):(r.rest.head?==some e)=!(Wire.close [e] r).bad:=by
 rw [Wire.close_one]
 by_cases hc:r.rest.head?=some e
 ·rw [if_pos hc,hc];simp [h]
 ·rw [if_neg hc];simpa [Wire.failed] using hc
set_option maxHeartbeats 800000 in
theorem rr_text (b:Nat) (r:Wire.Rd) (w:World) (h:RrAt w b r) (ho:Wire.Ok r) (hs:Fits r) :
  Calls Tryz.prog 66 #[.pointer (some ⟨b,0,none⟩)] w fun en w' =>
   en=.returned (.string ⟨(Wire.text r).1.toArray⟩)∧RrAt w' b (Wire.text r).2∧Kept [b] w w':=by
 obtain ⟨n,r1,hq⟩:∃ n r1,Wire.number 58 0 r=(n,r1):=⟨_,_,rfl⟩
 have hn0:0≤n:=by have:=Wire.number_least 58 0 (by omega) r;rw [hq] at this;exact this
 obtain ⟨m,rfl⟩:=Int.eq_ofNat_of_zero_le hn0
 have ho1:Wire.Ok r1:=by have:=Wire.ok_number 58 0 r ho;rw [hq] at this;exact this
 have C:Hid (Calls Tryz.prog 145 #[.pointer (some ⟨b,0,none⟩),.int .u8 58] w fun en w'=>en=.returned (.int .i64 (m:Int))∧RrAt w' b r1∧Kept [b] w w'):=rr_number b r 58 hq w h Wire.not58 ho hs;have hf1:=fits_number hq hs
 unfold Fits at hf1
 obtain ⟨x,r2,hx⟩:∃ x r2,Wire.text r=(x,r2):=⟨_,_,rfl⟩;rw [hx]
 cases hb:r1.bad
 ·by_cases hlt:m < r1.rest.length
  ·obtain ⟨rc,hrc⟩:∃ rc,Wire.close [44] ⟨r1.rest.drop m,r1.bad⟩=rc:=⟨_,rfl⟩;have hl:=Wire.text_live hq hlt hrc;rw [hx] at hl;have hfl:=close_flag 44 ⟨r1.rest.drop m,r1.bad⟩ hb;rw [hrc] at hfl
   have CL:Hid (∀ w,RrAt w b ⟨r1.rest.drop m,r1.bad⟩→Calls Tryz.prog 146 #[.pointer (some ⟨b,0,none⟩),.int .u8 44] w fun en w'=>en=.returned (.bool (!rc.bad))∧RrAt w' b rc∧Kept [b] w w'):=fun w hw=>by
    have:=rr_close b ⟨r1.rest.drop m,r1.bad⟩ 44 w hw (by simp only [List.length_drop];omega);rw [hrc,hfl] at this;exact this
   have p1:=pre_eq r1.rest m;have p2:=post_eq r1.rest m;have HL:=Lib.hid hl
   have b1:(m:Int)≤(r1.rest.length:Int):=by omega
   have HB:=Lib.hid hb;clear hq hrc hfl hl hx
   go_enter Tryz.func66,Tryz.ntmps66
   go_wp2_with (go_at_call 145;refine C.out.mono ?_);rintro e w1 ⟨rfl,h1,k1⟩;have c0:=h1.c0;have c1:=h1.c1;have f0:=h1.2.frozen 0;rw [HB.out] at c1;clear hb;go_wp2_with (go_at_call 146;refine (CL.out _ (h1.set1 _)).mono ?_);rintro e w2 ⟨rfl,h2,k2⟩
   cases hrb:rc.bad
   ·have HF:Hid (x=r1.rest.take m∧r2=rc):=by
     have:=HL.out;rw [hrb] at this;injection this with e1 e2;exact ⟨e1,e2⟩
    clear hrb;go_wp2_with fail;go_ret;exact ⟨by rw [HF.out.1];rfl,by rw [HF.out.2];exact h2,(k1.setCell (by simp) _).trans k2⟩
   ·have HF:Hid (x=[]∧r2=rc):=by
     have:=HL.out;rw [hrb] at this;injection this with e1 e2;exact ⟨e1,e2⟩
    clear hrb;go_wp2_with fail;go_ret;exact ⟨by rw [HF.out.1];rfl,by rw [HF.out.2];exact h2,(k1.setCell (by simp) _).trans k2⟩
  ·have HF:Hid (x=[]∧r2=Wire.failed):=by
    have:=Wire.text_dead hq ho1 (Or.inr (by omega));rw [hx] at this;injection this with e1 e2;exact ⟨e1,e2⟩
   have HB:=Lib.hid hb
   have b1:decide ((r1.rest.length:Int)≤(m:Int))=true:=by simp;omega
   have b2:(r1.rest.length:Int)≤(m:Int):=by omega
   clear hq hx hlt hb
   go_enter Tryz.func66,Tryz.ntmps66
   go_wp2_with (go_at_call 145;refine C.out.mono ?_);rintro e w1 ⟨rfl,h1,k1⟩;have c0:=h1.c0;have c1:=h1.c1;rw [HB.out] at c1;go_wp2_with (go_at_call 147;refine (rr_fail b _ _ h1).mono ?_;rintro e w2 ⟨rfl,hr,hk⟩);go_ret;exact ⟨by rw [HF.out.1];rfl,by rw [HF.out.2];exact hr,k1.trans hk⟩
 ·have HF:Hid (x=[]∧r2=Wire.failed):=by
   have:=Wire.text_dead hq ho1 (Or.inl hb);rw [hx] at this;injection this with e1 e2;exact ⟨e1,e2⟩
  have HB:=Lib.hid hb;clear hq hx hb
  go_enter Tryz.func66,Tryz.ntmps66
  go_wp2_with (go_at_call 145;refine C.out.mono ?_);rintro e w1 ⟨rfl,h1,k1⟩;have c1:=h1.c1;rw [HB.out] at c1;go_wp2_with (go_at_call 147;refine (rr_fail b _ _ h1).mono ?_;rintro e w2 ⟨rfl,hr,hk⟩);go_ret;exact ⟨by rw [HF.out.1];rfl,by rw [HF.out.2];exact hr,k1.trans hk⟩
/-- the loop's relation -/
def RrRel (w0:World) (b:Nat) (fin:List Int × Wire.Rd) (L n:Nat) (v i:Value) (wr:World):Prop :=
 ∃ (m:Nat) (r:Wire.Rd) (acc:List Int),m≤n∧i=.int .i64 ((n - m:Nat):Int)∧Wire.loop rdInt m r acc=fin∧wr.ownsRow w0.heap.size 3 1 v acc.length (ints acc) ∧
  RrAt wr b r∧Kept [b] w0 wr∧Fits r∧Pays L r acc.length∧Wire.Ok r
set_option maxRecDepth 100000 in
set_option maxHeartbeats 1600000 in
theorem rr_nums (b:Nat) (r:Wire.Rd) (w:World) (h:RrAt w b r) (ho:Wire.Ok r) (hs:Fits r) :
  Calls Tryz.prog 65 #[.pointer (some ⟨b,0,none⟩)] w fun en w' =>
   ∃ v,en=.returned v∧w'.ownsRow w.heap.size 3 1 v (Wire.nums r).1.length (ints (Wire.nums r).1)∧RrAt w' b (Wire.nums r).2∧Kept [b] w w':=by
 obtain ⟨n,r1,hq⟩:∃ n r1,Wire.number 91 0 r=(n,r1):=⟨_,_,rfl⟩
 have hn0:0≤n:=by have:=Wire.number_least 91 0 (by omega) r;rw [hq] at this;exact this
 have hn1:n≤9223372036854775807:=by have:=Wire.number_bounds 91 0 r;rw [hq] at this;exact this.2
 obtain ⟨m,rfl⟩:=Int.eq_ofNat_of_zero_le hn0;have hs1:=fits_number hq hs
 have ho1:Wire.Ok r1:=by have:=Wire.ok_number 91 0 r ho;rw [hq] at this;exact this
 have C:Hid (Calls Tryz.prog 145 #[.pointer (some ⟨b,0,none⟩),.int .u8 91] w fun en w'=>en=.returned (.int .i64 (m:Int))∧RrAt w' b r1∧Kept [b] w w'):=rr_number b r 91 hq w h Wire.not91 ho hs;obtain ⟨fin,hfin⟩:∃ fin,Wire.loop rdInt m r1 []=fin:=⟨_,rfl⟩;have H:=Lib.hid hq;have HF:=Lib.hid hfin;have hbl:=h.2.lt;have HO1:=Lib.hid ho1;obtain ⟨i0,hi,hz0,hz1,hz2⟩:=info_parts infoInt;clear hq hfin ho1 ho
 go_enter Tryz.func65,Tryz.ntmps65
 go_wp2_with (go_at_call 145;refine C.out.mono ?_);rintro e w1 ⟨rfl,h1,hk1⟩;go_wp2_with fail
 go_loopw [4,5] (fun v i wr=>RrRel w b fin 100000000 m v i wr) (fun _ i _=>m - (intOf i).toNat)
 case atStart =>
  exact ⟨m,r1,[],Nat.le_refl _,by rw [Nat.sub_self];rfl,HF.out,by simpa [ints] using World.ownsRow_nil _ _ _ _,h1,hk1,hs1,⟨fun _=>by unfold Fits at hs1;simpa using hs1,by simp⟩,HO1.out⟩
 case round =>
  obtain ⟨n,r',acc,hn,rfl,hl,hown,hr,hk,hf,hp,hok⟩:=hrel;have hsz:=hk.size;have c1:=hr.c1;have HL:=Lib.hid hl;have HOK:=Lib.hid hok;clear hl hok;obtain ⟨j,hj⟩:∃ j,m - n=j:=⟨_,rfl⟩;rw [hj]
  have hjm:j≤m:=by omega
  have HJ:=Lib.hid hj;clear hj
  by_cases hgo:0 < n∧r'.bad=false
  ·obtain ⟨hn0,hbad⟩:=hgo;obtain ⟨n,rfl⟩:∃ k,n=k+1:=⟨n - 1,by omega⟩;obtain ⟨y,r2,hy⟩:∃ y r2,rdInt r'=(y,r2):=⟨_,_,rfl⟩;have hr2:=rr_int b r' hy wr hr HOK.out hf;have hpay:=hp.step hbad (number_pays 59 (-9223372036854775808) r');have hy':Wire.number 59 (-9223372036854775808) r'=(y,r2):=hy;have hf2:=fits_number hy hf
   have HO2:Hid (Wire.Ok r2):=by have:=Wire.ok_number 59 (-9223372036854775808) r' HOK.out;rw [hy'] at this;exact this
   have hl2:Wire.loop rdInt n r2 (acc++[y])=fin:=by
    have:=HL.out;simp only [Wire.loop,hbad,Bool.false_eq_true,if_false,hy] at this;exact this
   rw [hy'] at hpay
   simp only at hpay
   have HR:=Lib.hid hr2;have HL2:=Lib.hid hl2;rw [hbad] at c1
   have hjlt:(j:Int) < (m:Int):=by have:=HJ.out;omega
   clear hy hy' hr2 hl2 hbad
   go_wp2_with (first
    | (go_at_call 67;refine HR.out.mono ?_;rintro e w2 ⟨rfl,h2,hk2⟩;have hown2:=own_kept hown hk2 (by simpa using hbl))
    | (at_builtin;refine wpList_append_own _ rfl _ _ 24 rfl w.heap.size 3 i0 (.int .i64 0) 1 8 Tryz.underlying24 hi hz0 hz1 hz2 rfl (by decide) _ _ _ rfl (hown2.alloc _) ⟨w2.heap.size,0,none⟩ 1 1 [.int .i64 y] rfl rfl ?c1 ?c2 ?c3 ?c4 ?c5 ?_))
   case c1=>exact cell_one_new _ _ _
   case c2=>intro u hu;rw [List.mem_singleton] at hu;subst hu;rfl
   case c3=>have:=hpay.2;unfold maxLen;omega
   case c4=>have:=hpay.2;omega
   case c5=>have:=hk2.size;simp;omega
   intro v' w3 hown3 hg3 _;have hk3:Kept [b] w w3:=((hk.trans hk2).alloc _).grown hg3 (fun k hk=>Or.inr (hown2.lt k hk).1);have hr3:RrAt w3 b r2:=⟨h2.1,(hg3.block b (Nat.lt_of_lt_of_le h2.2.lt (by simp)) (fun e=>by have:=(hown2.lt b e.symm).1;omega)).trans (h2.2.alloc _)⟩
   have e3:ints acc++[.int .i64 y]=ints (acc++[y]):=by simp [ints]
   rw [e3] at hown3;clear e3 hg3 hown2 hown h2 hk2 hk hr c1;go_wp2
   go_roundw
   case rel=>exact ⟨n,r2,acc++[y],by omega,by have:=HJ.out;rw [show m - n=j+1 by omega];go_num,HL2.out,by simpa using hown3,hr3,hk3,hf2,by simpa using hpay,HO2.out⟩
   case measure=>simp [intOf];omega
  ·have hfin:fin=(acc,r'):=by
    rw [←HL.out]
    cases n with
    | zero=>rfl
    | succ n =>
     have hb:r'.bad=true:=by
      cases hb:r'.bad
      ·exact absurd ⟨by omega,hb⟩ hgo
      ·rfl
     simp [Wire.loop,hb]
   have hout:Wire.nums r=(if (Wire.close [93] r').bad then [] else acc,Wire.close [93] r'):=by
    rw [nums_eq]
    unfold Wire.items
    rw [H.out];simp only [Int.toNat_natCast];rw [HF.out,hfin]
    simp only
    split <;> rfl
   have HO:=Lib.hid hout;obtain ⟨va,vc,rfl⟩:=own_form hown
   have hexit:(decide ((j:Int) < (m:Int))=false)∨(decide ((j:Int) < (m:Int))=true∧r'.bad=true):=by
    rcases Nat.eq_zero_or_pos n with h0|h0
    ·left
     have:=HJ.out
     simp;omega
    ·right
     refine ⟨by have:=HJ.out;simp;omega,?_⟩
     cases hb:r'.bad
     ·exact absurd ⟨h0,hb⟩ hgo
     ·rfl
   have HX:=Lib.hid hexit;clear hfin hout HL hgo hexit
   cases hb:r'.bad
   ·have hfl:=close_flag 93 r' hb;have hcl:=rr_close b r' 93 wr hr hf;obtain ⟨rc,hrc⟩:∃ rc,Wire.close [93] r'=rc:=⟨_,rfl⟩;rw [hrc] at hcl hfl HO;rw [hfl] at hcl;have HC:Hid (Calls Tryz.prog 146 #[.pointer (some ⟨b,0,none⟩),.int .u8 93] wr fun en w'=>en=.returned (.bool (!rc.bad))∧RrAt w' b rc∧Kept [b] wr w'):=hcl
    have d:m≤j:=by
     rcases HX.out with h|⟨_,h⟩
     ·simpa using h
     ·rw [hb] at h;cases h
    rw [hb] at c1;clear hfl hcl hrc hb
    cases hbc:rc.bad
    all_goals
     go_wp2_with (go_at_call 146;refine HC.out.mono ?_;rintro e w2 ⟨rfl,h2,hk2⟩);go_wp2_with fail;go_ret;rw [HO.out];simp only [hbc,if_true,Bool.false_eq_true,if_false];refine ⟨_,rfl,?_,h2,hk.trans hk2⟩
    ·exact own_kept hown hk2 (by simpa using hbl)
    ·exact by simpa [ints] using World.ownsRow_nil _ _ _ _
   ·have hrf:r'=Wire.failed:=by
     obtain ⟨s,bd⟩:=r';have h1:=HOK.out hb
     simp only at h1 hb
     subst h1 hb
     rfl
    have hcf:Wire.close [93] r'=Wire.failed:=by rw [hrf];rfl
    rw [hcf] at HO;have HRF:=Lib.hid hrf;rw [hb] at c1;clear hrf hcf hb HX
    by_cases hd:j < m
    all_goals
     go_wp2_with fail;go_ret;rw [HO.out];refine ⟨_,rfl,by simpa [ints,Wire.failed] using World.ownsRow_nil _ _ _ _,by rw [←HRF.out];exact hr,hk⟩
end Go.Proofs.YtpcdfepndmconaaGreatDoor
