/- The links of a record that the reference reads: what the rounds keep; how the rounds of a loop end. -/
import Derived.Test.YtpcdfepndmconaaGreatDoorRr5
import Derived.Test.YtpcdfepndmconaaGreatDoorRdS
import Derived.Test.YtpcdfepndmconaaGreatDoorDeL
import Derived.Test.YtpcdfepndmconaaGreatDoorRr1
import Derived.Test.YtpcdfepndmconaaGreatDoorPfG
/- JOINED: Rr6 QeL -/
/- The reference's reader: Texts. -/
namespace Go.Proofs.YtpcdfepndmconaaGreatDoor
open Go.RowKit
theorem texts_eq (r:Wire.Rd):Wire.texts r=Wire.items Wire.text r:=rfl
/-- the loop's relation -/
def RrRelS (w0:World) (b:Nat) (fin:List (List UInt8) × Wire.Rd) (L n:Nat) (v i:Value) (wr:World):Prop :=
 ∃ (m:Nat) (r:Wire.Rd) (acc:List (List UInt8)),m≤n∧i=.int .i64 ((n - m:Nat):Int)∧Wire.loop Wire.text m r acc=fin∧wr.ownsRow w0.heap.size 9 1 v acc.length (strs acc) ∧
  RrAt wr b r∧Kept [b] w0 wr∧Fits r∧Pays L r acc.length∧Wire.Ok r
set_option maxRecDepth 100000 in
set_option maxHeartbeats 1600000 in
theorem rr_texts (b:Nat) (r:Wire.Rd) (w:World) (h:RrAt w b r) (ho:Wire.Ok r) (hs:Fits r) :
  Calls Tryz.prog 121 #[.pointer (some ⟨b,0,none⟩)] w fun en w' =>
   ∃ v,en=.returned v∧w'.ownsRow w.heap.size 9 1 v (Wire.texts r).1.length (strs (Wire.texts r).1)∧RrAt w' b (Wire.texts r).2∧Kept [b] w w':=by
 obtain ⟨n,r1,hq⟩:∃ n r1,Wire.number 91 0 r=(n,r1):=⟨_,_,rfl⟩
 have hn0:0≤n:=by have:=Wire.number_least 91 0 (by omega) r;rw [hq] at this;exact this
 have hn1:n≤9223372036854775807:=by have:=Wire.number_bounds 91 0 r;rw [hq] at this;exact this.2
 obtain ⟨m,rfl⟩:=Int.eq_ofNat_of_zero_le hn0;have hs1:=fits_number hq hs
 have ho1:Wire.Ok r1:=by have:=Wire.ok_number 91 0 r ho;rw [hq] at this;exact this
 have C:Hid (Calls Tryz.prog 145 #[.pointer (some ⟨b,0,none⟩),.int .u8 91] w fun en w'=>en=.returned (.int .i64 (m:Int))∧RrAt w' b r1∧Kept [b] w w'):=rr_number b r 91 hq w h Wire.not91 ho hs;obtain ⟨fin,hfin⟩:∃ fin,Wire.loop Wire.text m r1 []=fin:=⟨_,rfl⟩;have H:=Lib.hid hq;have HF:=Lib.hid hfin;have hbl:=h.2.lt;have HO1:=Lib.hid ho1;obtain ⟨i0,hi,hz0,hz1,hz2⟩:=info_parts infoStr;clear hq hfin ho1 ho
 go_enter Tryz.func121,Tryz.ntmps121
 go_wp2_with (go_at_call 145;refine C.out.mono ?_);rintro e w1 ⟨rfl,h1,hk1⟩;go_wp2_with fail
 go_loopw [4,5] (fun v i wr=>RrRelS w b fin 100000000 m v i wr) (fun _ i _=>m - (intOf i).toNat)
 case atStart =>
  exact ⟨m,r1,[],Nat.le_refl _,by rw [Nat.sub_self];rfl,HF.out,by simpa [strs] using World.ownsRow_nil _ _ _ _,h1,hk1,hs1,⟨fun _=>by unfold Fits at hs1;simpa using hs1,by simp⟩,HO1.out⟩
 case round =>
  obtain ⟨n,r',acc,hn,rfl,hl,hown,hr,hk,hf,hp,hok⟩:=hrel;have hsz:=hk.size;have c1:=hr.c1;have HL:=Lib.hid hl;have HOK:=Lib.hid hok;clear hl hok;obtain ⟨j,hj⟩:∃ j,m - n=j:=⟨_,rfl⟩;rw [hj]
  have hjm:j≤m:=by omega
  have HJ:=Lib.hid hj;clear hj
  by_cases hgo:0 < n∧r'.bad=false
  ·obtain ⟨hn0,hbad⟩:=hgo;obtain ⟨n,rfl⟩:∃ k,n=k+1:=⟨n - 1,by omega⟩;obtain ⟨y,r2,hy⟩:∃ y r2,Wire.text r'=(y,r2):=⟨_,_,rfl⟩;have hr2:=rr_text b r' wr hr HOK.out hf;have hpay:=hp.step hbad (text_pays r')
   have hf2:Fits r2:=by have:=(fits_text hf).1;rw [hy] at this;exact this
   have HO2:Hid (Wire.Ok r2):=by have:=Wire.ok_text r' HOK.out;rw [hy] at this;exact this
   have hl2:Wire.loop Wire.text n r2 (acc++[y])=fin:=by
    have:=HL.out;simp only [Wire.loop,hbad,Bool.false_eq_true,if_false,hy] at this;exact this
   rw [hy] at hr2 hpay
   simp only at hr2 hpay
   have HR:=Lib.hid hr2;have HL2:=Lib.hid hl2;rw [hbad] at c1
   have hjlt:(j:Int) < (m:Int):=by have:=HJ.out;omega
   clear hy hr2 hl2 hbad
   go_wp2_with (first
    | (go_at_call 66;refine HR.out.mono ?_;rintro e w2 ⟨rfl,h2,hk2⟩;have hown2:=own_kept hown hk2 (by simpa using hbl))
    | (at_builtin;refine wpList_append_own _ rfl _ _ 44 rfl w.heap.size 9 i0 (.string ⟨#[]⟩) 1 16 Tryz.underlying44 hi hz0 hz1 hz2 rfl (by decide) _ _ _ rfl (hown2.alloc _) ⟨w2.heap.size,0,none⟩ 1 1 [.string ⟨y.toArray⟩] rfl rfl ?c1 ?c2 ?c3 ?c4 ?c5 ?_))
   case c1=>exact cell_one_new _ _ _
   case c2=>intro u hu;rw [List.mem_singleton] at hu;subst hu;rfl
   case c3=>have:=hpay.2;unfold maxLen;omega
   case c4=>have:=hpay.2;omega
   case c5=>have:=hk2.size;simp;omega
   intro v' w3 hown3 hg3 _;have hk3:Kept [b] w w3:=((hk.trans hk2).alloc _).grown hg3 (fun k hk=>Or.inr (hown2.lt k hk).1);have hr3:RrAt w3 b r2:=⟨h2.1,(hg3.block b (Nat.lt_of_lt_of_le h2.2.lt (by simp)) (fun e=>by have:=(hown2.lt b e.symm).1;omega)).trans (h2.2.alloc _)⟩
   have e3:strs acc++[.string ⟨y.toArray⟩]=strs (acc++[y]):=by simp [strs]
   rw [e3] at hown3;clear e3 hg3 hown2 hown h2 hk2 hk hr c1;go_wp2
   go_roundw
   case rel=>exact ⟨n,r2,acc++[y],by omega,by have:=HJ.out;rw [show m - n=j+1 by omega];go_num,HL2.out,by simpa using hown3,hr3,hk3,hf2,by simpa using hpay,HO2.out⟩
   case measure=>simp [intOf];omega
  ·have hfin:fin=(acc,r'):=by
    rw [←HL.out]
    cases n with
    | zero=>rfl
    | succ n =>
     have hb:r'.bad=true:=by
      cases hb:r'.bad
      ·exact absurd ⟨by omega,hb⟩ hgo
      ·rfl
     simp [Wire.loop,hb]
   have hout:Wire.texts r=(if (Wire.close [93] r').bad then [] else acc,Wire.close [93] r'):=by
    rw [texts_eq]
    unfold Wire.items
    rw [H.out];simp only [Int.toNat_natCast];rw [HF.out,hfin]
    simp only
    split <;> rfl
   have HO:=Lib.hid hout;obtain ⟨va,vc,rfl⟩:=own_form hown
   have hexit:(decide ((j:Int) < (m:Int))=false)∨(decide ((j:Int) < (m:Int))=true∧r'.bad=true):=by
    rcases Nat.eq_zero_or_pos n with h0|h0
    ·left
     have:=HJ.out
     simp;omega
    ·right
     refine ⟨by have:=HJ.out;simp;omega,?_⟩
     cases hb:r'.bad
     ·exact absurd ⟨h0,hb⟩ hgo
     ·rfl
   have HX:=Lib.hid hexit;clear hfin hout HL hgo hexit
   cases hb:r'.bad
   ·have hfl:=close_flag 93 r' hb;have hcl:=rr_close b r' 93 wr hr hf;obtain ⟨rc,hrc⟩:∃ rc,Wire.close [93] r'=rc:=⟨_,rfl⟩;rw [hrc] at hcl hfl HO;rw [hfl] at hcl;have HC:Hid (Calls Tryz.prog 146 #[.pointer (some ⟨b,0,none⟩),.int .u8 93] wr fun en w'=>en=.returned (.bool (!rc.bad))∧RrAt w' b rc∧Kept [b] wr w'):=hcl
    have d:m≤j:=by
     rcases HX.out with h|⟨_,h⟩
     ·simpa using h
     ·rw [hb] at h;cases h
    rw [hb] at c1;clear hfl hcl hrc hb
    cases hbc:rc.bad
    all_goals
     go_wp2_with (go_at_call 146;refine HC.out.mono ?_;rintro e w2 ⟨rfl,h2,hk2⟩);go_wp2_with fail;go_ret;rw [HO.out];simp only [hbc,if_true,Bool.false_eq_true,if_false];refine ⟨_,rfl,?_,h2,hk.trans hk2⟩
    ·exact own_kept hown hk2 (by simpa using hbl)
    ·exact by simpa [strs] using World.ownsRow_nil _ _ _ _
   ·have hrf:r'=Wire.failed:=by
     obtain ⟨s,bd⟩:=r';have h1:=HOK.out hb
     simp only at h1 hb
     subst h1 hb
     rfl
    have hcf:Wire.close [93] r'=Wire.failed:=by rw [hrf];rfl
    rw [hcf] at HO;have HRF:=Lib.hid hrf;rw [hb] at c1;clear hrf hcf hb HX
    by_cases hd:j < m
    all_goals
     go_wp2_with fail;go_ret;rw [HO.out];refine ⟨_,rfl,by simpa [strs,Wire.failed] using World.ownsRow_nil _ _ _ _,by rw [←HRF.out];exact hr,hk⟩
end Go.Proofs.YtpcdfepndmconaaGreatDoor
namespace Go.Proofs.YtpcdfepndmconaaGreatDoor
open Go.RowKit Tape
/-- behind a loop that fills a field -/
def QEnd {α:Type} (R:World→List Value→α→Prop) (m:Nat) (e:TypeId) (f:Nat) (one:Tp→α × Tp) (w:World) (b g po B:Nat) (Fin:World→Prop) (cs:Array Value) (r0:Tp) (N:Nat) (wc:World):Prop :=
 ∃ (r:Tp) (acc:List α) (X:List Nat) (a:Option Addr) (n c:Nat),acc.length≤N∧Stg (many one) r0 acc r∧Qg R m e f w wc b g po B X Fin cs a n c acc r
structure LiQ (w wo wr:World) (b g po B:Nat) (X:List Nat) (Fin:World→Prop) (cs:Array Value) (a:Option Addr) (n c:Nat) (accL:List (List (Lnk × List UInt8))) (ro r:Tp) (a10:Option Addr) (n10 c10:Nat) (acc2:List (Lnk × List UInt8)):Prop where
 do_:Qg LnksR 1 112 2 w wo b g po B X Fin cs a n c accL ro
 kb:Kept [b] wo wr
 tp:RwAt 152 wr b g r
 e10:n10=acc2.length
 gr:∃ X2,(∀ z∈X,z∈X2)∧(∀ z∈X2,z < wr.heap.size)∧(∀ z∈obl (.slice a10 n10 c10),z∈X2)∧Grow LnkR 9 138 wo.heap.size X2 wr (.slice a10 n10 c10) acc2
section
variable {w wo wr w1 u y:World} {b g po B:Nat} {X X2:List Nat} {Fin:World→Prop} {cs:Array Value} {a a10 p:Option Addr} {n c n10 c10 nt' q:Nat} {accL:List (List (Lnk × List UInt8))} {ro r r':Tp} {acc2:List (Lnk × List UInt8)} {d:Lnk × List UInt8}
theorem LiQ.dg (h:LiQ w wo wr b g po B X Fin cs a n c accL ro r a10 n10 c10 acc2):Qg LnksR 1 112 2 w wr b g po B X Fin cs a n c accL r:=h.do_.read h.kb h.tp
theorem LiQ.ge (h:LiQ w wo wr b g po B X Fin cs a n c accL ro r a10 n10 c10 acc2):∀ z∈obl (.slice a10 n10 c10),wo.heap.size≤z∧z < wr.heap.size:=by
 obtain ⟨X2,_,_,_,G⟩:=h.gr;exact G.ge
theorem LiQ.read (h:LiQ w wo wr b g po B X Fin cs a n c accL ro r a10 n10 c10 acc2) (k:Kept [b] wr w1) (tp:RwAt 152 w1 b g r'):LiQ w wo w1 b g po B X Fin cs a n c accL ro r' a10 n10 c10 acc2:=by
 obtain ⟨X2,x1,x2,x3,G⟩:=h.gr;have hb:=h.do_.de.bl;have hge:=h.ge
 have hS:∀ z∈[b],z < wr.heap.size→z∈X2:=fun z hz _=>by rw [List.mem_singleton] at hz;subst hz;exact x1 _ h.do_.de.bX
 exact ⟨h.do_,h.kb.trans k,tp,h.e10,⟨X2,x1,fun z hz=>Nat.lt_of_lt_of_le (x2 z hz) k.size,x3,G.step k (fun z hz hm=>by have:=hge z hz;rw [List.mem_singleton] at hm;omega) hS (fun z hz=>Or.inl hz)⟩⟩
theorem LiQ.keep (h:LiQ w wo wr b g po B X Fin cs a n c accL ro r a10 n10 c10 acc2) (k:Kept [] wr w1):LiQ w wo w1 b g po B X Fin cs a n c accL ro r a10 n10 c10 acc2 :=
 h.read (k.mono (by simp)) (h.tp.keep k (by simp) (by simp))
/-- what is finished still stands -/
theorem LiQ.fin (h:LiQ w wo wr b g po B X Fin cs a n c accL ro r a10 n10 c10 acc2):Fin wr:=h.dg.de.fin.get
theorem LiQ.push (h:LiQ w wo wr b g po B X Fin cs a n c accL ro r a10 n10 c10 acc2) (x1:∀ z∈X,z∈X2) (x2:∀ z∈X2,z < wr.heap.size) (k:Kept (obl (.slice a10 n10 c10)) wr y) (hn:nt'=n10+1)
  (G:Grow LnkR 9 138 wo.heap.size (X2++obl (.slice p nt' q)) y (.slice p nt' q) (acc2++[d])):LiQ w wo y b g po B X Fin cs a n c accL ro r p nt' q (acc2++[d]):=by
 have hge:=h.ge;have hsy:=k.size;have hb:=h.do_.de.bl;have hg:=h.do_.de.gl
 refine ⟨h.do_,h.kb.then_ k (fun z hz hm=>by have:=hge z hm;omega),h.tp.keep k (fun hm=>by have:=hge _ hm;omega) (fun hm=>by have:=hge _ hm;omega),by rw [hn,h.e10];simp,
  ⟨X2++obl (.slice p nt' q),fun z hz=>List.mem_append_left _ (x1 z hz),fun z hz=>?_,fun z hz=>List.mem_append_right _ hz,G⟩⟩
 rcases List.mem_append.1 hz with e|e
 ·have:=x2 z e;omega
 ·exact (G.ge z e).2
/-- the list of links is finished -/
theorem LiQ.done (h:LiQ w wo wr b g po B X Fin cs a n c accL ro r a10 n10 c10 acc2) (hl:acc2.length≤9223372036854775807):Stable X (fun w=>LnksR w [.slice a10 n10 c10] acc2) wr:=by
 obtain ⟨X2,x1,x2,x3,G⟩:=h.gr;have hge:=h.ge;have hX:=h.do_.de.hX;have h1:=h.e10;subst h1
 exact (G.done (X':=X) (fun z hz=>Or.inl (x1 z hz)) (fun z hz hm=>by have:=hge z hz;have:=hX z hm;omega) hl).imp fun _ h=>⟨_,rfl,h⟩
end
/-- how far the terms have been used -/
def Used (at_:Nat) (ts used:List (List UInt8)):Prop:=at_=used.length∧(at_≤ts.length→used=ts.take at_)
theorem Used.nil_ (ts:List (List UInt8)):Used 0 ts []:=⟨rfl,fun _=>rfl⟩
theorem Used.hit {at_:Nat} {ts used:List (List UInt8)} (h:Used at_ ts used) (hl:at_ < ts.length):Used (at_+1) ts (used++[ts[at_]]):=by
 refine ⟨by rw [List.length_append,←h.1];rfl,fun _=>?_⟩;rw [h.2 (by omega)];exact (List.take_succ_eq_append_getElem hl).symm
theorem Used.miss {at_:Nat} {ts used:List (List UInt8)} (h:Used at_ ts used) (hl:ts.length≤at_) (t:List UInt8):Used (at_+1) ts (used++[t]) :=
 ⟨by rw [List.length_append,←h.1];rfl,fun h2=>by omega⟩
/-- the rounds over the lists of links -/
def LQRel (w:World) (b g po B:Nat) (Fin:World→Prop) (cs:Array Value) (r0:Tp) (N:Nat) (ts:List (List UInt8)) (vt vi:Value) (wr:World):Prop :=
 ∃ (k:Nat) (r:Tp) (acc:List (List (Lnk × List UInt8))) (X:List Nat) (a:Option Addr) (n c at_:Nat),vt=.int .i64 (at_:Int)∧vi=.int .i64 (k:Int)∧acc.length+k=N∧TR (many lnk) k r (strip acc) (many (many lnk) r0)∧Used at_ ts (terms acc)∧at_≤acc.length*100000001 ∧
  Qg LnksR 1 112 2 w wr b g po B X Fin cs a n c acc r
def LQEnd (w:World) (b g po B:Nat) (Fin:World→Prop) (cs:Array Value) (r0:Tp) (N:Nat) (ts:List (List UInt8)) (vt:Value) (wr:World):Prop :=
 ∃ (r:Tp) (acc:List (List (Lnk × List UInt8))) (X:List Nat) (a:Option Addr) (n c at_:Nat),vt=.int .i64 (at_:Int)∧acc.length≤N∧Stg (many (many lnk)) r0 (strip acc) r∧Used at_ ts (terms acc)∧at_≤acc.length*100000001 ∧
  Qg LnksR 1 112 2 w wr b g po B X Fin cs a n c acc r
/-- the rounds over the links of one list -/
def InQ (w wo:World) (b g po B:Nat) (X:List Nat) (Fin:World→Prop) (cs:Array Value) (a:Option Addr) (n c:Nat) (accL:List (List (Lnk × List UInt8))) (ro r0:Tp) (N:Nat) (ts:List (List UInt8)) (vt v14 vi:Value) (wr:World):Prop :=
 ∃ (k:Nat) (r:Tp) (acc2:List (Lnk × List UInt8)) (a10:Option Addr) (n10 c10 at_:Nat),vt=.int .i64 (at_:Int)∧v14=.slice a10 n10 c10∧vi=.int .i64 (k:Int)∧acc2.length+k=N∧TR lnk k r (acc2.map Prod.fst) (many lnk r0)∧Used at_ ts (terms accL++acc2.map Prod.snd)∧at_≤accL.length*100000001+acc2.length ∧
  LiQ w wo wr b g po B X Fin cs a n c accL ro r a10 n10 c10 acc2
def InQEnd (w wo:World) (b g po B:Nat) (X:List Nat) (Fin:World→Prop) (cs:Array Value) (a:Option Addr) (n c:Nat) (accL:List (List (Lnk × List UInt8))) (ro r0:Tp) (N:Nat) (ts:List (List UInt8)) (vt v14:Value) (wr:World):Prop :=
 ∃ (r:Tp) (acc2:List (Lnk × List UInt8)) (a10:Option Addr) (n10 c10 at_:Nat),vt=.int .i64 (at_:Int)∧v14=.slice a10 n10 c10∧acc2.length≤N∧Stg (many lnk) r0 (acc2.map Prod.fst) r∧Used at_ ts (terms accL++acc2.map Prod.snd)∧at_≤accL.length*100000001+acc2.length ∧
  LiQ w wo wr b g po B X Fin cs a n c accL ro r a10 n10 c10 acc2
theorem LQRel.next {w wf:World} {b g po B:Nat} {Fin:World→Prop} {cs:Array Value} {r0 r:Tp} {N k at_:Nat} {ts:List (List UInt8)} {acc:List (List (Lnk × List UInt8))} {d:List (Lnk × List UInt8)} {p:Option Addr} {q:Nat}
  (h:∃ X',Qg LnksR 1 112 2 w wf b g po B X' Fin cs p (acc.length+1) q (acc++[d]) r) (hN:acc.length+(k+1)=N) (hf:TR (many lnk) k r (strip acc++[d.map Prod.fst]) (many (many lnk) r0)) (hu:Used at_ ts (terms acc++d.map Prod.snd))
  (ha:at_≤acc.length*100000001+d.length) (hd:d.length≤100000001):LQRel w b g po B Fin cs r0 N ts (.int .i64 (at_:Int)) (.int .i64 (k:Int)) wf:=by
 obtain ⟨X',D⟩:=h;exact ⟨k,r,acc++[d],X',p,acc.length+1,q,at_,rfl,rfl,by simp;omega,by rw [strip_snoc];exact hf,by rw [terms_snoc];exact hu,by simp;omega,D⟩
theorem used_bound {n a b:Nat} (h:n≤a*100000001+b) (ha:a≤100000001) (hb:b≤100000001):n≤20000000000000000:=by omega
theorem ok_texts (r:Wire.Rd) (ho:Wire.Ok r):Wire.Ok (Wire.texts r).2:=by
 have h1:=Wire.ok_number 91 0 r ho;have h2:=Wire.ok_loop Wire.text (fun r h=>Wire.ok_text r h) (Wire.number 91 0 r).1.toNat _ [] h1;have h3:=Wire.ok_close [93] _ h2
 unfold Wire.texts Wire.items
 split
 ·exact h3
 ·exact h3
/-- what the reference's Texts and Text give -/
def RTextsP (b:Nat) (l:List (List UInt8)) (rd:Wire.Rd) (w:World) (e:Ending) (w':World):Prop:=∃ a c,e=.returned (.slice a l.length c)∧w'.ownsRow w.heap.size 9 1 (.slice a l.length c) l.length (strs l)∧RrAt w' b rd∧Kept [b] w w'
theorem rr_textsP {l:List (List UInt8)} {r':Wire.Rd} (b:Nat) (r:Wire.Rd) (hq:Wire.texts r=(l,r')) (w:World) (h:RrAt w b r) (ho:Wire.Ok r) (hs:Fits r) :
  Calls Tryz.prog 121 #[.pointer (some ⟨b,0,none⟩)] w (RTextsP b l r' w) :=
 (rr_texts b r w h ho hs).mono fun e w' ⟨v,h1,h2,h3,h4⟩=>by
  rw [hq] at h2 h3;obtain ⟨a,c,rfl⟩:=own_len h2 (by decide);exact ⟨a,c,h1,h2,h3,h4⟩
def RTextP (b:Nat) (l:List UInt8) (rd:Wire.Rd) (w:World) (e:Ending) (w':World):Prop:=e=.returned (.string ⟨l.toArray⟩)∧RrAt w' b rd∧Kept [b] w w'
theorem rr_textP {l:List UInt8} {r':Wire.Rd} (b:Nat) (r:Wire.Rd) (hq:Wire.text r=(l,r')) (w:World) (h:RrAt w b r) (ho:Wire.Ok r) (hs:Fits r) :
  Calls Tryz.prog 66 #[.pointer (some ⟨b,0,none⟩)] w (RTextP b l r' w):=by
 have:=rr_text b r w h ho hs;rw [hq] at this;exact this
end Go.Proofs.YtpcdfepndmconaaGreatDoor
