/- The reference's reader: BackInt. -/
import Derived.Test.YtpcdfepndmconaaGreatDoorEnv
import Derived.Test.YtpcdfepndmconaaGreatDoorRr1
/- JOINED: Rp Rr2 Rr3 -/
/- The plain reader, told as the reference tells it. -/
namespace Go.Proofs.YtpcdfepndmconaaGreatDoor.Wire
open Go.Lib
/-- a reader that has failed has nothing left -/
def Ok (r:Rd):Prop:=r.bad=true→r.rest=[]
theorem ok_failed:Ok failed:=fun _=>rfl
theorem ok_fresh (s:List UInt8):Ok ⟨s,false⟩:=fun h=>by cases h
theorem number_nil (e:UInt8) (least:Int) (b:Bool):number e least ⟨[],b⟩=(0,failed):=by
 unfold number;simp [indexByte]
theorem number_two (e:UInt8) (least:Int) (r:Rd):number e least r=(0,failed)∨(number e least r).2.bad=r.bad:=by
 unfold number
 split
 ·exact Or.inl rfl
 ·split
  ·split
   ·exact Or.inr rfl
   ·exact Or.inl rfl
  ·exact Or.inl rfl
theorem number_dead (e:UInt8) (least:Int) (r:Rd) (ho:Ok r) (h:¬ (r.bad=false∧∃ n t,I64 n∧least≤n∧r.rest=itoa n++e::t)):number e least r=(0,failed):=by
 rcases number_two e least r with h1|h1
 ·exact h1
 ·cases hb:r.bad
  ·rw [hb] at h1;obtain ⟨_,a2,a3,a4⟩:=number_inv e least r h1;exact absurd ⟨hb,_,_,a4,a3,a2⟩ h
  ·obtain ⟨s,b⟩:=r;have:=ho hb
   simp only at this
   subst this;exact number_nil e least b
theorem ok_number (e:UInt8) (least:Int) (r:Rd) (ho:Ok r):Ok (number e least r).2:=by
 rcases number_two e least r with h1|h1
 ·rw [h1];exact ok_failed
 ·intro hb;rw [h1] at hb;obtain ⟨s,b⟩:=r;have:=ho hb
  simp only at this
  subst this;rw [number_nil];rfl
/-- a number that is not negative, out of any number -/
theorem number_zero {n:Int} {r':Rd} (e:UInt8) (r:Rd) (h:number e (-9223372036854775808) r=(n,r')):number e 0 r=if n < 0 then (0,failed) else (n,r'):=by
 unfold number at h ⊢
 split at h
 ·next h1 =>
  rw [if_pos h1];injection h with h2 h3;subst h2 h3
  rfl
 ·next h1 =>
  rw [if_neg h1]
  cases ha:atoiAll ((r.rest.take 21).take (indexByte (r.rest.take 21) e).toNat) with
  | ok m =>
   rw [ha] at h
   simp only at h ⊢
   have hb:=atoiAll_bounds ha
   by_cases hc:itoa m=(r.rest.take 21).take (indexByte (r.rest.take 21) e).toNat
   ·rw [if_pos ⟨hc,hb.1⟩] at h;injection h with h2 h3;subst h2 h3
    by_cases hm:m < 0
    ·rw [if_neg (by omega),if_pos hm]
    ·rw [if_pos ⟨hc,by omega⟩,if_neg hm]
   ·rw [if_neg (fun h=>hc h.1)] at h;injection h with h2 h3;subst h2 h3;rw [if_neg (fun h=>hc h.1)]
    rfl
  | _ =>
   rw [ha] at h
   simp only at h ⊢
   injection h with h2 h3;subst h2 h3
   rfl
theorem close_one (e:UInt8) (r:Rd):close [e] r=if r.rest.head?=some e then ⟨r.rest.tail,r.bad⟩ else failed:=by
 unfold close hasPrefix
 rcases hr:r.rest with _|⟨c,t⟩
 ·simp
 ·by_cases hc:e=c
  ·subst hc;simp
  ·have hc':¬ c=e:=fun h=>hc h.symm
   simp [hc,hc']
theorem ok_close (e:List UInt8) (r:Rd) (ho:Ok r):Ok (close e r):=by
 unfold close
 split
 ·next h =>
  intro hb
  simp only at hb
  rw [ho hb] at h ⊢
  simp
 ·exact ok_failed
theorem text_dead {r r1:Rd} {n:Int} (h:number 58 0 r=(n,r1)) (h1:r1.bad=true→r1.rest=[]) (h2:r1.bad=true∨(r1.rest.length:Int)≤n):text r=([],failed):=by
 unfold text
 rw [h]
 simp only
 split
 ·rfl
 ·next hlt =>
  have hd:close [44] ⟨r1.rest.drop n.toNat,r1.bad⟩=failed:=by
   have:r1.rest.drop n.toNat=[]:=by
    rcases h2 with h2|h2
    ·rw [h1 h2];simp
    ·exact List.drop_eq_nil_of_le (by omega)
   rw [this]
   simp [close,hasPrefix]
  rw [hd]
  simp [failed]
theorem text_live {r r1 r2:Rd} {m:Nat} (h:number 58 0 r=((m:Int),r1)) (h1:m < r1.rest.length) (h2:close [44] ⟨r1.rest.drop m,r1.bad⟩=r2) :
  text r=if r2.bad then ([],r2) else (r1.rest.take m,r2):=by
 unfold text
 rw [h];simp only [Int.toNat_natCast];rw [if_neg (by omega),h2]
theorem ok_text (r:Rd) (ho:Ok r):Ok (text r).2:=by
 have h1:=ok_number 58 0 r ho
 have h2:Ok ⟨(number 58 0 r).2.rest.drop (number 58 0 r).1.toNat,(number 58 0 r).2.bad⟩:=fun hb=>by simp only at hb ⊢;rw [h1 hb];simp
 have h3:=ok_close [44] _ h2
 unfold text
 split
 ·exact ok_failed
 ·split
  ·exact h3
  ·exact h3
theorem ok_loop {α:Type} (one:Rd→α × Rd) (h1:∀ r,Ok r→Ok (one r).2):∀ (n:Nat) (r:Rd) (acc:List α),Ok r→Ok (loop one n r acc).2
 | 0,r,acc,h=>h
 | n+1,r,acc,h=>by
  unfold loop
  split
  ·exact h
  ·exact ok_loop one h1 n _ _ (h1 r h)
theorem ok_nums (r:Rd) (ho:Ok r):Ok (nums r).2:=by
 have h1:=ok_number 91 0 r ho;have h2:=ok_loop (number 59 (-9223372036854775808)) (fun r h=>ok_number _ _ r h) (number 91 0 r).1.toNat _ [] h1;have h3:=ok_close [93] _ h2
 unfold nums items
 split
 ·exact h3
 ·exact h3
/-! ### the digits, read from the left -/
def dval:List UInt8→Nat:=List.foldl (fun a c=>10*a+(c.toNat - 48)) 0
theorem dval_snoc (l:List UInt8) (c:UInt8):dval (l++[c])=10*dval l+(c.toNat - 48):=by unfold dval;rw [List.foldl_append];rfl
theorem dval_dec (u:Nat):dval (decDigits u)=u:=by
 induction u using Nat.strongRecOn with
 | _ u ih =>
  rw [decDigits]
  split
  ·next h =>
   show 10*0+((UInt8.ofNat (48+u)).toNat - 48)=u
   rw [toNat_digit u h];omega
  ·next h =>
   rw [dval_snoc,ih (u / 10) (by omega),toNat_digit _ (by omega)];omega
/-- how many bytes stand before the digits -/
def off (s:List UInt8):Nat:=if s.head?=some 45 then 1 else 0
theorem off_one {s:List UInt8} (h:s.head?=some 45):off s=1:=by unfold off;rw [if_pos h]
theorem off_zero {s:List UInt8} (h:¬ s.head?=some 45):off s=0:=by unfold off;rw [if_neg h]
def Dig (l:List UInt8):Prop:=∀ c∈l,48≤c.toNat∧c.toNat≤57
theorem itoa_parts (n:Int) (h:I64 n):Dig ((itoa n).drop (off (itoa n)))∧(itoa n).length≤20 ∧
  ((n < 0∧off (itoa n)=1∧(dval ((itoa n).drop (off (itoa n))):Int)=-n)∨(0≤n∧off (itoa n)=0∧(dval ((itoa n).drop (off (itoa n))):Int)=n)):=by
 refine ⟨?_,itoa_len n h,?_⟩
 all_goals unfold itoa
 all_goals by_cases hn:n < 0
 ·rw [if_pos hn,off_one (by simp)];exact decDigits_digit _
 ·rw [if_neg hn];have hd:=decDigits_digit n.toNat;intro c hc;exact hd c (List.mem_of_mem_drop hc)
 ·left
  rw [if_pos hn,off_one (by simp)];refine ⟨hn,rfl,?_⟩;rw [List.drop_succ_cons,List.drop_zero,dval_dec];omega
 ·right
  rw [if_neg hn]
  have ho:off (decDigits n.toNat)=0:=by
   refine off_zero fun h45=>?_;have:=decDigits_digit n.toNat 45 (List.mem_of_head? h45);simp at this
  rw [ho];refine ⟨by omega,rfl,?_⟩;rw [List.drop_zero,dval_dec];omega
/-- what BackInt answers -/
def BackR (s:List UInt8) (x:Int) (b:Bool):Prop:=I64 x∧(b=true→itoa x=s)∧(b=false→∀ n,I64 n→itoa n≠s)
theorem back_long {s:List UInt8} (h:20 < s.length):BackR s 0 false :=
 ⟨⟨by omega,by omega⟩,fun h=>(by cases h),fun _ n hn he=>by have:=itoa_len n hn;rw [he] at this;omega⟩
theorem back_odd {s:List UInt8} {c:UInt8} (h:c∈s.drop (off s)) (hc:¬ (48≤c.toNat∧c.toNat≤57)):BackR s 0 false :=
 ⟨⟨by omega,by omega⟩,fun h=>(by cases h),fun _ n hn he=>by
  obtain ⟨h1,_⟩:=itoa_parts n hn;rw [he] at h1
  exact hc (h1 c h)⟩
/-- the digits' value, as the loop has it -/
def Bk (l:List UInt8) (v:Int):Prop:=I64 v∧(dval l≤9223372036854775808→v=-(dval l:Int))
theorem bk_nil:Bk [] 0:=⟨⟨by omega,by omega⟩,fun _=>rfl⟩
theorem bk_snoc {l:List UInt8} {v u:Int} {c:UInt8} (h:Bk l v) (hc:48≤c.toNat∧c.toNat≤57) (hu:I64 u)
  (hq:v≤0→-9223372036854775808≤10*v - (c.toNat - 48:Int)→u=10*v - (c.toNat - 48:Int)):Bk (l++[c]) u:=by
 refine ⟨hu,fun hd=>?_⟩;rw [dval_snoc] at hd ⊢;have:=h.2 (by omega);rw [hq (by omega) (by omega)];omega
theorem back_end1 {s:List UInt8} {v:Int} {b:Bool} (h:Bk (s.drop (off s)) v) (ho:off s=1) (hb:b=(itoa v==s)):BackR s v b:=by
 refine ⟨h.1,fun h=>?_,fun hf n hn he=>?_⟩
 ·rw [hb] at h;simpa using h
 ·obtain ⟨_,_,h3⟩:=itoa_parts n hn;rw [he] at h3
  rcases h3 with ⟨a1,a2,a3⟩|⟨a1,a2,a3⟩
  ·have:=h.2 (by have:=hn.1;omega)
   have hv:v=n:=by omega
   rw [hb,hv] at hf
   simp [he] at hf
  ·omega
theorem back_end0 {s:List UInt8} {v x:Int} {b:Bool} (h:Bk (s.drop (off s)) v) (ho:off s=0) (hx:I64 x) (hxv:v≠-9223372036854775808→x=-v) (hb:b=(itoa x==s)):BackR s x b:=by
 refine ⟨hx,fun h=>?_,fun hf n hn he=>?_⟩
 ·rw [hb] at h;simpa using h
 ·obtain ⟨_,_,h3⟩:=itoa_parts n hn;rw [he] at h3
  rcases h3 with ⟨a1,a2,a3⟩|⟨a1,a2,a3⟩
  ·omega
  ·have hn2:=hn.2;have:=h.2 (by omega)
   have hv:x=n:=by rw [hxv (by omega)];omega
   rw [hb,hv] at hf
   simp [he] at hf
/-! ### the first place of a byte -/
theorem first_at {e:UInt8} {l a t:List UInt8} {k:Nat} (h:l=a++e::t) (ha:∀ c∈a,c≠e) (hk:∀ c∈l.take k,c≠e) (hl:l[k]?=some e):a.length=k:=by
 subst h
 rcases Nat.lt_trichotomy a.length k with h1|h1|h1
 ·exfalso
  refine hk e ?_ rfl;rw [List.mem_iff_getElem?];refine ⟨a.length,?_⟩;rw [List.getElem?_take_of_lt h1]
  simp
 ·exact h1
 ·exfalso
  rw [List.getElem?_append_left h1] at hl;exact ha e (List.mem_of_getElem? hl) rfl
theorem itoa_no {e:UInt8} (he:¬ NumByte e) (n:Int):∀ c∈itoa n,c≠e:=fun c hc h=>he (h▸itoa_bytes n c hc)
/-- no such byte among the first ones -/
theorem ahead_none {e:UInt8} {least:Int} {r:Rd} (ho:Ok r) {k:Nat} (hk:∀ c∈r.rest.take k,c≠e) (h:r.rest.length≤k∨21≤k):number e least r=(0,failed):=by
 refine number_dead e least r ho fun ⟨_,n,t,hn,_,hr⟩=>?_;refine hk e ?_ rfl;rw [List.mem_iff_getElem?];have:=itoa_len n hn
 have hlt:(itoa n).length < k:=by
  rcases h with h|h
  ·rw [hr] at h;simp at h;omega
  ·omega
 refine ⟨(itoa n).length,?_⟩;rw [List.getElem?_take_of_lt hlt,hr]
 simp
theorem ahead_no {e:UInt8} {least:Int} {r:Rd} (ho:Ok r) (he:¬ NumByte e) {k:Nat} {x:Int} (hk:∀ c∈r.rest.take k,c≠e) (hl:r.rest[k]?=some e) (hb:BackR (r.rest.take k) x false) :
  number e least r=(0,failed):=by
 refine number_dead e least r ho fun ⟨_,n,t,hn,_,hr⟩=>?_;have hlen:=first_at hr (itoa_no he n) hk hl;refine hb.2.2 rfl n hn ?_;rw [hr,←hlen,List.take_left]
theorem ahead_yes {e:UInt8} {r:Rd} (he:¬ NumByte e) {k:Nat} {x:Int} (hl:r.rest[k]?=some e) (hb:BackR (r.rest.take k) x true) :
  number e (-9223372036854775808) r=(x,⟨r.rest.drop (k+1),r.bad⟩):=by
 obtain ⟨s,b⟩:=r
 simp only at hl hb ⊢
 have h1:=hb.2.1 rfl;have hlt:k < s.length:=(List.getElem?_eq_some_iff.1 hl).1
 have hs:s=itoa x++e::s.drop (k+1):=by
  rw [h1]
  conv=>lhs;rw [←List.take_append_drop k s]
  rw [List.drop_eq_getElem_cons hlt,(List.getElem?_eq_some_iff.1 hl).2]
 have:=number_ok e (-9223372036854775808) x (s.drop (k+1)) b hb.1 hb.1.1 he;rw [←hs] at this;exact this
end Go.Proofs.YtpcdfepndmconaaGreatDoor.Wire
/- The reference's reader: close, BackInt. -/
namespace Go.Proofs.YtpcdfepndmconaaGreatDoor
open Go.RowKit
set_option maxHeartbeats 400000 in
theorem rr_close (b:Nat) (r:Wire.Rd) (e:UInt8) (w:World) (h:RrAt w b r) (hl:r.rest.length≤100000000) :
  Calls Tryz.prog 146 #[.pointer (some ⟨b,0,none⟩),.int .u8 (e.toNat:Int)] w fun en w' =>
   en=.returned (.bool (r.rest.head?==some e))∧RrAt w' b (Wire.close [e] r)∧Kept [b] w w':=by
 have c0:=h.c0;have f0:=h.2.frozen 0;have hcl:=Wire.close_one e r;obtain ⟨rc,hrc⟩:∃ rc,Wire.close [e] r=rc:=⟨_,rfl⟩;obtain ⟨hb,hhb⟩:∃ x,(r.rest.head?==some e)=x:=⟨_,rfl⟩;rw [hhb,hrc];rw [hrc] at hcl;clear hrc;obtain ⟨s,bad⟩:=r
 simp only at hcl hhb
 rcases s with _|⟨c,t⟩
 ·have HB:Hid (hb=false):=by show hb=false;rw [←hhb];rfl
  have HC:Hid (rc=Wire.failed):=by show rc=_;rw [hcl,if_neg (by simp)]
  clear hcl hhb
  go_enter Tryz.func146,Tryz.ntmps146
  go_wp2_with (go_at_call 147;refine (rr_fail b ⟨[],bad⟩ _ h).mono ?_;rintro e w1 ⟨rfl,hr,hk⟩);go_ret;exact ⟨by rw [HB.out];rfl,by rw [HC.out];exact hr,hk⟩
 ·have hx:(⟨(c::t).toArray⟩:ByteArray).extract 1 (t.length+1)=⟨t.toArray⟩:=post_eq (c::t) 1;have i0:∀ w,(Instr.index 9 (.string ⟨(c::t).toArray⟩) (.int .i64 0)).run Tryz.prog w=.ok (.int .u8 (c.toNat:Int)) w:=fun w=>index_str (c::t) 0 (by simp) w
  have b1:(1:Int)≤(t.length:Int)+1:=by omega
  by_cases hc:c=e
  ·subst hc
   have HB:Hid (hb=true):=by show hb=true;rw [←hhb];simp
   have HC:Hid (rc=⟨t,bad⟩):=by show rc=_;rw [hcl,if_pos (by simp)];rfl
   clear hcl hhb
   have q:((c.toNat:Int) != (c.toNat:Int))=false:=by simp
   go_enter Tryz.func146,Tryz.ntmps146
   go_wp2_with fail;go_ret;exact ⟨by rw [HB.out];rfl,by rw [HC.out];exact h.set1 t,((Kept.refl _ _).setCell (by simp) _)⟩
  ·have HB:Hid (hb=false):=by show hb=false;rw [←hhb];simpa using hc
   have HC:Hid (rc=Wire.failed):=by show rc=_;rw [hcl,if_neg (by simpa using hc)]
   have q:((c.toNat:Int) != (e.toNat:Int))=true:=by
    rw [bne_iff_ne];intro h;exact hc (UInt8.toNat_inj.1 (by omega))
   have q3:(c.toNat==e.toNat)=false:=by
    rw [beq_eq_false_iff_ne];intro h;exact hc (UInt8.toNat_inj.1 h)
   have q4:((c.toNat:Int)==(e.toNat:Int))=false:=by
    rw [beq_eq_false_iff_ne];intro h;exact hc (UInt8.toNat_inj.1 (by omega))
   clear hc hcl hhb
   go_enter Tryz.func146,Tryz.ntmps146
   go_wp2_with (go_at_call 147;refine (rr_fail b ⟨c::t,bad⟩ _ h).mono ?_;rintro e w1 ⟨rfl,hr,hk⟩);go_ret;exact ⟨by rw [HB.out];rfl,by rw [HC.out];exact hr,hk⟩
end Go.Proofs.YtpcdfepndmconaaGreatDoor
namespace Go.Proofs.YtpcdfepndmconaaGreatDoor
open Go.RowKit
def BackP (s:List UInt8) (w:World) (e:Ending) (w':World):Prop:=∃ (x:Int) (b:Bool),e=.returned (.tuple #[.int .i64 x,.bool b])∧Wire.BackR s x b∧Kept [] w w'
theorem i64_w64 (x:Int):Wire.I64 (wrap64 x):=by unfold wrap64;constructor <;> omega
theorem back_take {s:List UInt8} {o k:Nat} (h:k < s.length) (ho:o≤k):(s.drop o).take (k+1 - o)=(s.drop o).take (k - o)++[s.getD k 0]:=by
 have hl:k - o < (s.drop o).length:=by rw [List.length_drop];omega
 rw [show k+1 - o=k - o+1 by omega,List.take_succ_eq_append_getElem hl,List.getElem_drop]
 congr 1
 simp [List.getD,show o+(k - o)=k by omega,h]
set_option maxRecDepth 100000 in
set_option maxHeartbeats 1600000 in
theorem rback_any (s:List UInt8) (w:World) (hs:s.length≤100000000) :
  Calls Tryz.prog 192 #[.string ⟨s.toArray⟩] w (BackP s w):=by
 have IK:Hid (∀ k,k < s.length→∀ w,(Instr.index 9 (.string ⟨s.toArray⟩) (.int .i64 k)).run Tryz.prog w=.ok (.int .u8 ((s.getD k 0).toNat:Int)) w):=fun k hk w=>index_str s k hk w
 have HS:Hid ((Wire.off s=1∧0 < s.length∧(s.getD 0 0).toNat=45)∨(Wire.off s=0∧(s.length=0∨(0 < s.length∧(s.getD 0 0).toNat≠45)))):=by
  show _∨_
  by_cases h:s.head?=some 45
  ·left
   refine ⟨Wire.off_one h,?_⟩
   rcases s with _|⟨c,t⟩
   ·cases h
   ·simp at h;subst h;simp
  ·right
   refine ⟨Wire.off_zero h,?_⟩
   rcases s with _|⟨c,t⟩
   ·left;rfl
   ·right
    refine ⟨by simp,fun h1=>h ?_⟩;simp at h1 ⊢;exact UInt8.toNat_inj.1 h1
 obtain ⟨n,hn⟩:∃ n,s.length=n:=⟨_,rfl⟩;have hsz:(⟨s.toArray⟩:ByteArray).size=n:=hn;have HN:=Lib.hid hn;rw [hn] at hs IK HS;have hcat:=bcat;obtain ⟨o,ho⟩:∃ o,Wire.off s=o:=⟨_,rfl⟩;have HO:=Lib.hid ho;rw [ho] at HS;clear hn ho;obtain ⟨c0,hc0⟩:∃ c,(s.getD 0 0).toNat=c:=⟨_,rfl⟩
 have I0:0 < n→∀ w,(Instr.index 9 (.string ⟨s.toArray⟩) (.int .i64 0)).run Tryz.prog w=.ok (.int .u8 (c0:Int)) w:=fun h w=>by
  have:=IK.out 0 h w;rw [hc0] at this;exact this
 have H0:=Lib.hid I0;rw [hc0] at HS;clear hc0 I0
 have hcase:(o=1∧0 < n∧((c0:Int)==45)=true)∨(o=0∧n≤0∧True)∨(o=0∧0 < n∧((c0:Int)==45)=false):=by
  rcases HS.out with ⟨h1,h2,h3⟩|⟨h1,h2|⟨h2,h3⟩⟩
  ·exact Or.inl ⟨h1,h2,by simp;omega⟩
  ·exact Or.inr (Or.inl ⟨h1,by omega,trivial⟩)
  ·exact Or.inr (Or.inr ⟨h1,h2,by simp;omega⟩)
 clear HS;have IB:Hid (Wire.I64 0):=⟨by omega,by omega⟩
 rcases hcase with ⟨ho,h0,hc⟩|⟨ho,h0,hc⟩|⟨ho,h0,hc⟩
 ·have HOO:=Lib.hid ho
  have hon:o≤n:=by omega
  have i0:=H0.out h0;clear ho
  go_enter Tryz.func192,Tryz.ntmps192
  go_wp2_with fail;clear hc h0 i0
  go_loop [5,6] (fun vn vi=>∃ (k:Nat) (v:Int),k≤n∧o≤k∧vi=.int .i64 k∧vn=.int .i64 v∧Wire.Bk ((s.drop o).take (k - o)) v) (fun _ vi=>n - (intOf vi).toNat)
  case atStart=>exact ⟨o,0,hon,Nat.le_refl _,by rw [HOO.out];rfl,rfl,by rw [Nat.sub_self,List.take_zero];exact Wire.bk_nil⟩
  case round =>
   obtain ⟨k,v,hk,hok,rfl,rfl,hbk⟩:=hrel;have HBK:=Lib.hid hbk;clear hbk
   by_cases hlt:k < n
   ·have xk:=IK.out k hlt
    have HM:Hid (s.getD k 0∈s.drop (Wire.off s)):=by
     show _∈_
     rw [HO.out,List.mem_iff_getElem?];refine ⟨k - o,?_⟩;rw [List.getElem?_drop,show o+(k - o)=k by omega]
     simp [List.getD,show k < s.length by rw [HN.out];exact hlt]
    have HT:=Lib.hid (back_take (s:=s) (o:=o) (k:=k) (by rw [HN.out];exact hlt) hok);have hc8:=(s.getD k 0).toNat_lt;obtain ⟨c,hcc⟩:∃ c,s.getD k 0=c:=⟨_,rfl⟩;rw [hcc] at xk HM HT hc8;clear hcc;obtain ⟨cb,hcb⟩:∃ x,c.toNat=x:=⟨_,rfl⟩;rw [hcb] at xk hc8;have HCB:=Lib.hid hcb;clear hcb
    by_cases c1:cb < 48
    ·have HR:Hid (Wire.BackR s 0 false):=Wire.back_odd HM.out (by rw [HCB.out];omega);go_wp2_with fail
     go_ret2
     exact ⟨_,_,rfl,HR.out,Kept.refl _ _⟩
    by_cases c2:57 < cb
    ·have HR:Hid (Wire.BackR s 0 false):=Wire.back_odd HM.out (by rw [HCB.out];omega);go_wp2_with fail
     go_ret2
     exact ⟨_,_,rfl,HR.out,Kept.refl _ _⟩
    by_cases c3:20 < k
    ·have HR:Hid (Wire.BackR s 0 false):=Wire.back_long (by rw [HN.out];omega);go_wp2_with fail
     go_ret2
     exact ⟨_,_,rfl,HR.out,Kept.refl _ _⟩
    ·have g1:48≤cb:=by omega
     have g2:cb≤57:=by omega
     have g3:k≤20:=by omega
     clear c1 c2 c3
     have HNX:Hid (Wire.Bk ((s.drop o).take (k+1 - o)) (wrap64 (wrap64 (10*v) - ((cb:Int) - 48)))):=by
      show Wire.Bk _ _
      rw [HT.out];refine Wire.bk_snoc HBK.out (by rw [HCB.out];omega) (i64_w64 _) (fun hv hle=>?_);rw [HCB.out] at hle ⊢
      unfold wrap64
      omega
     go_wp2_with fail
     go_round
     case rel=>exact ⟨k+1,_,by omega,by omega,by go_num,rfl,HNX.out⟩
     case measure=>simp [intOf];omega
   ·obtain rfl:k=n:=by omega
    have hbk:=HBK.out;rw [show (s.drop o).take (k - o)=s.drop o from List.take_of_length_le (by rw [List.length_drop,HN.out];omega)] at hbk;rw [←HO.out] at hbk;obtain ⟨t,ht⟩:∃ t,(Lib.itoa v==s)=t:=⟨_,rfl⟩;have HR:Hid (Wire.BackR s v t):=Wire.back_end1 hbk (by rw [HO.out];exact HOO.out) ht.symm
    have q:(Wire.intE v==s++[59])=t:=by rw [←ht,Bool.eq_iff_iff];simp [Wire.intE]
    have hi:Wire.I64 v:=hbk.1;have HI:=Lib.hid (fun w=>rint_any v w hi)
    have s1:¬ 9223372036854775807 < k+1:=by omega
    have HBB:=Lib.hid hbk;clear hbk ht hi;go_wp2_with (go_at_call 76;refine (HI.out _).mono ?_;rintro e w1 ⟨rfl,k1⟩)
    go_ret2
    exact ⟨_,_,rfl,HR.out,k1⟩
 ·have HOO:=Lib.hid ho
  have hon:o≤n:=by omega
  have d0:decide ((0:Int) < (n:Int))=false:=by simp;omega
  clear ho
  go_enter Tryz.func192,Tryz.ntmps192
  go_wp2_with fail;clear hc d0
  go_loop [5,6] (fun vn vi=>∃ (k:Nat) (v:Int),k≤n∧o≤k∧vi=.int .i64 k∧vn=.int .i64 v∧Wire.Bk ((s.drop o).take (k - o)) v) (fun _ vi=>n - (intOf vi).toNat)
  case atStart=>exact ⟨o,0,hon,Nat.le_refl _,by rw [HOO.out];rfl,rfl,by rw [Nat.sub_self,List.take_zero];exact Wire.bk_nil⟩
  case round =>
   obtain ⟨k,v,hk,hok,rfl,rfl,hbk⟩:=hrel;have HBK:=Lib.hid hbk;clear hbk
   obtain rfl:k=n:=by omega
   have hbk:=HBK.out;rw [show (s.drop o).take (k - o)=s.drop o from List.take_of_length_le (by rw [List.length_drop,HN.out];omega)] at hbk;rw [←HO.out] at hbk;obtain ⟨u,hu⟩:∃ u,wrap64 (-v)=u:=⟨_,rfl⟩;obtain ⟨t,ht⟩:∃ t,(Lib.itoa u==s)=t:=⟨_,rfl⟩
   have hi:Wire.I64 u:=by rw [←hu];exact i64_w64 _
   have HR:Hid (Wire.BackR s u t):=Wire.back_end0 hbk (by rw [HO.out];exact HOO.out) hi (fun hv=>by rw [←hu];unfold wrap64;have:=hbk.1.1;have:=hbk.1.2;omega) ht.symm
   have q:(Wire.intE u==s++[59])=t:=by rw [←ht,Bool.eq_iff_iff];simp [Wire.intE]
   have HI:=Lib.hid (fun w=>rint_any u w hi)
   have s1:¬ 9223372036854775807 < k+1:=by omega
   have HBB:=Lib.hid hbk;clear hbk ht hi;go_wp2_with (go_at_call 76;refine (HI.out _).mono ?_;rintro e w1 ⟨rfl,k1⟩)
   go_ret2
   exact ⟨_,_,rfl,HR.out,k1⟩
 ·have HOO:=Lib.hid ho
  have hon:o≤n:=by omega
  have i0:=H0.out h0;clear ho
  go_enter Tryz.func192,Tryz.ntmps192
  go_wp2_with fail;clear hc h0 i0
  go_loop [5,6] (fun vn vi=>∃ (k:Nat) (v:Int),k≤n∧o≤k∧vi=.int .i64 k∧vn=.int .i64 v∧Wire.Bk ((s.drop o).take (k - o)) v) (fun _ vi=>n - (intOf vi).toNat)
  case atStart=>exact ⟨o,0,hon,Nat.le_refl _,by rw [HOO.out];rfl,rfl,by rw [Nat.sub_self,List.take_zero];exact Wire.bk_nil⟩
  case round =>
   obtain ⟨k,v,hk,hok,rfl,rfl,hbk⟩:=hrel;have HBK:=Lib.hid hbk;clear hbk
   by_cases hlt:k < n
   ·have xk:=IK.out k hlt
    have HM:Hid (s.getD k 0∈s.drop (Wire.off s)):=by
     show _∈_
     rw [HO.out,List.mem_iff_getElem?];refine ⟨k - o,?_⟩;rw [List.getElem?_drop,show o+(k - o)=k by omega]
     simp [List.getD,show k < s.length by rw [HN.out];exact hlt]
    have HT:=Lib.hid (back_take (s:=s) (o:=o) (k:=k) (by rw [HN.out];exact hlt) hok);have hc8:=(s.getD k 0).toNat_lt;obtain ⟨c,hcc⟩:∃ c,s.getD k 0=c:=⟨_,rfl⟩;rw [hcc] at xk HM HT hc8;clear hcc;obtain ⟨cb,hcb⟩:∃ x,c.toNat=x:=⟨_,rfl⟩;rw [hcb] at xk hc8;have HCB:=Lib.hid hcb;clear hcb
    by_cases c1:cb < 48
    ·have HR:Hid (Wire.BackR s 0 false):=Wire.back_odd HM.out (by rw [HCB.out];omega);go_wp2_with fail
     go_ret2
     exact ⟨_,_,rfl,HR.out,Kept.refl _ _⟩
    by_cases c2:57 < cb
    ·have HR:Hid (Wire.BackR s 0 false):=Wire.back_odd HM.out (by rw [HCB.out];omega);go_wp2_with fail
     go_ret2
     exact ⟨_,_,rfl,HR.out,Kept.refl _ _⟩
    by_cases c3:20 < k
    ·have HR:Hid (Wire.BackR s 0 false):=Wire.back_long (by rw [HN.out];omega);go_wp2_with fail
     go_ret2
     exact ⟨_,_,rfl,HR.out,Kept.refl _ _⟩
    ·have g1:48≤cb:=by omega
     have g2:cb≤57:=by omega
     have g3:k≤20:=by omega
     clear c1 c2 c3
     have HNX:Hid (Wire.Bk ((s.drop o).take (k+1 - o)) (wrap64 (wrap64 (10*v) - ((cb:Int) - 48)))):=by
      show Wire.Bk _ _
      rw [HT.out];refine Wire.bk_snoc HBK.out (by rw [HCB.out];omega) (i64_w64 _) (fun hv hle=>?_);rw [HCB.out] at hle ⊢
      unfold wrap64
      omega
     go_wp2_with fail
     go_round
     case rel=>exact ⟨k+1,_,by omega,by omega,by go_num,rfl,HNX.out⟩
     case measure=>simp [intOf];omega
   ·obtain rfl:k=n:=by omega
    have hbk:=HBK.out;rw [show (s.drop o).take (k - o)=s.drop o from List.take_of_length_le (by rw [List.length_drop,HN.out];omega)] at hbk;rw [←HO.out] at hbk;obtain ⟨u,hu⟩:∃ u,wrap64 (-v)=u:=⟨_,rfl⟩;obtain ⟨t,ht⟩:∃ t,(Lib.itoa u==s)=t:=⟨_,rfl⟩
    have hi:Wire.I64 u:=by rw [←hu];exact i64_w64 _
    have HR:Hid (Wire.BackR s u t):=Wire.back_end0 hbk (by rw [HO.out];exact HOO.out) hi (fun hv=>by rw [←hu];unfold wrap64;have:=hbk.1.1;have:=hbk.1.2;omega) ht.symm
    have q:(Wire.intE u==s++[59])=t:=by rw [←ht,Bool.eq_iff_iff];simp [Wire.intE]
    have HI:=Lib.hid (fun w=>rint_any u w hi)
    have s1:¬ 9223372036854775807 < k+1:=by omega
    have HBB:=Lib.hid hbk;clear hbk ht hi;go_wp2_with (go_at_call 76;refine (HI.out _).mono ?_;rintro e w1 ⟨rfl,k1⟩)
    go_ret2
    exact ⟨_,_,rfl,HR.out,k1⟩
end Go.Proofs.YtpcdfepndmconaaGreatDoor
