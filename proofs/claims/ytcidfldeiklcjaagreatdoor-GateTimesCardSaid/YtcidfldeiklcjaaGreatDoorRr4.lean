import Derived.Test.YtcidfldeiklcjaaGreatDoorEtk
import Derived.Test.YtcidfldeiklcjaaGreatDoorDeL
set_option maxRecDepth 100000
set_option maxHeartbeats 32000000
namespace Go.Proofs.YtcidfldeiklcjaaGreatDoor.Wire
open Go.Lib
def Ok(r:Rd):Prop:=r.bad=true->r.rest=[]
theorem jp:Ok be:=fun _=>rfl
theorem ok_fresh(s:List UInt8):Ok ⟨s,false⟩:=fun h=>by cases h
theorem lK(e:UInt8)(least:Int)(b:Bool):ar e least ⟨[],b⟩=(0,be):=by
 unfold ar;simp[indexByte]
theorem number_two(e:UInt8)(least:Int)(r:Rd):ar e least r=(0,be)\/(ar e least r).2.bad=r.bad:=by
 unfold ar
 split
 ·exact Or.inl rfl
 ·split
  ·split
   ·exact Or.inr rfl
   ·exact Or.inl rfl
  ·exact Or.inl rfl
theorem jJ(e:UInt8)(least:Int)(r:Rd)(ho:Ok r)(h:¬(r.bad=false/\∃n t,I64 n/\least<=n/\r.rest=itoa n++e::t)):ar e least r=(0,be):=by
 rcases number_two e least r with h1|h1
 ·exact h1
 ·cases hb:r.bad
  ·rw[hb]at h1;obtain⟨_,a2,a3,a4⟩:=eX e least r h1;exact absurd ⟨hb,_,_,a4,a3,a2⟩ h
  ·obtain⟨s,b⟩:=r;have:=ho hb
   simp only at this
   subst this;exact lK e least b
theorem fR(e:UInt8)(least:Int)(r:Rd)(ho:Ok r):Ok (ar e least r).2:=by
 rcases number_two e least r with h1|h1
 ·rw[h1];exact jp
 ·intro hb;rw[h1]at hb;obtain⟨s,b⟩:=r;have:=ho hb
  simp only at this
  subst this;rw[lK];rfl
theorem yY{n:Int}{r':Rd}(e:UInt8)(r:Rd)(h:ar e (-9223372036854775808) r=(n,r')):ar e 0 r=if n < 0 then(0,be)else(n,r'):=by
 unfold ar at h ⊢
 split at h
 ·next h1 =>
  rw[if_pos h1];injection h with h2 h3;subst h2 h3
  rfl
 ·next h1 =>
  rw[if_neg h1]
  cases ha:atoiAll ((r.rest.take 21).take (indexByte (r.rest.take 21) e).toNat)with
  |ok m =>
   rw[ha]at h
   simp only at h ⊢
   have a:=atoiAll_bounds ha
   by_cases hc:itoa m=(r.rest.take 21).take (indexByte (r.rest.take 21) e).toNat
   ·rw[if_pos ⟨hc,a.1⟩]at h;injection h with h2 h3;subst h2 h3
    by_cases hm:m < 0
    ·rw[if_neg (by omega),if_pos hm]
    ·rw[if_pos ⟨hc,by omega⟩,if_neg hm]
   ·rw[if_neg (fun h=>hc h.1)]at h;injection h with h2 h3;subst h2 h3;rw[if_neg (fun h=>hc h.1)]
    rfl
  |_ =>
   rw[ha]at h
   simp only at h ⊢
   injection h with h2 h3;subst h2 h3
   rfl
theorem aab(e:UInt8)(r:Rd):close [e] r=if r.rest.head?=some e then⟨r.rest.tail,r.bad⟩else be:=by
 unfold close hasPrefix
 rcases hr:r.rest with _|⟨c,t⟩
 ·simp
 ·by_cases hc:e=c
  ·subst hc;simp
  ·have hc':¬c=e:=fun h=>hc h.symm
   simp[hc,hc']
theorem lJ(e:List UInt8)(r:Rd)(ho:Ok r):Ok (close e r):=by
 unfold close
 split
 ·next h =>
  intro hb
  simp only at hb
  rw[ho hb]at h ⊢
  simp
 ·exact jp
theorem aaa{r r1:Rd}{n:Int}(h:ar 58 0 r=(n,r1))(h1:r1.bad=true->r1.rest=[])(h2:r1.bad=true\/(r1.rest.length:Int)<=n):text r=([],be):=by
 unfold text
 rw[h]
 simp only
 split
 ·rfl
 ·next hlt =>
  have hd:close [44] ⟨r1.rest.drop n.toNat,r1.bad⟩=be:=by
   have:r1.rest.drop n.toNat=[]:=by
    rcases h2 with h2|h2
    ·rw[h1 h2];simp
    ·exact List.drop_eq_nil_of_le (by omega)
   rw[this]
   simp[close,hasPrefix]
  rw[hd]
  simp[be]
theorem zZ{r r1 r2:Rd}{m:Nat}(h:ar 58 0 r=((m:Int),r1))(h1:m < r1.rest.length)(h2:close [44] ⟨r1.rest.drop m,r1.bad⟩=r2) :
  text r=if r2.bad then([],r2)else(r1.rest.take m,r2):=by
 unfold text
 rw[h];simp only[Int.toNat_natCast];rw[if_neg (by omega),h2]
theorem yr(r:Rd)(ho:Ok r):Ok (text r).2:=by
 have h1:=fR 58 0 r ho
 have h2:Ok ⟨(ar 58 0 r).2.rest.drop (ar 58 0 r).1.toNat,(ar 58 0 r).2.bad⟩:=fun hb=>by simp only at hb ⊢;rw[h1 hb];simp
 have h3:=lJ [44] _ h2
 unfold text
 split
 ·exact jp
 ·split
  ·exact h3
  ·exact h3
theorem oA{α:Type}(one:Rd->α × Rd)(h1:∀r,Ok r->Ok (one r).2):∀(n:Nat) (r:Rd) (acc:List α),Ok r->Ok (loop one n r acc).2
 |0,r,acc,h=>h
 |n+1,r,acc,h=>by
  unfold loop
  split
  ·exact h
  ·exact oA one h1 n _ _ (h1 r h)
theorem ok_nums(r:Rd)(ho:Ok r):Ok (nums r).2:=by
 have h1:=fR 91 0 r ho;have h2:=oA (ar 59 (-9223372036854775808)) (fun r h=>fR _ _ r h) (ar 91 0 r).1.toNat _ [] h1;have h3:=lJ [93] _ h2
 unfold nums items
 split
 ·exact h3
 ·exact h3
def dval:List UInt8->Nat:=List.foldl (fun a c=>10*a+(c.toNat - 48)) 0
theorem nF(l:List UInt8)(c:UInt8):dval (l++[c])=10*dval l+(c.toNat - 48):=by unfold dval;rw[List.foldl_append];rfl
theorem qz(u:Nat):dval (decDigits u)=u:=by
 induction u using Nat.strongRecOn with
 |_ u ih =>
  rw[decDigits]
  split
  ·next h =>
   show 10*0+((UInt8.ofNat (48+u)).toNat - 48)=u
   rw[cJ u h];omega
  ·next h =>
   rw[nF,ih (u / 10) (by omega),cJ _ (by omega)];omega
def off(s:List UInt8):Nat:=if s.head?=some 45 then 1 else 0
theorem sv{s:List UInt8}(h:s.head?=some 45):off s=1:=by unfold off;rw[if_pos h]
theorem vV{s:List UInt8}(h:¬s.head?=some 45):off s=0:=by unfold off;rw[if_neg h]
def Dig(l:List UInt8):Prop:=∀c∈l,48<=c.toNat/\c.toNat<=57
theorem gE(n:Int)(h:I64 n):Dig ((itoa n).drop (off (itoa n)))/\(itoa n).length<=20 /\
  ((n < 0/\off (itoa n)=1/\(dval ((itoa n).drop (off (itoa n))):Int)=-n)\/(0<=n/\off (itoa n)=0/\(dval ((itoa n).drop (off (itoa n))):Int)=n)):=by
 refine⟨?_,iE n h,?_⟩
 all_goals unfold itoa
 all_goals by_cases hn:n < 0
 ·rw[if_pos hn,sv (by simp)];exact bE _
 ·rw[if_neg hn];have hd:=bE n.toNat;intro c b;exact hd c (List.mem_of_mem_drop b)
 ·left
  rw[if_pos hn,sv (by simp)];refine⟨hn,rfl,?_⟩;rw[List.drop_succ_cons,List.drop_zero,qz];omega
 ·right
  rw[if_neg hn]
  have a:off (decDigits n.toNat)=0:=by
   refine vV fun h45=>?_;have:=bE n.toNat 45 (List.mem_of_head? h45);simp at this
  rw[a];refine⟨by omega,rfl,?_⟩;rw[List.drop_zero,qz];omega
def nQ(s:List UInt8)(x:Int)(b:Bool):Prop:=I64 x/\(b=true->itoa x=s)/\(b=false->∀n,I64 n->itoa n≠s)
theorem aac{s:List UInt8}(h:20 < s.length):nQ s 0 false := ⟨⟨by omega,by omega⟩,fun h=>(by cases h),fun _ n hn he=>by have:=iE n hn;rw[he]at this;omega⟩
theorem back_odd{s:List UInt8}{c:UInt8}(h:c∈s.drop (off s))(hc:¬(48<=c.toNat/\c.toNat<=57)):nQ s 0 false := ⟨⟨by omega,by omega⟩,fun h=>(by cases h),fun _ n hn he=>by
  obtain⟨h1,_⟩:=gE n hn;rw[he]at h1
  exact hc (h1 c h)⟩
def Bk(l:List UInt8)(v:Int):Prop:=I64 v/\(dval l<=9223372036854775808->v=-(dval l:Int))
theorem bk_nil:Bk [] 0:=⟨⟨by omega,by omega⟩,fun _=>rfl⟩
theorem bk_snoc{l:List UInt8}{v u:Int}{c:UInt8}(h:Bk l v)(hc:48<=c.toNat/\c.toNat<=57)(hu:I64 u)
  (hq:v<=0->-9223372036854775808<=10*v - (c.toNat - 48:Int)->u=10*v - (c.toNat - 48:Int)):Bk (l++[c]) u:=by
 refine⟨hu,fun hd=>?_⟩;rw[nF]at hd ⊢;have:=h.2 (by omega);rw[hq (by omega) (by omega)];omega
theorem aad{s:List UInt8}{v:Int}{b:Bool}(h:Bk (s.drop (off s)) v)(ho:off s=1)(hb:b=(itoa v==s)):nQ s v b:=by
 refine⟨h.1,fun h=>?_,fun hf n hn he=>?_⟩
 ·rw[hb]at h;simpa using h
 ·obtain⟨_,_,h3⟩:=gE n hn;rw[he]at h3
  rcases h3 with⟨a1,a2,a3⟩|⟨a1,a2,a3⟩
  ·have:=h.2 (by have:=hn.1;omega)
   have hv:v=n:=by omega
   rw[hb,hv]at hf
   simp[he]at hf
  ·omega
theorem aae{s:List UInt8}{v x:Int}{b:Bool}(h:Bk (s.drop (off s)) v)(ho:off s=0)(hx:I64 x)(hxv:v≠-9223372036854775808->x=-v)(hb:b=(itoa x==s)):nQ s x b:=by
 refine⟨hx,fun h=>?_,fun hf n hn he=>?_⟩
 ·rw[hb]at h;simpa using h
 ·obtain⟨_,_,h3⟩:=gE n hn;rw[he]at h3
  rcases h3 with⟨a1,a2,a3⟩|⟨a1,a2,a3⟩
  ·omega
  ·have hn2:=hn.2;have:=h.2 (by omega)
   have hv:x=n:=by rw[hxv (by omega)];omega
   rw[hb,hv]at hf
   simp[he]at hf
theorem wW{e:UInt8}{l a t:List UInt8}{k:Nat}(h:l=a++e::t)(ha:∀c∈a,c≠e)(hk:∀c∈l.take k,c≠e)(hl:l[k]?=some e):a.length=k:=by
 subst h
 rcases Nat.lt_trichotomy a.length k with h1|h1|h1
 ·exfalso
  refine hk e ?_ rfl;rw[List.mem_iff_getElem?];refine⟨a.length,?_⟩;rw[List.getElem?_take_of_lt h1]
  simp
 ·exact h1
 ·exfalso
  rw[List.getElem?_append_left h1]at hl;exact ha e (List.mem_of_getElem? hl) rfl
theorem yA{e:UInt8}(he:¬cR e)(n:Int):∀c∈itoa n,c≠e:=fun c hc h=>he (h▸lQ n c hc)
theorem zQ{e:UInt8}{least:Int}{r:Rd}(ho:Ok r){k:Nat}(hk:∀c∈r.rest.take k,c≠e)(h:r.rest.length<=k\/21<=k):ar e least r=(0,be):=by
 refine jJ e least r ho fun⟨_,n,t,hn,_,hr⟩=>?_;refine hk e ?_ rfl;rw[List.mem_iff_getElem?];have:=iE n hn
 have hlt:(itoa n).length < k:=by
  rcases h with h|h
  ·rw[hr]at h;simp at h;omega
  ·omega
 refine⟨(itoa n).length,?_⟩;rw[List.getElem?_take_of_lt hlt,hr]
 simp
theorem ahead_no{e:UInt8}{least:Int}{r:Rd}(ho:Ok r)(he:¬cR e){k:Nat}{x:Int}(hk:∀c∈r.rest.take k,c≠e)(hl:r.rest[k]?=some e)(hb:nQ (r.rest.take k) x false) :
  ar e least r=(0,be):=by
 refine jJ e least r ho fun⟨_,n,t,hn,_,hr⟩=>?_;have hlen:=wW hr (yA he n) hk hl;refine hb.2.2 rfl n hn ?_;rw[hr,<-hlen,List.take_left]
theorem aaf{e:UInt8}{r:Rd}(he:¬cR e){k:Nat}{x:Int}(hl:r.rest[k]?=some e)(hb:nQ (r.rest.take k) x true) :
  ar e (-9223372036854775808) r=(x,⟨r.rest.drop (k+1),r.bad⟩):=by
 obtain⟨s,b⟩:=r
 simp only at hl hb ⊢
 have h1:=hb.2.1 rfl;have hlt:k < s.length:=(List.getElem?_eq_some_iff.1 hl).1
 have hs:s=itoa x++e::s.drop (k+1):=by
  rw[h1]
  conv=>lhs;rw[<-List.take_append_drop k s]
  rw[List.drop_eq_getElem_cons hlt,(List.getElem?_eq_some_iff.1 hl).2]
 have:=fT e (-9223372036854775808) x (s.drop (k+1)) b hb.1 hb.1.1 he;rw[<-hs]at this;exact this
end Go.Proofs.YtcidfldeiklcjaaGreatDoor.Wire
namespace Go.Proofs.YtcidfldeiklcjaaGreatDoor.Dt
open Tape Wire
def fx:Nat->Rd->List Pss->List Pss × Rd
 |0,r,acc=>(acc,r)
 |n+1,r,acc=>if r.bad=true then(acc,r)else fx n (rdP r).2 (acc++[(rdP r).1])
theorem okTx(r:Rd)(ho:Ok r):Ok (texts r).2:=by
 have h1:=fR 91 0 r ho;have h2:=oA text (fun r h=>yr r h) (ar 91 0 r).1.toNat _ [] h1;have h3:=lJ [93] _ h2
 unfold texts items
 split
 ·exact h3
 ·exact h3
theorem sr(r:Rd)(h:r.rest=[]):(rdP r).2.bad=true:=by
 cases hb:(rdP r).2.bad
 ·have h1:=(ss r hb).2.1;rw[h]at h1;have h2:=congrArg List.length h1;simp only[pssE,Wire.kO,List.length_append,List.length_cons,List.length_nil]at h2;omega
 ·rfl
theorem lN{n:Nat}{r:Rd}{acc:List Pss}(h:r.bad=true):fx n r acc=(acc,r):=by
 cases n
 ·rfl
 ·unfold fx;rw[if_pos h]
theorem qd{n:Nat}{r:Rd}{acc:List Pss}(h:r.bad=false):fx (n+1) r acc=fx n (rdP r).2 (acc++[(rdP r).1]):=by
 rw[fx,if_neg (by rw[h];decide)]
theorem qe:∀(n:Nat) (r:Rd) (acc:List Pss),(fx n r acc).2.bad=false->cL n r acc=fx n r acc/\(fx n r acc).1.length=acc.length+n
 |0,r,acc,_=>⟨rfl,rfl⟩
 |n+1,r,acc,h=>by
  cases hb:r.bad
  ·rw[qd hb]at h ⊢;obtain⟨h1,h2⟩:=qe n _ _ h
   have hr:r.rest≠[]:=fun e=>by
    rw[lN (sr r e)]at h;have:=sr r e
    simp only at h
    rw[this]at h;cases h
   rw[cL,if_neg (by simpa using hr)];refine⟨h1,?_⟩;rw[h2,List.length_append,List.length_singleton];omega
  ·rw[lN hb]at h
   simp only at h
   rw[hb]at h;cases h
theorem lO:∀(n:Nat) (r:Rd) (acc:List Pss),(cL n r acc).2.bad=false->(cL n r acc).1.length=acc.length+n->fx n r acc=cL n r acc
 |0,r,acc,_,_=>rfl
 |n+1,r,acc,h,hl=>by
  have hb:=(eI (n+1) r acc h).1
  unfold cL at h hl ⊢
  by_cases he:r.rest.isEmpty
  ·rw[if_pos he]at hl
   simp only at hl
   omega
  ·rw[if_neg he]at h hl ⊢;rw[qd hb];exact lO n _ _ h (by rw[hl,List.length_append,List.length_singleton];omega)
structure PartsQ (s:List UInt8) (h:List Int) (q:List UInt8) (rv:List Int) (n:Int) (ps:List Pss) (a b c d e:Rd):Prop where
 h1:Wire.nums ⟨s,false⟩=(h,a)
 h2:Wire.text a=(q,b)
 h3:Wire.nums b=(rv,c)
 h4:Wire.ar 59 0 c=(n,d)
 h5:fx n.toNat d []=(ps,e)
theorem sk{s:List UInt8}{h:List Int}{q:List UInt8}{rv:List Int}{n:Int}{ps:List Pss}{a b c d e:Rd}(p:Parts s h q rv n ps a b c d e)(he:endB e=true) :
  s=Wire.yX h++(Wire.kO q++(Wire.yX rv++(Lib.itoa n++59::ps.flatMap pssE)))/\0<=n/\Wire.I64 n:=by
 unfold endB at he
 simp only[Bool.and_eq_true,Bool.not_eq_true',List.isEmpty_iff]at he;have o:=eI n.toNat d [];rw[p.h5]at o;obtain⟨x,l,f,g,_⟩:=o he.1;rw[List.nil_append]at f
 simp only at f g
 subst f;have r:=Wire.eX 59 0 c;rw[p.h4]at r;obtain⟨y,i,w,i3'⟩:=r x;have t:=Wire.nums_inv b;rw[p.h3]at t;obtain⟨z,j,_,_⟩:=t y;have u:=Wire.uU a;rw[p.h2]at u;obtain⟨A,k,_⟩:=u z;have v:=Wire.nums_inv ⟨s,false⟩;rw[p.h1]at v;obtain⟨_,m,_,_⟩:=v A
 simp only at m k j i
 refine⟨?_,w,i3'⟩;rw[m,k,j,i,g,he.2,List.append_nil]
theorem okQ{s:List UInt8}{h:List Int}{q:List UInt8}{rv:List Int}{n:Int}{ps:List Pss}{a b c d e:Rd}(p:PartsQ s h q rv n ps a b c d e) :
  okT s=(endB e&&decide (h.length=5))/\xr s=if endB e&&decide (h.length=5)then h.getD 2 0 else 0:=by
 suffices hk:okT s=(endB e&&decide (h.length=5))from⟨hk,by
  obtain⟨ps',e',j⟩:∃x y,cL n.toNat d []=(x,y):=⟨_,_,rfl⟩;obtain⟨w,t⟩:=rx ⟨p.h1,p.h2,p.h3,p.h4,j⟩
  rw[t,<-w,hk]⟩
 cases ht:endB e&&decide (h.length=5)
 ·-- the program's reader would not have ended well either
  cases ho:okT s
  ·rfl
  ·exfalso
   obtain⟨ps',e',j⟩:∃x y,cL n.toNat d []=(x,y):=⟨_,_,rfl⟩;have o:Parts s h q rv n ps' a b c d e':=⟨p.h1,p.h2,p.h3,p.h4,j⟩;have w:=(rx o).1;rw[ho]at w;have t:=w.symm
   unfold okP at t
   simp only[Bool.and_eq_true,decide_eq_true_eq]at t;obtain⟨⟨i,G⟩,F⟩:=t;obtain⟨m,B,k⟩:=sk o i
   have J:Lib.itoa n++59::ps'.flatMap pssE=Lib.itoa (ps'.length:Nat)++59::ps'.flatMap pssE:=by
    rw[<-F]at m
    unfold ph at m
    have A:=List.append_cancel_left m;have z:=List.append_cancel_left A;have N:=List.append_cancel_left z;rw[<-N]
    simp[Wire.intE]
   have I:=List.append_cancel_right J
   have L:ps'.length<=9223372036854775807:=by
    have A:=eI n.toNat d [];rw[j]at A
    unfold endB at i
    simp only[Bool.and_eq_true,Bool.not_eq_true']at i;obtain⟨_,l,E,O,_⟩:=A i.1;rw[List.nil_append]at E
    simp only at E
    have:∀(n:Nat) (r:Rd) (g:List Pss),(cL n r g).1.length<=g.length+n:=by
     intro n
     induction n with
     |zero=>intro r g;exact Nat.le_refl _
     |succ n ih =>
      intro r g
      unfold cL
      split
      ·simp only;omega
      ·refine Nat.le_trans (ih _ _) ?_;rw[List.length_append,List.length_singleton];omega
    have z:=this n.toNat d [];rw[j]at z;simp only[List.length_nil]at z;have:=k.2;omega
   have P:=Wire.itoa_inj k ⟨by omega,by omega⟩ I
   have f:e'.bad=false:=by
    unfold endB at i
    simp only[Bool.and_eq_true,Bool.not_eq_true']at i;exact i.1
   have u:=lO n.toNat d [] (by rw[j];exact f) (by rw[j];simp only[List.length_nil];omega);rw[j,p.h5]at u;have C:e=e':=(Prod.mk.inj u).2;rw[C,i,decide_eq_true G]at ht
   cases ht
 ·simp only[Bool.and_eq_true,decide_eq_true_eq]at ht;obtain⟨v,M⟩:=ht
  have f:e.bad=false:=by
   unfold endB at v
   simp only[Bool.and_eq_true,Bool.not_eq_true']at v;exact v.1
  obtain⟨u,D⟩:=qe n.toNat d [] (by rw[p.h5];exact f);rw[p.h5]at u D;have o:Parts s h q rv n ps a b c d e:=⟨p.h1,p.h2,p.h3,p.h4,u⟩;rw[(rx o).1]
  unfold okP
  rw[v,decide_eq_true M];obtain⟨m,B,k⟩:=sk o v;simp only[List.length_nil]at D
  have:ph h q rv ps=s:=by
   rw[m]
   unfold ph
   rw[show((ps.length:Nat):Int)=n by omega]
   simp[Wire.intE]
  rw[this];simp
end Go.Proofs.YtcidfldeiklcjaaGreatDoor.Dt
namespace Go.Proofs.YtcidfldeiklcjaaGreatDoor
open Go.RowKit
def RrAt(w:World)(b:Nat)(r:Wire.Rd):Prop:=NG<=b/\Blk w b 230 #[r.rest,.bool r.bad]
theorem RrAt.set2{w:World}{b:Nat}{r:Wire.Rd}(h:RrAt w b r)(s:List UInt8)(bd:Bool) :
  RrAt ((w.setCell ⟨b,0,none⟩ s).setCell ⟨b,1,none⟩ bd) b ⟨s,bd⟩ := ⟨h.1,by simpa using(h.2.set_ 0 s).set_ 1 bd⟩
theorem RrAt.set1{w:World}{b:Nat}{r:Wire.Rd}(h:RrAt w b r)(s:List UInt8) :
  RrAt (w.setCell ⟨b,0,none⟩ s) b ⟨s,r.bad⟩ := ⟨h.1,by simpa using h.2.set_ 0 s⟩
theorem RrAt.c0{w:World}{b:Nat}{r:Wire.Rd}(h:RrAt w b r):w.cell? ⟨b,0,none⟩=some (.string ⟨r.rest.toArray⟩):=by simpa using h.2.cell 0
theorem RrAt.c1{w:World}{b:Nat}{r:Wire.Rd}(h:RrAt w b r):w.cell? ⟨b,1,none⟩=some (.bool r.bad):=by simpa using h.2.cell 1
theorem dX(b:Nat)(r:Wire.Rd)(w:World)(h:RrAt w b r) :
  Calls Tryz.prog 220 #[.pointer (some ⟨b,0,none⟩)] w fun e w'=>e=.returned (.int .i64 0)/\RrAt w' b Wire.be/\Kept [b] w w':=by
 have c0:=h.c0;have c1:=h.c1;obtain⟨f0,f1⟩:=bf2 h.2
 go_enter Tryz.func220,Tryz.ntmps220
 go_wp2;go_ret;exact⟨rfl,h.set2 [] true,((kr.setCell (by simp) _).setCell (by simp) _)⟩
open Go.Proofs.Tryz
theorem lr(b:Nat)(r:Wire.Rd)(e:UInt8)(w:World)(h:RrAt w b r)(hl:r.rest.length<=100000000) :
  Calls prog 219 #[.pointer (some ⟨b,0,none⟩),.int .u8 (e.toNat:Int)] w fun en w' =>
   en=.returned (.bool (r.rest.head?==some e))/\RrAt w' b (Wire.close [e] r)/\Kept [b] w w':=by
 have z:=h.c0;have y:=h.2.frozen 0;have d:=Wire.aab e r;obtain⟨i,f⟩:=nm (Wire.close [e] r);obtain⟨j,a⟩:=nm ((r.rest.head?==some e));rw[a,f];rw[f]at d;clear f;obtain⟨s,g⟩:=r
 simp only at d a
 rcases s with _|⟨c,t⟩
 ·have l:Hid (j=false):=by show j=false;rw[<-a];rfl
  have k:Hid (i=Wire.be):=by show i=_;rw[d,if_neg (by simp)]
  clear d a
  go_enter func219,ntmps219
  go_wp2_with (go_at_call 220;refine(dX b ⟨[],g⟩ _ h).mono ?_;rintro e o ⟨rfl,m,n⟩);go_ret;exact⟨by rw[l.out];rfl,by rw[k.out];exact m,n⟩
 ·have x:(⟨(c::t).toArray⟩:ByteArray).extract 1 (t.length+1)=⟨t.toArray⟩:=gU (c::t) 1;have v:∀w,(Instr.index 9 (.string ⟨(c::t).toArray⟩) (.int .i64 0)).run prog w=.ok (.int .u8 (c.toNat:Int)) w:=fun w=>fX (c::t) 0 (by simp) w
  have A:(1:Int)<=(t.length:Int)+1:=by omega
  by_cases hc:c=e
  ·subst hc
   have l:Hid (j=true):=by show j=true;rw[<-a];simp
   have k:Hid (i=⟨t,g⟩):=by show i=_;rw[d,if_pos (by simp)];rfl
   clear d a
   have q:((c.toNat:Int) != (c.toNat:Int))=false:=by simp
   go_enter func219,ntmps219
   go_wp2_with fail;go_ret;exact⟨by rw[l.out];rfl,by rw[k.out];exact h.set1 t,(kr.setCell (by simp) _)⟩
  ·have l:Hid (j=false):=by show j=false;rw[<-a];simpa using hc
   have k:Hid (i=Wire.be):=by show i=_;rw[d,if_neg (by simpa using hc)]
   have q:((c.toNat:Int) != (e.toNat:Int))=true:=by
    rw[bne_iff_ne];intro h;exact hc (UInt8.toNat_inj.1 (by omega))
   have u:(c.toNat==e.toNat)=false:=by
    rw[beq_eq_false_iff_ne];intro h;exact hc (UInt8.toNat_inj.1 h)
   have p:((c.toNat:Int)==(e.toNat:Int))=false:=by
    rw[beq_eq_false_iff_ne];intro h;exact hc (UInt8.toNat_inj.1 (by omega))
   clear hc d a
   go_enter func219,ntmps219
   go_wp2_with (go_at_call 220;refine(dX b ⟨c::t,g⟩ _ h).mono ?_;rintro e o ⟨rfl,m,n⟩);go_ret;exact⟨by rw[l.out];rfl,by rw[k.out];exact m,n⟩
open Lib(hid)
def BackP(s:List UInt8)(w:World)(e:Ending)(w':World):Prop:=∃(x:Int) (b:Bool),e=.returned (.tuple #[x,.bool b])/\Wire.nQ s x b/\Kept [] w w'
theorem kt(x:Int):Wire.I64 (wrap64 x):=by unfold wrap64;constructor <;> omega
theorem nO{s:List UInt8}{o k:Nat}(h:k < s.length)(ho:o<=k):(s.drop o).take (k+1 - o)=(s.drop o).take (k - o)++[s.getD k 0]:=by
 have hl:k - o < (s.drop o).length:=by rw[List.length_drop];omega
 rw[show k+1 - o=k - o+1 by omega,List.take_succ_eq_append_getElem hl,List.getElem_drop]
 congr 1
 simp[List.getD,show o+(k - o)=k by omega,h]
theorem tJ(s:List UInt8)(w:World)(hs:s.length<=100000000) :
  Calls prog 238 #[s] w (BackP s w):=by
 have V:Hid (∀k,k < s.length->∀w,(Instr.index 9 s k).run prog w=.ok (.int .u8 ((s.getD k 0).toNat:Int)) w):=fun k T w=>fX s k T w
 have O:Hid ((Wire.off s=1/\0 < s.length/\(s.getD 0 0).toNat=45)\/(Wire.off s=0/\(s.length=0\/(0 < s.length/\(s.getD 0 0).toNat≠45)))):=by
  show _\/_
  by_cases h:s.head?=some 45
  ·left
   refine⟨Wire.sv h,?_⟩
   rcases s with _|⟨c,t⟩
   ·cases h
   ·simp at h;subst h;simp
  ·right
   refine⟨Wire.vV h,?_⟩
   rcases s with _|⟨c,t⟩
   ·left;rfl
   ·right
    refine⟨by simp,fun D=>h ?_⟩;simp at D ⊢;exact UInt8.toNat_inj.1 D
 obtain⟨n,R⟩:=nm s.length;have a1:(⟨s.toArray⟩:ByteArray).size=n:=R;have y:=hid R;rw[R]at hs V O;have a0:=bcat;obtain⟨o,i⟩:=nm (Wire.off s);have z:=hid i;rw[i]at O;clear R i;obtain⟨Y,C⟩:=nm ((s.getD 0 0).toNat)
 have I0:0 < n->∀w,(Instr.index 9 s (.int .i64 0)).run prog w=.ok (.int .u8 (Y:Int)) w:=fun h w=>by
  have:=V 0 h w;rw[C]at this;exact this
 have H0:=hid I0;rw[C]at O;clear C I0
 have B:(o=1/\0 < n/\((Y:Int)==45)=true)\/(o=0/\n<=0/\True)\/(o=0/\0 < n/\((Y:Int)==45)=false):=by
  rcases O with⟨D,U,h3⟩|⟨D,U|⟨U,h3⟩⟩
  ·exact Or.inl ⟨D,U,by simp;omega⟩
  ·exact Or.inr (Or.inl ⟨D,by omega,trivial⟩)
  ·exact Or.inr (Or.inr ⟨D,U,by simp;omega⟩)
 clear O;have IB:Hid (Wire.I64 0):=⟨by omega,by omega⟩
 rcases B with⟨i,G,M⟩|⟨i,G,M⟩|⟨i,G,M⟩
 ·have f:=hid i
  have l:o<=n:=by omega
  have X:=H0 G;clear i
  go_enter func238,ntmps238
  go_wp2_with fail;clear M G X
  go_loop [5,6] (fun vn vi=>∃(k:Nat) (v:Int),k<=n/\o<=k/\vi=k/\vn=v/\Wire.Bk ((s.drop o).take (k - o)) v) (fun _ vi=>n - (intOf vi).toNat)
  case atStart=>exact⟨o,0,l,Nat.le_refl _,by rw[f.out];rfl,rfl,by rw[Nat.sub_self,List.take_zero];exact Wire.bk_nil⟩
  case round =>
   obtain⟨k,v,T,x,rfl,rfl,a⟩:=hrel;have g:=hid a;clear a
   by_cases hlt:k < n
   ·have I:=V k hlt
    have F:Hid (s.getD k 0∈s.drop (Wire.off s)):=by
     show _∈_
     rw[z.out,List.mem_iff_getElem?];refine⟨k - o,?_⟩;rw[List.getElem?_drop,show o+(k - o)=k by omega]
     simp[List.getD,show k < s.length by rw[y.out];exact hlt]
    have N:=hid (nO (s:=s) (o:=o) (k:=k) (by rw[y.out];exact hlt) x);have p:=(s.getD k 0).toNat_lt
    generalize A:s.getD k 0=c at I F N p
    clear A
    generalize m:c.toNat=cb at I p
    have b:=hid m;clear m
    by_cases c1:cb < 48
    ·have d:Hid (Wire.nQ s 0 false):=Wire.back_odd F.out (by rw[b.out];omega);go_wp2_with fail
     go_ret2
     exact⟨_,_,rfl,d,kr⟩
    by_cases c2:57 < cb
    ·have d:Hid (Wire.nQ s 0 false):=Wire.back_odd F.out (by rw[b.out];omega);go_wp2_with fail
     go_ret2
     exact⟨_,_,rfl,d,kr⟩
    by_cases c3:20 < k
    ·have d:Hid (Wire.nQ s 0 false):=Wire.aac (by rw[y.out];omega);go_wp2_with fail
     go_ret2
     exact⟨_,_,rfl,d,kr⟩
    ·have g1:48<=cb:=by omega
     have g2:cb<=57:=by omega
     have g3:k<=20:=by omega
     clear c1 c2 c3
     have E:Hid (Wire.Bk ((s.drop o).take (k+1 - o)) (wrap64 (wrap64 (10*v) - ((cb:Int) - 48)))):=by
      show Wire.Bk _ _
      rw[N.out];refine Wire.bk_snoc g.out (by rw[b.out];omega) (kt _) (fun hv hle=>?_);rw[b.out]at hle ⊢
      unfold wrap64
      omega
     go_wp2_with fail
     go_round
     case rel=>exact⟨k+1,_,by omega,by omega,by go_num,rfl,E.out⟩
     case measure=>simp[intOf];omega
   ·obtain rfl:k=n:=by omega
    have a:=g.out;rw[show(s.drop o).take (k - o)=s.drop o from List.take_of_length_le (by rw[List.length_drop,y.out];omega)]at a;rw[<-z.out]at a;obtain⟨t,j⟩:=nm ((Lib.itoa v==s));have d:Hid (Wire.nQ s v t):=Wire.aad a (by rw[z.out];exact f.out) j.symm
    have q:(Wire.intE v==s++[59])=t:=by rw[<-j,Bool.eq_iff_iff];simp[Wire.intE]
    have r:Wire.I64 v:=a.1;have P:=hid (fun w=>gQ v w r)
    have s1:¬9223372036854775807 < k+1:=by omega
    have Q:=hid a;clear a j r;go_wp2_with (go_at_call 207;refine(P _).mono ?_;rintro e Z ⟨rfl,J⟩)
    go_ret2
    exact⟨_,_,rfl,d,J⟩
 ·have f:=hid i
  have l:o<=n:=by omega
  have d0:decide ((0:Int) < (n:Int))=false:=by simp;omega
  clear i
  go_enter func238,ntmps238
  go_wp2_with fail;clear M d0
  go_loop [5,6] (fun vn vi=>∃(k:Nat) (v:Int),k<=n/\o<=k/\vi=k/\vn=v/\Wire.Bk ((s.drop o).take (k - o)) v) (fun _ vi=>n - (intOf vi).toNat)
  case atStart=>exact⟨o,0,l,Nat.le_refl _,by rw[f.out];rfl,rfl,by rw[Nat.sub_self,List.take_zero];exact Wire.bk_nil⟩
  case round =>
   obtain⟨k,v,T,x,rfl,rfl,a⟩:=hrel;have g:=hid a;clear a
   obtain rfl:k=n:=by omega
   have a:=g.out;rw[show(s.drop o).take (k - o)=s.drop o from List.take_of_length_le (by rw[List.length_drop,y.out];omega)]at a;rw[<-z.out]at a;obtain⟨u,L⟩:=nm (wrap64 (-v));obtain⟨t,j⟩:=nm ((Lib.itoa u==s))
   have r:Wire.I64 u:=by rw[<-L];exact kt _
   have d:Hid (Wire.nQ s u t):=Wire.aae a (by rw[z.out];exact f.out) r (fun hv=>by rw[<-L];unfold wrap64;have:=a.1.1;have:=a.1.2;omega) j.symm
   have q:(Wire.intE u==s++[59])=t:=by rw[<-j,Bool.eq_iff_iff];simp[Wire.intE]
   have P:=hid (fun w=>gQ u w r)
   have s1:¬9223372036854775807 < k+1:=by omega
   have Q:=hid a;clear a j r;go_wp2_with (go_at_call 207;refine(P _).mono ?_;rintro e Z ⟨rfl,J⟩)
   go_ret2
   exact⟨_,_,rfl,d,J⟩
 ·have f:=hid i
  have l:o<=n:=by omega
  have X:=H0 G;clear i
  go_enter func238,ntmps238
  go_wp2_with fail;clear M G X
  go_loop [5,6] (fun vn vi=>∃(k:Nat) (v:Int),k<=n/\o<=k/\vi=k/\vn=v/\Wire.Bk ((s.drop o).take (k - o)) v) (fun _ vi=>n - (intOf vi).toNat)
  case atStart=>exact⟨o,0,l,Nat.le_refl _,by rw[f.out];rfl,rfl,by rw[Nat.sub_self,List.take_zero];exact Wire.bk_nil⟩
  case round =>
   obtain⟨k,v,T,x,rfl,rfl,a⟩:=hrel;have g:=hid a;clear a
   by_cases hlt:k < n
   ·have I:=V k hlt
    have F:Hid (s.getD k 0∈s.drop (Wire.off s)):=by
     show _∈_
     rw[z.out,List.mem_iff_getElem?];refine⟨k - o,?_⟩;rw[List.getElem?_drop,show o+(k - o)=k by omega]
     simp[List.getD,show k < s.length by rw[y.out];exact hlt]
    have N:=hid (nO (s:=s) (o:=o) (k:=k) (by rw[y.out];exact hlt) x);have p:=(s.getD k 0).toNat_lt
    generalize A:s.getD k 0=c at I F N p
    clear A
    generalize m:c.toNat=cb at I p
    have b:=hid m;clear m
    by_cases c1:cb < 48
    ·have d:Hid (Wire.nQ s 0 false):=Wire.back_odd F.out (by rw[b.out];omega);go_wp2_with fail
     go_ret2
     exact⟨_,_,rfl,d,kr⟩
    by_cases c2:57 < cb
    ·have d:Hid (Wire.nQ s 0 false):=Wire.back_odd F.out (by rw[b.out];omega);go_wp2_with fail
     go_ret2
     exact⟨_,_,rfl,d,kr⟩
    by_cases c3:20 < k
    ·have d:Hid (Wire.nQ s 0 false):=Wire.aac (by rw[y.out];omega);go_wp2_with fail
     go_ret2
     exact⟨_,_,rfl,d,kr⟩
    ·have g1:48<=cb:=by omega
     have g2:cb<=57:=by omega
     have g3:k<=20:=by omega
     clear c1 c2 c3
     have E:Hid (Wire.Bk ((s.drop o).take (k+1 - o)) (wrap64 (wrap64 (10*v) - ((cb:Int) - 48)))):=by
      show Wire.Bk _ _
      rw[N.out];refine Wire.bk_snoc g.out (by rw[b.out];omega) (kt _) (fun hv hle=>?_);rw[b.out]at hle ⊢
      unfold wrap64
      omega
     go_wp2_with fail
     go_round
     case rel=>exact⟨k+1,_,by omega,by omega,by go_num,rfl,E.out⟩
     case measure=>simp[intOf];omega
   ·obtain rfl:k=n:=by omega
    have a:=g.out;rw[show(s.drop o).take (k - o)=s.drop o from List.take_of_length_le (by rw[List.length_drop,y.out];omega)]at a;rw[<-z.out]at a;obtain⟨u,L⟩:=nm (wrap64 (-v));obtain⟨t,j⟩:=nm ((Lib.itoa u==s))
    have r:Wire.I64 u:=by rw[<-L];exact kt _
    have d:Hid (Wire.nQ s u t):=Wire.aae a (by rw[z.out];exact f.out) r (fun hv=>by rw[<-L];unfold wrap64;have:=a.1.1;have:=a.1.2;omega) j.symm
    have q:(Wire.intE u==s++[59])=t:=by rw[<-j,Bool.eq_iff_iff];simp[Wire.intE]
    have P:=hid (fun w=>gQ u w r)
    have s1:¬9223372036854775807 < k+1:=by omega
    have Q:=hid a;clear a j r;go_wp2_with (go_at_call 207;refine(P _).mono ?_;rintro e Z ⟨rfl,J⟩)
    go_ret2
    exact⟨_,_,rfl,d,J⟩
theorem RrAt.kept{S:List Nat}{w w':World}{b:Nat}{r:Wire.Rd}(h:RrAt w b r)(k:Kept S w w')(hb:b∉S):RrAt w' b r:=⟨h.1,h.2.kept k hb⟩
def xL(l:List UInt8)(e:UInt8)(n:Nat)(v:Value):Prop:=∃k:Nat,k<=n/\k<=21/\v=k/\∀c∈l.take k,c≠e
theorem sd{l:List UInt8}{e:UInt8}{k:Nat}(h:∀c∈l.take k,c≠e)(hk:k < l.length)(hc:l.getD k 0≠e):∀c∈l.take (k+1),c≠e:=by
 intro c hm;rw[List.take_succ_eq_append_getElem hk,List.mem_append]at hm
 rcases hm with hm|hm
 ·exact h c hm
 ·rw[List.mem_singleton]at hm;subst hm
  simpa [List.getD,hk]using hc
theorem vF(b:Nat)(r:Wire.Rd)(e:UInt8)(w:World)(h:RrAt w b r)(hne:¬Wire.cR e)(ho:Wire.Ok r)(hf:r.rest.length<=100000000) :
  Calls prog 221 #[.pointer (some ⟨b,0,none⟩),.int .u8 (e.toNat:Int)] w fun en w' =>
   en=.returned (.int .i64 (Wire.ar e (-9223372036854775808) r).1)/\RrAt w' b (Wire.ar e (-9223372036854775808) r).2/\Kept [b] w w':=by
 obtain⟨x,r',F⟩:∃x r',Wire.ar e (-9223372036854775808) r=(x,r'):=⟨_,_,rfl⟩;rw[F];have A:=hid F;have I:=hid ho;have u:=hid hne;have Q:Hid (∀k,k < r.rest.length->∀w,(Instr.index 9 r.rest k).run prog w=.ok (.int .u8 ((r.rest.getD k 0).toNat:Int)) w):=fun k l w=>fX r.rest k l w;obtain⟨n,z⟩:=nm r.rest.length;have R:(⟨r.rest.toArray⟩:ByteArray).size=n:=z;have B:=hid z;rw[z]at Q hf;have c0:=h.c0;have f0:=h.2.frozen 0;clear z F ho hne;obtain⟨o,g⟩:=nm e.toNat;have i:=hid g
 have P:o < 256:=by rw[<-g];exact e.toNat_lt
 rw[g];clear g
 go_enter func221,ntmps221
 go_wp2_with fail
 go_loop [5] (fun v=>xL r.rest e n v) (fun v=>n - (intOf v).toNat)
 case atStart=>exact⟨0,Nat.zero_le _,by omega,rfl,by simp⟩
 case round =>
  obtain⟨k,l,O,rfl,N⟩:=hrel;have C:=hid N;clear N
  by_cases h1:k < n
  ·have L:=Q k h1
   have D:Hid (r.rest[k]?=some (r.rest.getD k 0)):=by
    show _=_
    simp[List.getD,show k < r.rest.length by rw[B.out];exact h1]
   have a:Hid (r.rest.getD k 0≠e->∀c∈r.rest.take (k+1),c≠e):=fun hc=>sd C.out (by rw[B.out];exact h1) hc
   generalize G:r.rest.getD k 0=c at L D a
   clear G
   by_cases hce:c=e
   ·have s:c.toNat=o:=by rw[hce];exact i.out
    rw[s]at L;rw[hce]at D;clear hce s a
    have q:((o:Int) != (o:Int))=false:=by simp
    have j:(r.rest.take k).length<=100000000:=by rw[List.length_take];omega
    have V:=hid (tJ (r.rest.take k) w j);have hx:(⟨r.rest.toArray⟩:ByteArray).extract 0 k=⟨(r.rest.take k).toArray⟩:=jo r.rest k
    have hy:(⟨r.rest.toArray⟩:ByteArray).extract (k+1) n=⟨(r.rest.drop (k+1)).toArray⟩:=by
     have:=gU r.rest (k+1)
     rwa [B]at this
    have b1:(k:Int)+1<=(n:Int):=by omega
    clear j
    have U:Hid (∀y,Wire.nQ (r.rest.take k) y false->x=0/\r'=Wire.be):=fun y m=>by
     have:=A.out;rw[Wire.ahead_no I.out u.out C.out D.out m]at this;injection this with e1 e2;exact⟨e1.symm,e2.symm⟩
    have T:Hid (∀y,Wire.nQ (r.rest.take k) y true->x=y/\r'=⟨r.rest.drop (k+1),r.bad⟩):=fun y m=>by
     have:=A.out;rw[Wire.aaf u.out D.out m]at this;injection this with e1 e2;exact⟨e1.symm,e2.symm⟩
    go_wp2_with (go_at_call 238;refine V.mono ?_)
    all_goals (
     rintro en X ⟨y,t,rfl,m,E⟩;have f:=h.kept E (by simp);have d0:=f.c0;have g0:=f.2.frozen 0
     cases t
     ·have d:=hid (U y m);clear m;go_wp2_with (go_at_call 220;refine(dX b r _ f).mono ?_;rintro e M ⟨rfl,p,l⟩);go_ret;refine⟨by rw[d.out.1];rfl,by rw[d.out.2];exact p,(E.mono (by simp)).trans l⟩
     ·have d:=hid (T y m);clear m;go_wp2_with fail;go_ret
      exact⟨by rw[d.out.1];rfl,by rw[d.out.2];exact f.set1 _,(E.mono (by simp)).setCell (by simp) _⟩)
   ·have J:=hid (a hce)
    have q:((c.toNat:Int) != (o:Int))=true:=by
     rw[bne_iff_ne];intro h;exact hce (UInt8.toNat_inj.1 (by rw[i.out];omega))
    have Z:(c.toNat==o)=false:=by
     rw[beq_eq_false_iff_ne];intro h;exact hce (UInt8.toNat_inj.1 (by rw[i.out];exact h))
    have Y:((c.toNat:Int)==(o:Int))=false:=by
     rw[beq_eq_false_iff_ne];intro h;exact hce (UInt8.toNat_inj.1 (by rw[i.out];omega))
    clear hce
    by_cases h21:k < 21
    ·go_wp2_with fail
     go_round
     case rel=>exact⟨k+1,by omega,by omega,by go_num,J.out⟩
     case measure=>simp[intOf];omega
    ·have d:Hid (x=0/\r'=Wire.be):=by
      have:=A.out;rw[Wire.zQ I.out C.out (Or.inr (by omega))]at this;injection this with e1 e2;exact⟨e1.symm,e2.symm⟩
     go_wp2_with (go_at_call 220;refine(dX b r _ h).mono ?_;rintro e M ⟨rfl,p,l⟩);go_ret;exact⟨by rw[d.out.1];rfl,by rw[d.out.2];exact p,l⟩
  ·obtain rfl:k=n:=by omega
   have d:Hid (x=0/\r'=Wire.be):=by
    have:=A.out;rw[Wire.zQ I.out C.out (Or.inl (by rw[B.out];omega))]at this;injection this with e1 e2;exact⟨e1.symm,e2.symm⟩
   go_wp2_with (go_at_call 220;refine(dX b r _ h).mono ?_;rintro e M ⟨rfl,p,l⟩);go_ret;exact⟨by rw[d.out.1];rfl,by rw[d.out.2];exact p,l⟩
theorem mO{n:Int}{r1:Wire.Rd}(b:Nat)(r:Wire.Rd)(e:UInt8)(hq:Wire.ar e (-9223372036854775808) r=(n,r1))(w:World)(h:RrAt w b r)(hne:¬Wire.cR e)(ho:Wire.Ok r)(hs:Fits r) :
  Calls prog 221 #[.pointer (some ⟨b,0,none⟩),.int .u8 (e.toNat:Int)] w fun en w' =>
   en=.returned n/\RrAt w' b r1/\Kept [b] w w':=by
 have:=vF b r e w h hne ho hs;rw[hq]at this;exact this
theorem fN{n:Int}{r1:Wire.Rd}(b:Nat)(r:Wire.Rd)(e:UInt8)(hq:Wire.ar e 0 r=(n,r1))(w:World)(h:RrAt w b r)(hne:¬Wire.cR e)(ho:Wire.Ok r)(hs:Fits r) :
  Calls prog 218 #[.pointer (some ⟨b,0,none⟩),.int .u8 (e.toNat:Int)] w fun en w' =>
   en=.returned n/\RrAt w' b r1/\Kept [b] w w':=by
 obtain⟨x,r',d⟩:∃x r',Wire.ar e (-9223372036854775808) r=(x,r'):=⟨_,_,rfl⟩;have a:=Wire.yY e r d;rw[hq]at a;have C:=hid (mO b r e d w h hne ho hs)
 generalize f:e.toNat=eb at C ⊢
 clear d hq f hne
 by_cases hn:x < 0
 ·rw[if_pos hn]at a;injection a with e1 e2;have j:=hid e1;have i:=hid e2;clear e1 e2
  go_enter func218,ntmps218
  go_wp2_with (go_at_call 221;refine C.out.mono ?_);rintro en k ⟨rfl,g,c⟩;go_wp2_with (go_at_call 220;refine(dX b _ _ g).mono ?_;rintro e p ⟨rfl,l,o⟩);go_ret;exact⟨by rw[j.out];rfl,by rw[i.out];exact l,c.trans o⟩
 ·rw[if_neg hn]at a;injection a with e1 e2;have j:=hid e1;have i:=hid e2
  have m:decide (x < 0)=false:=by simpa using hn
  clear e1 e2 hn
  go_enter func218,ntmps218
  go_wp2_with (go_at_call 221;refine C.out.mono ?_);rintro en k ⟨rfl,g,c⟩;go_wp2_with fail;go_ret;exact⟨by rw[j.out];rfl,by rw[i.out];exact g,c⟩
theorem vE{n:Int}{r1:Wire.Rd}(b:Nat)(r:Wire.Rd)(hq:Wire.ar 59 (-9223372036854775808) r=(n,r1))(w:World)(h:RrAt w b r)(ho:Wire.Ok r)(hs:Fits r) :
  Calls prog 196 #[.pointer (some ⟨b,0,none⟩)] w fun en w'=>en=.returned n/\RrAt w' b r1/\Kept [b] w w':=by
 have C:=hid (mO b r 59 hq w h Wire.not59 ho hs);clear hq
 go_enter func196,ntmps196
 go_wp2_with (go_at_call 221;refine C.out.mono ?_);rintro e w1 ⟨rfl,h1,hk1⟩;go_wp2;go_ret;exact⟨rfl,h1,hk1⟩
theorem oe(b:Nat)(r:Wire.Rd)(w:World)(h:RrAt w b r) :
  Calls prog 198 #[.pointer (some ⟨b,0,none⟩)] w fun en w' =>
   en=.returned (.bool (!r.bad&&r.rest.isEmpty))/\Kept [] w w':=by
 have c0:=h.c0;have c1:=h.c1
 cases hb:r.bad
 ·rw[hb]at c1
  go_enter func198,ntmps198
  go_wp2;go_ret;exact⟨by simp,kr⟩
 ·rw[hb]at c1
  go_enter func198,ntmps198
  go_wp2;go_ret;exact⟨by simp,kr⟩
theorem nZ(s:List UInt8)(w:World)(hE:Env w) :
  Calls prog 192 #[s] w fun en w' =>
   en=.returned (.pointer (some ⟨w.heap.size,0,none⟩))/\RrAt w' w.heap.size ⟨s,false⟩/\Kept [] w w':=by
 go_enter func192,ntmps192
 go_wp2;go_ret;exact⟨rfl,⟨hE.size,Blk.new _ _ _⟩,kr.alloc _⟩
end Go.Proofs.YtcidfldeiklcjaaGreatDoor
