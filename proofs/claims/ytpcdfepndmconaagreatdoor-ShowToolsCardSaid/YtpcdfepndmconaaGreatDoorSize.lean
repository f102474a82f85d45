/- Small records have ints and lengths that can be encoded. -/
import Derived.Test.YtpcdfepndmconaaGreatDoorEnv
/- JOINED: Tape Recs Ctx Size -/
/- The plain codec of lists of ints: how a proof and a record lie in one list of numbers. -/
namespace Go.Proofs.YtpcdfepndmconaaGreatDoor.Tape
structure Tp where
 left:List Int
 bad:Bool
def next (r:Tp):Int × Tp :=
 match r.left with
 | []=>(0,⟨[],true⟩)
 | n::t=>(n,⟨t,r.bad⟩)
def count (r:Tp):Nat × Tp :=
 if (next r).1 < 0∨((next r).2.left.length:Int) < (next r).1 then (0,⟨(next r).2.left,true⟩) else ((next r).1.toNat,(next r).2)
def list (r:Tp):List Int × Tp :=
 ((count r).2.left.take (count r).1,⟨(count r).2.left.drop (count r).1,(count r).2.bad⟩)
theorem next_ok (n:Int) (t:List Int) (b:Bool):next ⟨n::t,b⟩=(n,⟨t,b⟩):=rfl
theorem next_inv (r:Tp) (h:(next r).2.bad=false):r.bad=false∧r.left=(next r).1::(next r).2.left:=by
 obtain ⟨l,b⟩:=r
 rcases l with _|⟨n,t⟩
 ·cases h
 ·exact ⟨h,rfl⟩
theorem next_le (r:Tp):(next r).2.left.length≤r.left.length:=by
 obtain ⟨l,b⟩:=r
 rcases l with _|⟨n,t⟩
 ·exact Nat.le_refl _
 ·exact Nat.le_succ _
theorem count_le (r:Tp):(count r).1≤(count r).2.left.length∧(count r).2.left.length≤r.left.length:=by
 unfold count
 have:=next_le r
 split
 ·exact ⟨Nat.zero_le _,this⟩
 ·next h=>exact ⟨by simp only;omega,this⟩
theorem count_ok (n:Nat) (t:List Int) (b:Bool) (h:n≤t.length):count ⟨(n:Int)::t,b⟩=(n,⟨t,b⟩):=by
 unfold count
 rw [next_ok]
 simp only
 rw [if_neg (by omega)]
 simp
theorem count_inv (r:Tp) (h:(count r).2.bad=false):r.bad=false∧r.left=((count r).1:Int)::(count r).2.left∧(count r).1≤(count r).2.left.length:=by
 have hc:=(count_le r).1
 unfold count at h hc ⊢
 split at h
 ·cases h
 ·next hn =>
  rw [if_neg hn] at hc ⊢
  simp only at h hc ⊢
  rw [show (((next r).1.toNat:Nat):Int)=(next r).1 by omega];exact ⟨(next_inv r h).1,(next_inv r h).2,hc⟩
def listE (l:List Int):List Int:=(l.length:Int)::l
structure Codec {α:Type} (enc:α→List Int) (one:Tp→α × Tp):Prop where
 fwd:∀ x t b,one ⟨enc x++t,b⟩=(x,⟨t,b⟩)
 inv:∀ r,(one r).2.bad=false→r.bad=false∧r.left=enc (one r).1++(one r).2.left
 le:∀ r,(one r).2.left.length≤r.left.length
 pos:∀ x,1≤(enc x).length
theorem list_codec:Codec listE list where
 fwd x t b:=by
  unfold list listE
  rw [List.cons_append,count_ok _ _ _ (by simp)]
  simp
 inv r h:=by
  unfold list at h ⊢
  simp only at h ⊢
  obtain ⟨h1,h2,h3⟩:=count_inv r h;refine ⟨h1,?_⟩
  conv=>lhs;rw [h2]
  unfold listE
  rw [List.length_take,Nat.min_eq_left h3,List.cons_append,List.take_append_drop]
 le r:=by
  unfold list
  have:=count_le r;simp only [List.length_drop];omega
 pos x:=by simp [listE]
theorem next_codec:Codec (fun n:Int=>[n]) next where
 fwd x t b:=rfl
 inv r h:=next_inv r h
 le r:=next_le r
 pos x:=by simp
/-- one behind the other -/
def both {α β:Type} (f:Tp→α × Tp) (g:Tp→β × Tp) (r:Tp):(α × β) × Tp:=(((f r).1,(g (f r).2).1),(g (f r).2).2)
theorem both_codec {α β:Type} {ea:α→List Int} {eb:β→List Int} {f:Tp→α × Tp} {g:Tp→β × Tp} (a:Codec ea f) (b:Codec eb g) :
  Codec (fun x:α × β=>ea x.1++eb x.2) (both f g) where
 fwd x t bd:=by
  unfold both
  rw [List.append_assoc,a.fwd]
  simp only
  rw [b.fwd]
 inv r h:=by
  unfold both at h ⊢
  simp only at h ⊢
  obtain ⟨h1,h2⟩:=b.inv _ h;obtain ⟨h3,h4⟩:=a.inv _ h1;exact ⟨h3,by rw [List.append_assoc,←h2,←h4]⟩
 le r:=Nat.le_trans (b.le _) (a.le _)
 pos x:=by rw [List.length_append];have:=a.pos x.1;omega
def times {α:Type} (one:Tp→α × Tp):Nat→Tp→List α→List α × Tp
 | 0,r,acc=>(acc,r)
 | n+1,r,acc=>times one n (one r).2 (acc++[(one r).1])
def many {α:Type} (one:Tp→α × Tp) (r:Tp):List α × Tp:=times one (count r).1 (count r).2 []
def manyE {α:Type} (enc:α→List Int) (l:List α):List Int:=(l.length:Int)::l.flatMap enc
theorem times_ok {α:Type} {enc:α→List Int} {one:Tp→α × Tp} (c:Codec enc one) :
  ∀ (l acc:List α) (t:List Int) (b:Bool),times one l.length ⟨l.flatMap enc++t,b⟩ acc=(acc++l,⟨t,b⟩)
 | [],acc,t,b=>by simp [times]
 | x::l,acc,t,b=>by
  simp only [List.length_cons,times];rw [List.flatMap_cons,List.append_assoc,c.fwd]
  simp only
  rw [times_ok c l (acc++[x]) t b]
  simp
theorem times_inv {α:Type} {enc:α→List Int} {one:Tp→α × Tp} (c:Codec enc one) :
  ∀ (n:Nat) (r:Tp) (acc:List α),(times one n r acc).2.bad=false →
   ∃ l,(times one n r acc).1=acc++l∧l.length=n∧r.bad=false∧r.left=l.flatMap enc++(times one n r acc).2.left
 | 0,r,acc,h=>⟨[],by simp [times],rfl,by simpa [times] using h,by simp [times]⟩
 | n+1,r,acc,h=>by
  simp only [times] at h ⊢;obtain ⟨l,h1,h2,h3,h4⟩:=times_inv c n _ _ h;obtain ⟨g1,g2⟩:=c.inv r h3;exact ⟨(one r).1::l,by rw [h1];simp,by simp [h2],g1,by rw [List.flatMap_cons,List.append_assoc,←h4,←g2]⟩
theorem times_le {α:Type} {enc:α→List Int} {one:Tp→α × Tp} (c:Codec enc one) :
  ∀ (n:Nat) (r:Tp) (acc:List α),(times one n r acc).2.left.length≤r.left.length
 | 0,_,_=>Nat.le_refl _
 | n+1,r,_=>Nat.le_trans (times_le c n _ _) (c.le r)
theorem times_len {α:Type} (one:Tp→α × Tp):∀ (n:Nat) (r:Tp) (acc:List α),(times one n r acc).1.length=acc.length+n
 | 0,_,_=>rfl
 | n+1,r,acc=>by rw [times,times_len one n];simp;omega
theorem flat_len {α:Type} {enc:α→List Int} (h:∀ x,1≤(enc x).length):∀ l:List α,l.length≤(l.flatMap enc).length
 | []=>Nat.le_refl _
 | x::l=>by have:=flat_len h l;have:=h x;rw [List.flatMap_cons,List.length_append,List.length_cons];omega
theorem many_codec {α:Type} {enc:α→List Int} {one:Tp→α × Tp} (c:Codec enc one):Codec (manyE enc) (many one) where
 fwd x t b:=by
  unfold many manyE
  rw [List.cons_append,count_ok _ _ _ (by rw [List.length_append];have:=flat_len c.pos x;omega)]
  simp only
  rw [times_ok c x [] t b]
  simp
 inv r h:=by
  unfold many at h ⊢
  obtain ⟨l,h1,h2,h3,h4⟩:=times_inv c _ _ _ h;obtain ⟨g1,g2,_⟩:=count_inv r h3;refine ⟨g1,?_⟩;rw [h1]
  unfold manyE
  simp only [List.nil_append];rw [h2,List.cons_append,←h4,←g2]
 le r:=Nat.le_trans (times_le c _ _ _) (count_le r).2
 pos x:=by simp [manyE]
end Go.Proofs.YtpcdfepndmconaaGreatDoor.Tape
/- The plain law on records: a record that is encoded reads back; what is read is what was encoded. -/
namespace Go.Proofs.YtpcdfepndmconaaGreatDoor.Tape
open Wire (I64)
abbrev Tick:=Int × Int × Int × Int × Int × Int
abbrev Spnd:=Int × List Int
abbrev Lnk:=Tick × Spnd
structure Pf where
 dares:List (List Int)
 answers:List (List (List Int))
structure Rec where
 tickets:List Tick
 spends:List Spnd
 links:List (List (Lnk × List UInt8))
 commits:List Int
 chain:List Int
 bits:List (List Int)
 escrow:List Int
 proof:Pf
def tickE (t:Tick):List Int:=[t.1]++([t.2.1]++([t.2.2.1]++([t.2.2.2.1]++([t.2.2.2.2.1]++[t.2.2.2.2.2]))))
def spndE (x:Spnd):List Int:=[x.1]++listE x.2
def lnkE (x:Lnk):List Int:=tickE x.1++spndE x.2
def tick:Tp→Tick × Tp:=both next (both next (both next (both next (both next next))))
def spnd:Tp→Spnd × Tp:=both next list
def lnk:Tp→Lnk × Tp:=both tick spnd
theorem tick_codec:Codec tickE tick:=both_codec next_codec (both_codec next_codec (both_codec next_codec (both_codec next_codec (both_codec next_codec next_codec))))
theorem spnd_codec:Codec spndE spnd:=both_codec next_codec list_codec
theorem lnk_codec:Codec lnkE lnk:=both_codec tick_codec spnd_codec
/-! ### proofs -/
def Pf.pairs (p:Pf):List (List (Int × List Int)):=List.zipWith List.zip p.dares p.answers
def Pf.shaped (p:Pf):Prop:=p.dares.map List.length=p.answers.map List.length
instance (p:Pf):Decidable p.shaped:=inferInstanceAs (Decidable (_=_))
def clauseE:List (Int × List Int)→List Int:=manyE spndE
def clause:Tp→List (Int × List Int) × Tp:=many spnd
def pfN (p:Pf):List Int:=manyE clauseE p.pairs
def pfE (p:Pf):List UInt8:=Wire.numsE (pfN p)
theorem clause_codec:Codec clauseE clause:=many_codec spnd_codec
theorem clauses_codec:Codec (manyE clauseE) (many clause):=many_codec clause_codec
def done (r:Wire.Rd):Bool:=!r.bad&&r.rest.isEmpty
def ended (r:Tp):Bool:=!r.bad&&r.left.isEmpty
def readPf (s:List UInt8):Pf × Bool :=
 if done (Wire.nums ⟨s,false⟩).2&&ended (many clause ⟨(Wire.nums ⟨s,false⟩).1,false⟩).2 then
  (⟨(many clause ⟨(Wire.nums ⟨s,false⟩).1,false⟩).1.map (List.map Prod.fst),(many clause ⟨(Wire.nums ⟨s,false⟩).1,false⟩).1.map (List.map Prod.snd)⟩,true)
 else (⟨[],[]⟩,false)
theorem zip_fst {α β:Type}:∀ (l:List α) (m:List β),l.length=m.length→(l.zip m).map Prod.fst=l∧(l.zip m).map Prod.snd=m
 | [],[],_=>⟨rfl,rfl⟩
 | [],_::_,h=>by cases h
 | _::_,[],h=>by cases h
 | a::l,b::m,h=>by
  obtain ⟨h1,h2⟩:=zip_fst l m (by simpa using h);exact ⟨by simp [h1],by simp [h2]⟩
theorem pairs_fst:∀ (l:List (List Int)) (m:List (List (List Int))),l.map List.length=m.map List.length →
  (List.zipWith List.zip l m).map (List.map Prod.fst)=l∧(List.zipWith List.zip l m).map (List.map Prod.snd)=m
 | [],[],_=>⟨rfl,rfl⟩
 | [],_::_,h=>by cases h
 | _::_,[],h=>by cases h
 | a::l,b::m,h=>by
  simp only [List.map_cons,List.cons.injEq] at h;obtain ⟨h1,h2⟩:=pairs_fst l m h.2;obtain ⟨h3,h4⟩:=zip_fst a b h.1;exact ⟨by simp only [List.zipWith_cons_cons,List.map_cons,h1,h3],by simp only [List.zipWith_cons_cons,List.map_cons,h2,h4]⟩
theorem zip_back {α β:Type}:∀ l:List (α × β),(l.map Prod.fst).zip (l.map Prod.snd)=l
 | []=>rfl
 | a::l=>by simp only [List.map_cons,List.zip_cons_cons,zip_back l]
theorem pairs_back:∀ l:List (List (Int × List Int)),List.zipWith List.zip (l.map (List.map Prod.fst)) (l.map (List.map Prod.snd))=l
 | []=>rfl
 | a::l=>by simp only [List.map_cons,List.zipWith_cons_cons,zip_back,pairs_back l]
def AllI (l:List Int):Prop:=∀ x∈l,I64 x
theorem ended_iff {r:Tp}:ended r=true↔r.bad=false∧r.left=[]:=by
 unfold ended
 rw [Bool.and_eq_true,Bool.not_eq_true',List.isEmpty_iff]
theorem done_iff {r:Wire.Rd}:done r=true↔r.bad=false∧r.rest=[]:=by
 unfold done
 rw [Bool.and_eq_true,Bool.not_eq_true',List.isEmpty_iff]
theorem readPf_inv (s:List UInt8) (p:Pf) (h:readPf s=(p,true)):p.shaped∧pfE p=s:=by
 unfold readPf at h
 split at h
 ·next hc =>
  rw [Bool.and_eq_true,done_iff,ended_iff] at hc;obtain ⟨⟨a1,a2⟩,b1,b2⟩:=hc;obtain ⟨_,c2,_⟩:=Wire.nums_inv ⟨s,false⟩ a1;obtain ⟨_,d2⟩:=clauses_codec.inv _ b1;rw [a2,List.append_nil] at c2;rw [b2,List.append_nil] at d2
  simp only at c2 d2
  obtain ⟨hp,_⟩:=Prod.mk.inj h;subst hp;refine ⟨?_,?_⟩
  ·unfold Pf.shaped
   simp [List.map_map,Function.comp_def]
  ·unfold pfE pfN Pf.pairs
   simp only
   rw [pairs_back,←d2,←c2]
 ·cases (Prod.mk.inj h).2
/-! ### records -/
def terms (l:List (List (Lnk × List UInt8))):List (List UInt8):=l.flatMap (List.map Prod.snd)
def strip (l:List (List (Lnk × List UInt8))):List (List Lnk):=l.map (List.map Prod.fst)
def attach:List (List Lnk)→List (List UInt8)→List (List (Lnk × List UInt8))
 | [],_=>[]
 | l::ls,ts=>l.zip (ts.take l.length)::attach ls (ts.drop l.length)
def total:List (List Lnk)→Nat
 | []=>0
 | l::ls=>l.length+total ls
theorem attach_strip:∀ l:List (List (Lnk × List UInt8)),attach (strip l) (terms l)=l
 | []=>rfl
 | a::l=>by
  have e1:(terms (a::l)).take a.length=a.map Prod.snd:=by
   unfold terms
   rw [List.flatMap_cons];rw [List.take_append_of_le_length (by simp)];rw [List.take_of_length_le (by simp)]
  have e2:(terms (a::l)).drop a.length=terms l:=by
   unfold terms
   rw [List.flatMap_cons,List.drop_append]
   simp
  show (a.map Prod.fst).zip ((terms (a::l)).take (a.map Prod.fst).length)::attach (strip l) ((terms (a::l)).drop (a.map Prod.fst).length)=_
  rw [List.length_map,e1,e2,zip_back,attach_strip l]
theorem total_strip:∀ l:List (List (Lnk × List UInt8)),total (strip l)=(terms l).length
 | []=>rfl
 | a::l=>by
  show (a.map Prod.fst).length+total (strip l)=_
  rw [total_strip l]
  unfold terms
  rw [List.flatMap_cons]
  simp
theorem strip_attach:∀ (l:List (List Lnk)) (ts:List (List UInt8)),total l=ts.length→strip (attach l ts)=l∧terms (attach l ts)=ts
 | [],ts,h=>⟨rfl,by cases ts;rfl;cases h⟩
 | a::l,ts,h=>by
  have h':a.length+total l=ts.length:=h;obtain ⟨h1,h2⟩:=strip_attach l (ts.drop a.length) (by rw [List.length_drop];omega);obtain ⟨h3,h4⟩:=zip_fst a (ts.take a.length) (by rw [List.length_take];omega);refine ⟨?_,?_⟩
  ·show (a.zip (ts.take a.length)).map Prod.fst::strip (attach l (ts.drop a.length))=_
   rw [h1,h3]
  ·show terms (a.zip (ts.take a.length)::attach l (ts.drop a.length))=_
   unfold terms at h2 ⊢
   rw [List.flatMap_cons,h2,h4,List.take_append_drop]
abbrev Nums7:=List Tick × List Spnd × List (List Lnk) × List Int × List Int × List (List Int) × List Int
def nums7E (x:Nums7):List Int :=
 manyE tickE x.1++(manyE spndE x.2.1++(manyE (manyE lnkE) x.2.2.1++(listE x.2.2.2.1++(listE x.2.2.2.2.1++(manyE listE x.2.2.2.2.2.1++listE x.2.2.2.2.2.2)))))
def nums7:Tp→Nums7 × Tp:=both (many tick) (both (many spnd) (both (many (many lnk)) (both list (both list (both (many list) list)))))
theorem nums7_codec:Codec nums7E nums7 :=
 both_codec (many_codec tick_codec) (both_codec (many_codec spnd_codec) (both_codec (many_codec (many_codec lnk_codec)) (both_codec list_codec (both_codec list_codec (both_codec (many_codec list_codec) list_codec)))))
def Rec.n7 (r:Rec):Nums7:=(r.tickets,r.spends,strip r.links,r.commits,r.chain,r.bits,r.escrow)
def recE (r:Rec):List UInt8:=Wire.textsE (terms r.links)++(Wire.numsE (nums7E r.n7)++Wire.textE (pfE r.proof))
def zeroR:Rec:=⟨[],[],[],[],[],[],[],⟨[],[]⟩⟩
def mkR (x:Nums7) (ts:List (List UInt8)) (p:Pf):Rec:=⟨x.1,x.2.1,attach x.2.2.1 ts,x.2.2.2.1,x.2.2.2.2.1,x.2.2.2.2.2.1,x.2.2.2.2.2.2,p⟩
/-- what is read, of its parts -/
def joinR (ts:List (List UInt8)) (ns:List Int) (rd:Wire.Rd) (p:Pf × Bool):Rec × Bool :=
 if done rd&&p.2&&ended (nums7 ⟨ns,false⟩).2&&decide (total (nums7 ⟨ns,false⟩).1.2.2.1=ts.length) then (mkR (nums7 ⟨ns,false⟩).1 ts p.1,true) else (zeroR,false)
def readR (s:List UInt8):Rec × Bool :=
 joinR (Wire.texts ⟨s,false⟩).1 (Wire.nums (Wire.texts ⟨s,false⟩).2).1 (Wire.text (Wire.nums (Wire.texts ⟨s,false⟩).2).2).2
  (readPf (Wire.text (Wire.nums (Wire.texts ⟨s,false⟩).2).2).1)
/-- every int of a record is an int, and every length too -/
structure OkR (r:Rec):Prop where
 n7:AllI (nums7E r.n7)
 l7:(nums7E r.n7).length≤100000000
 pf:AllI (pfN r.proof)
 lp:(pfN r.proof).length≤100000000
 lt:(terms r.links).length≤100000000
 ts:∀ t∈terms r.links,t.length≤100000000
 le:(pfE r.proof).length≤10000000000
theorem readR_inv (s:List UInt8) (r:Rec) (h:readR s=(r,true)):r.proof.shaped∧recE r=s:=by
 obtain ⟨ts,r1,h1⟩:∃ a b,Wire.texts ⟨s,false⟩=(a,b):=⟨_,_,rfl⟩;obtain ⟨ns,r2,h2⟩:∃ a b,Wire.nums r1=(a,b):=⟨_,_,rfl⟩;obtain ⟨tx,r3,h3⟩:∃ a b,Wire.text r2=(a,b):=⟨_,_,rfl⟩;obtain ⟨p,ok,h4⟩:∃ a b,readPf tx=(a,b):=⟨_,_,rfl⟩;obtain ⟨x,tp,h5⟩:∃ a b,nums7 ⟨ns,false⟩=(a,b):=⟨_,_,rfl⟩
 unfold readR at h
 rw [h1] at h
 simp only at h
 rw [h2] at h
 simp only at h
 rw [h3] at h
 simp only at h
 rw [h4] at h
 unfold joinR at h
 rw [h5] at h
 simp only at h
 split at h
 ·next hc =>
  rw [Bool.and_eq_true,Bool.and_eq_true,Bool.and_eq_true,done_iff,ended_iff,decide_eq_true_eq] at hc;obtain ⟨⟨⟨⟨a1,a2⟩,rfl⟩,b1,b2⟩,ht⟩:=hc;obtain ⟨hr,_⟩:=Prod.mk.inj h;subst hr;obtain ⟨q1,q2⟩:=readPf_inv tx p h4;obtain ⟨c1,c2,_⟩:=Wire.text_inv r2 (by rw [h3];exact a1);rw [h3] at c2;simp only [a2,List.append_nil] at c2;obtain ⟨d1,d2,_⟩:=Wire.nums_inv r1 (by rw [h2];exact c1);rw [h2] at d2
  simp only at d2
  obtain ⟨_,f2,_⟩:=Wire.texts_inv ⟨s,false⟩ (by rw [h1];exact d1);rw [h1] at f2
  simp only at f2
  obtain ⟨_,g2⟩:=nums7_codec.inv ⟨ns,false⟩ (by rw [h5];exact b1);rw [h5] at g2;simp only [b2,List.append_nil] at g2;obtain ⟨s1,s2⟩:=strip_attach x.2.2.1 ts ht;refine ⟨q1,?_⟩
  have e1:(mkR x ts p).n7=x:=by
   unfold mkR Rec.n7
   simp only [s1]
  unfold recE
  rw [e1,←g2]
  show Wire.textsE (terms (attach x.2.2.1 ts))++(Wire.numsE ns++Wire.textE (pfE p))=s
  rw [s2,q2,←c2,←d2,←f2]
 ·cases (Prod.mk.inj h).2
end Go.Proofs.YtpcdfepndmconaaGreatDoor.Tape
/- The plain law on contexts: two tasks and records of one context agree in what the context holds. -/
namespace Go.Proofs.YtpcdfepndmconaaGreatDoor.Tape
open Wire (I64)
structure Pss where
 name:List UInt8
 pub:Int
 attrs:List (List UInt8)
 guests:List Int
structure Tsk where
 version:Int
 question:List UInt8
 passes:List Pss
 most:Int
 revoked:List Int
 dare:Int
 quorum:Int
 jurors:Int
end Go.Proofs.YtpcdfepndmconaaGreatDoor.Tape
namespace Go.Proofs.YtpcdfepndmconaaGreatDoor.Tape
open Wire (I64)
theorem all_app {a b:List Int} (ha:AllI a) (hb:AllI b):AllI (a++b):=fun x hx=>by
 rcases List.mem_append.1 hx with h|h
 ·exact ha x h
 ·exact hb x h
theorem all_one {n:Int} (h:I64 n):AllI [n]:=fun x hx=>by
 rw [List.mem_singleton] at hx;exact hx▸h
theorem all_cons {n:Int} {l:List Int} (h:I64 n) (hl:AllI l):AllI (n::l):=fun x hx=>by
 rcases List.mem_cons.1 hx with rfl|h1
 ·exact h
 ·exact hl x h1
theorem i64_len {α:Type} {l:List α} (h:l.length≤100000000):I64 (l.length:Int):=⟨by omega,by omega⟩
theorem all_listE {l:List Int} (hl:l.length≤100000000) (h:AllI l):AllI (listE l):=all_cons (i64_len hl) h
theorem all_manyE {α:Type} {enc:α→List Int} {l:List α} (hl:l.length≤100000000) (h:∀ x∈l,AllI (enc x)):AllI (manyE enc l) :=
 all_cons (i64_len hl) fun n hn=>by
  obtain ⟨x,hx,hm⟩:=List.mem_flatMap.1 hn;exact h x hx n hm
theorem len_flat {α:Type} {enc:α→List Int} (M:Nat):∀ (l:List α),(∀ x∈l,(enc x).length≤M)→(l.flatMap enc).length≤l.length*M
 | [],_=>by simp
 | a::l,h=>by
  have h1:=len_flat M l fun x hx=>h x (by simp [hx]);have h2:=h a (by simp);rw [List.flatMap_cons,List.length_append,List.length_cons,Nat.add_mul];omega
theorem len_many {α:Type} {enc:α→List Int} {l:List α} (N M:Nat) (hl:l.length≤N) (h:∀ x∈l,(enc x).length≤M):(manyE enc l).length≤N*M+1:=by
 have h1:=len_flat M l h;have h2:l.length*M≤N*M:=Nat.mul_le_mul_right M hl
 unfold manyE
 rw [List.length_cons];omega
theorem len_list {l:List Int} (N:Nat) (hl:l.length≤N):(listE l).length≤N+1:=by unfold listE;rw [List.length_cons];omega
def TickI (t:Tick):Prop:=I64 t.1∧I64 t.2.1∧I64 t.2.2.1∧I64 t.2.2.2.1∧I64 t.2.2.2.2.1∧I64 t.2.2.2.2.2
def SpndI (x:Spnd):Prop:=I64 x.1∧AllI x.2
structure RecI (r:Rec):Prop where
 tk:∀ t∈r.tickets,TickI t
 sp:∀ x∈r.spends,SpndI x
 lk:∀ l∈r.links,∀ x∈l,TickI x.1.1∧SpndI x.1.2
 cm:AllI r.commits
 ch:AllI r.chain
 bt:∀ l∈r.bits,AllI l
 es:AllI r.escrow
 da:∀ l∈r.proof.dares,AllI l
 an:∀ l∈r.proof.answers,∀ x∈l,AllI x
/-- the bounds of a small record -/
structure FewB (r:Rec):Prop where
 tk:r.tickets.length≤6
 sp:r.spends.length≤6
 spa:∀ x∈r.spends,x.2.length≤9
 lk:r.links.length≤6
 lkl:∀ l∈r.links,l.length≤6
 lkt:∀ l∈r.links,∀ x∈l,x.2.length≤100
 lka:∀ l∈r.links,∀ x∈l,x.1.2.2.length≤9
 cm:r.commits.length≤25
 ch:r.chain.length≤18
 bt:r.bits.length≤10
 btl:∀ l∈r.bits,l.length≤20
 es:r.escrow.length≤14
 da:r.proof.dares.length≤160
 dal:∀ l∈r.proof.dares,l.length≤10
 an:r.proof.answers.length≤160
 anl:∀ l∈r.proof.answers,l.length≤10
 ana:∀ l∈r.proof.answers,∀ x∈l,x.length≤70
theorem all_tick {t:Tick} (h:TickI t):AllI (tickE t):=by
 obtain ⟨h1,h2,h3,h4,h5,h6⟩:=h;exact all_app (all_one h1) (all_app (all_one h2) (all_app (all_one h3) (all_app (all_one h4) (all_app (all_one h5) (all_one h6)))))
theorem all_spnd {x:Spnd} (h:SpndI x) (hl:x.2.length≤100000000):AllI (spndE x):=all_app (all_one h.1) (all_listE hl h.2)
theorem len_tick (t:Tick):(tickE t).length=6:=rfl
theorem len_spnd (x:Spnd) (N:Nat) (h:x.2.length≤N):(spndE x).length≤N+2:=by
 show (x.1::listE x.2).length≤_
 have:=len_list N h;rw [List.length_cons];omega
theorem pair_mem:∀ (da:List (List Int)) (an:List (List (List Int))) (c:List (Int × List Int)),c∈List.zipWith List.zip da an→(∃ d∈da,c.length≤d.length)∧∀ x∈c,(∃ d∈da,x.1∈d)∧∃ a∈an,x.2∈a
 | [],_,c,h=>by simp at h
 | _::_,[],c,h=>by simp at h
 | d::da,a::an,c,h=>by
  simp only [List.zipWith_cons_cons,List.mem_cons] at h
  rcases h with rfl|h
  ·refine ⟨⟨d,by simp,by rw [List.length_zip];omega⟩,fun x hx=>?_⟩;have:=List.of_mem_zip (show (x.1,x.2)∈d.zip a from hx);exact ⟨⟨d,by simp,this.1⟩,a,by simp,this.2⟩
  ·obtain ⟨⟨d',h1,h2⟩,h3⟩:=pair_mem da an c h;refine ⟨⟨d',by simp [h1],h2⟩,fun x hx=>?_⟩;obtain ⟨⟨d2,h4,h5⟩,a2,h6,h7⟩:=h3 x hx;exact ⟨⟨d2,by simp [h4],h5⟩,a2,by simp [h6],h7⟩
theorem pf_ok {r:Rec} (hi:RecI r) (hf:FewB r):AllI (pfN r.proof)∧(pfN r.proof).length≤200000:=by
 have hp:r.proof.pairs.length≤160:=by
  have:=hf.da
  unfold Pf.pairs
  rw [List.length_zipWith];omega
 have hc:∀ c∈r.proof.pairs,c.length≤10∧∀ x∈c,SpndI x∧x.2.length≤70:=by
  intro c hc;obtain ⟨⟨d,h1,h2⟩,h3⟩:=pair_mem _ _ c hc;have:=hf.dal d h1;refine ⟨by omega,fun x hx=>?_⟩;obtain ⟨⟨d2,h4,h5⟩,a2,h6,h7⟩:=h3 x hx;exact ⟨⟨hi.da d2 h4 _ h5,hi.an a2 h6 _ h7⟩,hf.ana a2 h6 _ h7⟩
 refine ⟨all_manyE (by omega) fun c hcm=>all_manyE (by have:=(hc c hcm).1;omega) fun x hx=>?_,?_⟩
 ·obtain ⟨h1,h2⟩:=(hc c hcm).2 x hx;exact all_spnd h1 (by omega)
 ·have:=len_many (enc:=clauseE) (l:=r.proof.pairs) 160 721 hp fun c hcm=>len_many (enc:=spndE) 10 72 (hc c hcm).1 fun x hx=>len_spnd x 70 ((hc c hcm).2 x hx).2
  unfold pfN
  omega
theorem intsE_len:∀ (l:List Int),AllI l→(l.flatMap Wire.intE).length≤21*l.length
 | [],_=>by simp
 | a::l,h=>by
  have h1:=intsE_len l fun x hx=>h x (by simp [hx]);have h2:=Wire.itoa_len a (h a (by simp));rw [List.flatMap_cons,List.length_append,List.length_cons]
  show (Go.Lib.itoa a++[59]).length+_≤_
  rw [List.length_append];simp only [List.length_cons,List.length_nil];omega
theorem numsE_le {l:List Int} (h:AllI l) (hl:l.length≤9223372036854775807):(Wire.numsE l).length≤21*l.length+22:=by
 have h1:=intsE_len l h;have h2:=Wire.itoa_len (l.length:Int) ⟨by omega,by omega⟩
 unfold Wire.numsE Wire.listE
 simp only [List.length_append,List.length_cons,List.length_nil];omega
theorem okR_of {r:Rec} (hi:RecI r) (hf:FewB r):OkR r:=by
 obtain ⟨p1,p2⟩:=pf_ok hi hf;have t1:=hf.tk;have t2:=hf.sp;have t3:=hf.lk;have t4:=hf.cm;have t5:=hf.ch;have t6:=hf.bt;have t7:=hf.es
 have hs:∀ l∈strip r.links,l.length≤6∧∀ x∈l,TickI x.1∧SpndI x.2∧x.2.2.length≤9:=by
  intro l hl;obtain ⟨m,hm,rfl⟩:=List.mem_map.1 hl;refine ⟨by rw [List.length_map];exact hf.lkl m hm,fun x hx=>?_⟩;obtain ⟨y,hy,rfl⟩:=List.mem_map.1 hx;obtain ⟨h1,h2⟩:=hi.lk m hm y hy;exact ⟨h1,h2,hf.lka m hm y hy⟩
 have hsl:(strip r.links).length≤6:=by unfold strip;rw [List.length_map];exact t3
 have ht:(terms r.links).length≤36:=by
  have key:∀ l:List (List (Lnk × List UInt8)),(∀ x∈l,x.length≤6)→(terms l).length≤l.length*6:=by
   intro l
   induction l with
   | nil=>intro _;simp [terms]
   | cons a l ih =>
    intro h;have h1:=ih fun x hx=>h x (by simp [hx]);have h2:=h a (by simp)
    unfold terms at h1 ⊢
    rw [List.flatMap_cons,List.length_append,List.length_map,List.length_cons,Nat.add_mul];omega
  have:=key r.links hf.lkl;omega
 refine ⟨?_,?_,p1,by omega,by omega,?_,?_⟩
 ·refine all_app (all_manyE (by show r.tickets.length≤_;omega) fun x hx=>all_tick (hi.tk x hx)) (all_app (all_manyE (by show r.spends.length≤_;omega) fun x hx=>all_spnd (hi.sp x hx) (by have:=hf.spa x hx;omega))
   (all_app (all_manyE (by show (strip r.links).length≤_;omega) fun l hl=>all_manyE (by have:=(hs l hl).1;omega) fun x hx=>?_)
   (all_app (all_listE (by show r.commits.length≤_;omega) hi.cm) (all_app (all_listE (by show r.chain.length≤_;omega) hi.ch)
   (all_app (all_manyE (by show r.bits.length≤_;omega) fun l hl=>all_listE (by have:=hf.btl l hl;omega) (hi.bt l hl)) (all_listE (by show r.escrow.length≤_;omega) hi.es))))))
  obtain ⟨h1,h2,h3⟩:=(hs l hl).2 x hx;exact all_app (all_tick h1) (all_spnd h2 (by omega))
 ·have a1:=len_many (enc:=tickE) (l:=r.tickets) 6 6 t1 (fun x _=>Nat.le_of_eq (len_tick x));have a2:=len_many (enc:=spndE) (l:=r.spends) 6 11 t2 (fun x hx=>len_spnd x 9 (hf.spa x hx))
  have a3:=len_many (enc:=manyE lnkE) (l:=strip r.links) 6 103 hsl (fun l hl=>len_many (enc:=lnkE) 6 17 (hs l hl).1 fun x hx=>by
   have:=len_spnd x.2 9 ((hs l hl).2 x hx).2.2
   show (tickE x.1++spndE x.2).length≤17
   rw [List.length_append,len_tick]
   omega)
  have a4:=len_list 25 t4;have a5:=len_list 18 t5;have a6:=len_many (enc:=listE) (l:=r.bits) 10 21 t6 (fun l hl=>len_list 20 (hf.btl l hl));have a7:=len_list 14 t7
  show (manyE tickE r.tickets++(manyE spndE r.spends++(manyE (manyE lnkE) (strip r.links)++(listE r.commits++(listE r.chain++(manyE listE r.bits++listE r.escrow)))))).length≤_
  simp only [List.length_append];omega
 ·intro t htm;obtain ⟨l,hl,hx⟩:=List.mem_flatMap.1 htm;obtain ⟨x,hx1,rfl⟩:=List.mem_map.1 hx;have:=hf.lkt l hl x hx1;omega
 ·have:=numsE_le p1 (by omega)
  unfold pfE
  omega
end Go.Proofs.YtpcdfepndmconaaGreatDoor.Tape
