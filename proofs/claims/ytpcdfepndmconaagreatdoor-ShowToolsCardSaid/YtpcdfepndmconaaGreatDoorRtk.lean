/- The reference's numbers of a ticket and of a spend; two rows that grow side by side. -/
import Derived.Test.YtpcdfepndmconaaGreatDoorPfE
/- JOINED: EncC EncM Rtk -/
/- What show.Encode writes with: its three closures. -/
namespace Go.Proofs.YtpcdfepndmconaaGreatDoor
open Go.RowKit Tape
/-- the list that is written, in its variable's block -/
structure OutAt (w0 w:World) (o B:Nat) (a:Option Addr) (c:Nat) (l:List Int):Prop where
 blk:Blk w o 24 #[.slice a l.length c]
 own:w.ownsRow B 3 1 (.slice a l.length c) l.length (ints l)
 lt:o < B
 le:B≤w.heap.size
 lo:w0.heap.size≤o
 k0:Kept [] w0 w
theorem OutAt.far {w0 w:World} {o B:Nat} {a:Option Addr} {c:Nat} {l:List Int} (h:OutAt w0 w o B a c l):∀ k∈obl (.slice a l.length c),B≤k∧k < w.heap.size:=own_ge h.own
theorem OutAt.keep {w0 w w':World} {o B:Nat} {a:Option Addr} {c:Nat} {l:List Int} {S:List Nat} (h:OutAt w0 w o B a c l) (k:Kept S w w') (ho:o∉S) (hS:∀ z∈obl (.slice a l.length c),z∉S) (h0:∀ z∈S,w0.heap.size≤z):OutAt w0 w' o B a c l :=
 ⟨h.blk.kept k ho,own_keep h.own k hS,h.lt,Nat.le_trans h.le k.size,h.lo,h.k0.fresh k h0⟩
theorem OutAt.alloc {w0 w:World} {o B:Nat} {a:Option Addr} {c:Nat} {l:List Int} (h:OutAt w0 w o B a c l) (x:Obj):OutAt w0 (w.alloc x) o B a c l :=
 h.keep (S:=[]) ((Kept.refl _ _).alloc _) (by simp) (by simp) (by simp)
theorem OutAt.cell {w0 w:World} {o B:Nat} {a:Option Addr} {c:Nat} {l:List Int} (h:OutAt w0 w o B a c l):w.cell? ⟨o,0,none⟩=some (.slice a l.length c):=h.blk.cell 0
/-- the new list, stored -/
theorem OutAt.put {w0 w w1:World} {o B:Nat} {a a1:Option Addr} {c c1 n:Nat} {l l1:List Int} {S:List Nat} (h:OutAt w0 w o B a c l) (k:Kept S w w1) (hS:∀ z∈S,B≤z) (hn:n=l1.length)
  (own1:w1.ownsRow B 3 1 (.slice a1 n c1) n (ints l1)):OutAt w0 (w1.setCell ⟨o,0,none⟩ (.slice a1 n c1)) o B a1 c1 l1:=by
 subst hn;have hlo:=h.lo;have hlt:=h.lt
 have hoS:o∉S:=fun hx=>by have:=hS o hx;omega
 refine ⟨(h.blk.kept k hoS).set_ 0 _,own_keep (S:=[o]) own1 ((Kept.refl _ _).setCell (by simp) _) ?_,h.lt,?_,h.lo,(h.k0.fresh k fun z hz=>by have:=hS z hz;omega).setCell (Or.inr hlo) _⟩
 ·intro z hz;have:=own_ge own1 z hz
  simp
  omega
 ·have:=h.le;have:=k.size
  simp [World.setCell]
  omega
/-- what a writer leaves -/
def Put (w0:World) (o B:Nat) (a:Option Addr) (c n:Nat) (l:List Int) (w:World) (e:Ending) (w':World):Prop :=
 ∃ a' c',e=.returned (.tuple #[])∧OutAt w0 w' o B a' c' l∧Kept (o::obl (.slice a n c)) w w'∧∀ k∈obl (.slice a' l.length c'),k∈obl (.slice a n c)∨w.heap.size≤k
set_option maxRecDepth 100000 in
set_option maxHeartbeats 1000000 in
theorem enc_list (w0:World) (o B:Nat) (a:Option Addr) (c:Nat) (l:List Int) (u:Value) (x:List Int) (w:World) (h:OutAt w0 w o B a c l) (hu:Row w0 1 u x.length (ints x)) (hs:l.length+1+x.length≤1000000000) :
  Calls Tryz.prog 107 #[u,.pointer (some ⟨o,0,none⟩)] w (Put w0 o B a c l.length (l++listE x) w):=by
 obtain ⟨au,cu,rfl,_,_⟩:=hu.form;have H:=Lib.hid h;have HU:=Lib.hid hu;have c0:=h.cell;have hle:=h.le;have hlt:=h.lt;have hlo:=h.lo;have far:=h.far;clear h hu
 go_enter Tryz.func107,Tryz.ntmps107
 go_wp2_with (at_builtin;refine wpList_append_ints rfl _ _ rfl B (.slice a l.length c) l.length l rfl (own_keep H.out.own ((Kept.refl [] _).alloc _) (by simp)) _ 1 [(x.length:Int)] rfl (Row.one1 _ _) (by omega) (by simp only [World.size_alloc];omega) ?_);intro a1 c1 w1 own1 k1 at1;have k1w:Kept (obl (.slice a l.length c)) w w1:=((Kept.refl _ _).alloc _).trans k1;have hs1:=k1w.size;have HR:=Lib.hid (HU.out.kept (H.out.k0.fresh k1w (fun z hz=>by have:=far z hz;omega)));go_wp2_with (at_builtin;refine wpList_append_ints rfl _ _ rfl B (.slice a1 (l.length+1) c1) (l.length+1) (l++[(x.length:Int)]) rfl own1 (.slice au x.length cu) x.length x rfl HR.out (by omega) (by omega) ?_);intro a2 c2 w2 own2 k2 at2;have k2w:Kept (obl (.slice a l.length c)) w w2:=k1w.then_ k2 (fun z hz hm=>(at1 z hm).elim id (fun e=>by first|omega|(simp only [World.size_alloc] at e;omega)));have b2:=H.out.blk.kept k2w (fun hx=>by have:=far o hx;omega);have d0:w2.cell? ⟨o,0,none⟩=some (.slice a l.length c):=b2.cell 0;have d1:=b2.frozen 0;go_wp2_with fail
 go_end0
 refine ⟨a2,c2,rfl,H.out.put k2w (fun z hz=>(far z hz).1) (by simp [listE];omega) ?_,(k2w.mono (fun z _ hm=>by simp [hm])).setCell (by simp) _,?_⟩
 ·exact own2
 ·intro k hk
  have e:(l++listE x).length=l.length+1+x.length:=by simp [listE];omega
  rw [e] at hk
  rcases at2 k hk with h|h
  ·rcases at1 k h with h|h
   ·exact Or.inl h
   ·right;rw [h];simp
  ·right;omega
theorem Row.one1' {w:World} {n:Nat} (hn:w.heap.size=n) (x:Int):Row (w.alloc (.cells #[.int .i64 x] 3)) 1 (.slice (some ⟨n,0,none⟩) 1 1) 1 (ints [x]):=hn▸Row.one1 w x
theorem Row.six {w:World} {n:Nat} (hn:w.heap.size=n) (a b c d e f:Int):Row (w.alloc (.cells #[.int .i64 a,.int .i64 b,.int .i64 c,.int .i64 d,.int .i64 e,.int .i64 f] 3)) 1 (.slice (some ⟨n,0,none⟩) 6 6) 6 (ints [a,b,c,d,e,f]):=hn▸Row.lit w [a,b,c,d,e,f] (by simp)
set_option maxRecDepth 100000 in
set_option maxHeartbeats 1000000 in
theorem enc_ticket (w0:World) (o B:Nat) (a:Option Addr) (c:Nat) (l:List Int) (t:Tick) (w:World) (h:OutAt w0 w o B a c l) (hs:l.length+6≤1000000000) :
  Calls Tryz.prog 108 #[.agg (tickC t).toArray,.pointer (some ⟨o,0,none⟩)] w (Put w0 o B a c l.length (l++tickE t) w):=by
 obtain ⟨t1,t2,t3,t4,t5,t6⟩:=t;have H:=Lib.hid h;have c0:=h.cell;have hle:=h.le;have hlt:=h.lt;have hlo:=h.lo;have far:=h.far;have hwl:=h.blk.lt;clear h
 show Calls _ _ #[.agg #[.int .i64 t1,.int .i64 t2,.int .i64 t3,.int .i64 t4,.int .i64 t5,.int .i64 t6],_] _ _
 go_enter Tryz.func108,Tryz.ntmps108
 go_wp2_with (at_builtin;refine wpList_append_ints rfl _ _ rfl B (.slice a l.length c) l.length l rfl (own_keep H.out.own (((Kept.refl [] _).alloc _).alloc _) (by simp)) _ 6 [t1,t2,t3,t4,t5,t6] rfl (Row.six (by simp only [World.size_alloc]) _ _ _ _ _ _) (by omega) (by simp only [World.size_alloc];omega) ?_);intro a1 c1 w1 own1 k1 at1;have k1w:Kept (obl (.slice a l.length c)) w w1:=(((Kept.refl _ _).alloc _).alloc _).trans k1;have hs1:=k1w.size;have b1:=H.out.blk.kept k1w (fun hx=>by have:=far o hx;omega);have d0:w1.cell? ⟨o,0,none⟩=some (.slice a l.length c):=b1.cell 0;have d1:=b1.frozen 0;go_wp2_with fail
 go_end0
 refine ⟨a1,c1,rfl,H.out.put k1w (fun z hz=>(far z hz).1) (by simp [tickE]) own1,(k1w.mono (fun z _ hm=>by simp [hm])).setCell (by simp) _,?_⟩;intro k hk
 have e:(l++tickE (t1,t2,t3,t4,t5,t6)).length=l.length+6:=by simp [tickE]
 rw [e] at hk
 rcases at1 k hk with h|h
 ·exact Or.inl h
 ·right;first|omega|(simp only [World.size_alloc] at h;omega)
/-- the variable that holds the list's writer -/
def WriterAt (w:World) (q o:Nat):Prop:=Blk w q 132 #[.func (.func 107) #[] #[.pointer (some ⟨o,0,none⟩)]]
set_option maxRecDepth 100000 in
set_option maxHeartbeats 1000000 in
theorem enc_spend (w0:World) (o B q:Nat) (a:Option Addr) (c:Nat) (l:List Int) (x:Spnd) (u:Value) (w:World) (h:OutAt w0 w o B a c l) (hq:WriterAt w q o) (hqb:q < B) (hqo:q≠o) (hu:Row w0 1 u x.2.length (ints x.2)) (hs:l.length+2+x.2.length≤1000000000) :
  Calls Tryz.prog 109 #[.agg #[.int .i64 x.1,u],.pointer (some ⟨o,0,none⟩),.pointer (some ⟨q,0,none⟩)] w (Put w0 o B a c l.length (l++spndE x) w):=by
 obtain ⟨dare,ans⟩:=x;obtain ⟨au,cu,rfl,_,_⟩:=hu.form;have H:=Lib.hid h;have c0:=h.cell;have hle:=h.le;have hlt:=h.lt;have hlo:=h.lo;have far:=h.far;have hwl:=h.blk.lt;have HQ:=Lib.hid hq;have HU:=Lib.hid hu;have hx2:l.length+2+ans.length≤1000000000:=hs;clear h hq hu hs
 go_enter Tryz.func109,Tryz.ntmps109
 go_wp2_with (at_builtin;refine wpList_append_ints rfl _ _ rfl B (.slice a l.length c) l.length l rfl (own_keep H.out.own (((Kept.refl [] _).alloc _).alloc _) (by simp)) _ 1 [dare] rfl (Row.one1' (by simp only [World.size_alloc]) _) (by omega) (by simp only [World.size_alloc];omega) ?_);intro a1 c1 w1 own1 k1 at1;have k1w:Kept (obl (.slice a l.length c)) w w1:=(((Kept.refl _ _).alloc _).alloc _).trans k1;have hs1:=k1w.size;have b1:=H.out.blk.kept k1w (fun hx=>by have:=far o hx;omega);have d0:w1.cell? ⟨o,0,none⟩=some (.slice a l.length c):=b1.cell 0;have d1:=b1.frozen 0;have bx1:Blk w1 w.heap.size 110 #[.int .i64 dare,.slice au ans.length cu]:=((Blk.new w 110 #[.int .i64 dare,.slice au ans.length cu]).alloc _).kept k1 (fun hx=>by have:=(far _ hx).2;omega);have hput:OutAt w0 (w1.setCell ⟨o,0,none⟩ (.slice a1 (l.length+1) c1)) o B a1 c1 (l++[dare]):=H.out.put k1w (fun z hz=>(far z hz).1) (by simp) own1;have q0:=((HQ.out.kept k1w (fun hx=>by have:=far q hx;omega)).far (p:=⟨o,0,none⟩) hqo (.slice a1 (l.length+1) c1)).cell 0;have x1:=(bx1.far (p:=⟨o,0,none⟩) (by simp;omega) (.slice a1 (l.length+1) c1)).cell 1;obtain ⟨w2,hw2⟩:∃ w2,w1.setCell ⟨o,0,none⟩ (.slice a1 (l.length+1) c1)=w2:=⟨_,rfl⟩;have k2w:Kept (o::obl (.slice a l.length c)) w w2:=hw2▸(k1w.mono (fun z _ hm=>by simp [hm])).setCell (by simp) _;rw [hw2] at hput q0 x1;have HP:=Lib.hid (enc_list w0 o B a1 c1 (l++[dare]) (.slice au ans.length cu) ans w2 hput HU.out (by simp;omega));have HW:=Lib.hid hw2;clear hput hw2;go_upto_region 2 with (fail)
 rw [HW.out];go_wp2_with (go_at_call 107;refine HP.out.mono ?_);rintro e w3 ⟨a3,c3,rfl,o3,k3,at3⟩;go_wp2_with fail
 go_end0
 have e9:l++[dare]++listE ans=l++spndE (dare,ans):=by simp [spndE]
 rw [e9] at o3 at3
 have hl1:(l++[dare]).length=l.length+1:=by simp
 rw [hl1] at k3 at3;refine ⟨a3,c3,rfl,o3,k2w.then_ k3 ?_,?_⟩
 ·intro z hz hm
  rcases List.mem_cons.1 hm with h|h
  ·simp [h]
  ·rcases at1 z h with h|h
   ·simp [h]
   ·first|omega|(simp only [World.size_alloc] at h;omega)
 ·intro z hz
  rcases at3 z hz with h|h
  ·rcases at1 z h with h|h
   ·exact Or.inl h
   ·right;first|omega|(simp only [World.size_alloc] at h;omega)
  ·right
   have:=k2w.size;omega
end Go.Proofs.YtpcdfepndmconaaGreatDoor
/- The state of show.Encode between its steps. -/
namespace Go.Proofs.YtpcdfepndmconaaGreatDoor
open Go.RowKit Tape
structure Enc3 (w w3 wr:World) (o B:Nat) (a:Option Addr) (c:Nat) (P:List Int) (at_:Option Addr) (ct:Nat) (T:List (List UInt8)):Prop where
 O:OutAt w wr o B a c P
 F:Kept [o] w3 wr
 le3:w3.heap.size≤B
 OT:wr.ownsRow B 9 1 (.slice at_ T.length ct) T.length (strs T)
 D:∀ z∈obl (.slice at_ T.length ct),z∉obl (.slice a P.length c)
section
variable {w w3 wr w':World} {o B:Nat} {a a' at_ at':Option Addr} {c c' ct ct' n:Nat} {P P':List Int} {T T':List (List UInt8)}
theorem Enc3.alloc (h:Enc3 w w3 wr o B a c P at_ ct T) (x:Obj):Enc3 w w3 (wr.alloc x) o B a c P at_ ct T :=
 ⟨h.O.alloc x,h.F.alloc x,h.le3,own_keep h.OT ((Kept.refl [] _).alloc x) (by simp),h.D⟩
theorem Enc3.frame (h:Enc3 w w3 wr o B a c P at_ ct T) {S:List Nat} (k:Kept S wr w') (hS:∀ z∈S,z=o∨B≤z):Kept [o] w3 w' :=
 h.F.then_ k fun x hx hm=>by
  have:=h.le3
  rcases hS x hm with e|e
  ·simp [e]
  ·omega
theorem Enc3.call (h:Enc3 w w3 wr o B a c P at_ ct T) (h2:OutAt w w' o B a' c' P') (k:Kept (o::obl (.slice a P.length c)) wr w')
  (hat:∀ z∈obl (.slice a' P'.length c'),z∈obl (.slice a P.length c)∨wr.heap.size≤z):Enc3 w w3 w' o B a' c' P' at_ ct T:=by
 have hT:=own_ge h.OT;have hlt:=h.O.lt;refine ⟨h2,h.frame k ?_,h.le3,own_keep h.OT k ?_,?_⟩
 ·intro z hz
  rcases List.mem_cons.1 hz with e|e
  ·exact Or.inl e
  ·exact Or.inr (h.O.far z e).1
 ·intro z hz hm
  rcases List.mem_cons.1 hm with e|e
  ·have:=hT z hz;omega
  ·exact h.D z hz e
 ·intro z hz hm
  rcases hat z hm with e|e
  ·exact h.D z hz e
  ·have:=hT z hz;omega
theorem Enc3.put (h:Enc3 w w3 wr o B a c P at_ ct T) (k:Kept (obl (.slice a P.length c)) wr w') (hn:n=P'.length) (own1:w'.ownsRow B 3 1 (.slice a' n c') n (ints P'))
  (hat:∀ z∈obl (.slice a' n c'),z∈obl (.slice a P.length c)∨wr.heap.size≤z):Enc3 w w3 (w'.setCell ⟨o,0,none⟩ (.slice a' n c')) o B a' c' P' at_ ct T:=by
 subst hn;have far:=h.O.far;refine h.call (h.O.put k (fun z hz=>(far z hz).1) rfl own1) ((k.mono fun z _ hm=>by simp [hm]).setCell (by simp) _) hat
theorem Enc3.term (h:Enc3 w w3 wr o B a c P at_ ct T) (k:Kept (obl (.slice at_ T.length ct)) wr w') (hn:n=T'.length) (own1:w'.ownsRow B 9 1 (.slice at' n ct') n (strs T'))
  (hat:∀ z∈obl (.slice at' n ct'),z∈obl (.slice at_ T.length ct)∨wr.heap.size≤z):Enc3 w w3 w' o B a c P at' ct' T':=by
 subst hn;have hT:=own_ge h.OT;have far:=h.O.far;have hlt:=h.O.lt;have hlo:=h.O.lo;refine ⟨h.O.keep k ?_ ?_ ?_,h.frame k fun z hz=>Or.inr (hT z hz).1,h.le3,own1,?_⟩
 ·intro hm;have:=hT o hm;omega
 ·intro z hz hm;exact h.D z hm hz
 ·intro z hz;have:=hT z hz;omega
 ·intro z hz hm
  rcases hat z hz with e|e
  ·exact h.D z e hm
  ·have:=far z hm;omega
end
/-- a list that is being written behind Q -/
def mid {α:Type} (Q:List Int) (f:α→List Int) (l:List α) (k:Nat):List Int:=Q++((l.length:Int)::(l.take k).flatMap f)
theorem mid_zero {α:Type} (Q:List Int) (f:α→List Int) (l:List α):mid Q f l 0=Q++[(l.length:Int)]:=by simp [mid]
theorem mid_succ {α:Type} (Q:List Int) (f:α→List Int) (l:List α) (k:Nat) (h:k < l.length):mid Q f l (k+1)=mid Q f l k++f l[k]:=by
 unfold mid
 rw [take_flat _ _ _ h]
 simp
theorem mid_full {α:Type} (Q:List Int) (f:α→List Int) (l:List α):mid Q f l l.length=Q++manyE f l:=by
 unfold mid manyE
 rw [List.take_length]
theorem take_flat_len {α:Type} (f:α→List Int) (l:List α) (k:Nat):((l.take k).flatMap f).length≤(l.flatMap f).length:=by
 conv=>rhs;rw [←List.take_append_drop k l,List.flatMap_append,List.length_append]
 omega
theorem mid_len {α:Type} (Q:List Int) (f:α→List Int) (l:List α) (k:Nat):(mid Q f l k).length≤(Q++manyE f l).length:=by
 unfold mid manyE
 simp only [List.length_append,List.length_cons];have:=take_flat_len f l k;omega
theorem mid_len' {α:Type} (Q:List Int) (f:α→List Int) (l:List α) (k:Nat) (h:k < l.length):(mid Q f l k).length+(f l[k]).length≤(Q++manyE f l).length:=by
 have:=mid_len Q f l (k+1);rw [mid_succ _ _ _ _ h,List.length_append] at this;exact this
/-! ### the numbers of a record, part by part -/
def S1 (r:Rec):List Int:=[]++manyE tickE r.tickets
def S2 (r:Rec):List Int:=S1 r++manyE spndE r.spends
def S3 (r:Rec):List Int:=S2 r++manyE (manyE lnkE) (strip r.links)
def S4 (r:Rec):List Int:=S3 r++listE r.commits
def S5 (r:Rec):List Int:=S4 r++listE r.chain
def S6 (r:Rec):List Int:=S5 r++manyE listE r.bits
theorem S7_eq (r:Rec):S6 r++listE r.escrow=nums7E r.n7:=by
 show S6 r++listE r.escrow=manyE tickE r.tickets++(manyE spndE r.spends++(manyE (manyE lnkE) (strip r.links)++(listE r.commits++(listE r.chain++(manyE listE r.bits++listE r.escrow)))))
 unfold S6 S5 S4 S3 S2 S1
 simp only [List.nil_append,List.append_assoc]
structure SLens (r:Rec):Prop where
 l1:(S1 r).length≤100000000
 l2:(S2 r).length≤100000000
 l3:(S3 r).length≤100000000
 l4:(S4 r).length≤100000000
 l5:(S5 r).length≤100000000
 l6:(S6 r).length≤100000000
 l7:(S6 r++listE r.escrow).length≤100000000
theorem slens {r:Rec} (h:(nums7E r.n7).length≤100000000):SLens r:=by
 rw [←S7_eq] at h;have h7:=h;simp only [List.length_append] at h7
 have h6:(S6 r).length≤100000000:=by omega
 have h6':=h6
 unfold S6 at h6'
 simp only [List.length_append] at h6'
 have h5:(S5 r).length≤100000000:=by omega
 have h5':=h5
 unfold S5 at h5'
 simp only [List.length_append] at h5'
 have h4:(S4 r).length≤100000000:=by omega
 have h4':=h4
 unfold S4 at h4'
 simp only [List.length_append] at h4'
 have h3:(S3 r).length≤100000000:=by omega
 have h3':=h3
 unfold S3 at h3'
 simp only [List.length_append] at h3'
 have h2:(S2 r).length≤100000000:=by omega
 have h2':=h2
 unfold S2 at h2'
 simp only [List.length_append] at h2';exact ⟨by omega,h2,h3,h4,h5,h6,h⟩
/-- bounds under which a record is encoded -/
structure EncB (r:Rec):Prop where
 ok:OkR r
 pf:PfOk r.proof
 tl:(terms r.links).length≤1000
 ts:∀ t∈terms r.links,t.length≤1000
 pe:(pfE r.proof).length≤100000000
def encRes (r:Rec):Value:=if r.proof.shaped then .tuple #[.string ⟨(recE r).toArray⟩,.bool true] else .tuple #[.string ⟨#[]⟩,.bool false]
theorem encRes_no {r:Rec} (h:¬ r.proof.shaped):encRes r=.tuple #[.string ⟨#[]⟩,.bool false]:=if_neg h
theorem encRes_yes {r:Rec} (h:r.proof.shaped):encRes r=.tuple #[.string ⟨(recE r).toArray⟩,.bool true]:=if_pos h
/-- the terms behind the first i lists of links, and m of the next -/
def termsAt (l:List (List (Lnk × List UInt8))) (i:Nat):List (List UInt8):=(l.take i).flatMap (List.map Prod.snd)
theorem termsAt_succ (l:List (List (Lnk × List UInt8))) (i:Nat) (h:i < l.length):termsAt l (i+1)=termsAt l i++l[i].map Prod.snd:=by
 unfold termsAt
 rw [List.take_add_one,List.getElem?_eq_getElem h,List.flatMap_append]
 simp
theorem termsAt_full (l:List (List (Lnk × List UInt8))):termsAt l l.length=terms l:=by unfold termsAt terms;rw [List.take_length]
theorem termsAt_len (l:List (List (Lnk × List UInt8))) (i:Nat):(termsAt l i).length≤(terms l).length:=by
 unfold terms
 conv=>rhs;rw [←List.take_append_drop i l,List.flatMap_append,List.length_append]
 unfold termsAt
 omega
theorem wpList_append_strs {w:World} {ops:Array Oper} {rest:List Oper} {o:Oper} {a:Act} {Q:Exit→Act→World→Prop} (hgd:o.guard=none) (s x:Operand)
  (ho:o.op=.call { callee:=.builtin .append,args:=#[s,x],argTypes:=#[44,44] })
  (base:Nat) (v:Value) (n:Nat) (xs:List (List UInt8)) (hs:a.eval s=v) (hown:w.ownsRow base 9 1 v n (strs xs))
  (u:Value) (m:Nat) (l:List (List UInt8)) (hx:a.eval x=u) (hrow:Row w 1 u m (strs l)) (hsm:n+m≤1000000000) (hbase:base≤w.heap.size)
  (h:∀ a' c' w',w'.ownsRow base 9 1 (.slice a' (n+m) c') (n+m) (strs (xs++l))→Kept (obl v) w w'→(∀ k∈obl (.slice a' (n+m) c'),k∈obl v∨k=w.heap.size)→wpList Tryz.prog ops Q rest (a.put o.dst (.slice a' (n+m) c')) w') :
  wpList Tryz.prog ops Q (o::rest) a w:=by
 obtain ⟨i0,hi,hz0,hz1,hz2⟩:=info_parts infoStr;refine wpList_plain hgd fun _ hK=>wp_append_row s x 44 ho base 9 i0 (.string ⟨#[]⟩) 1 16 Tryz.underlying44 hi hz0 hz1 hz2 rfl (by decide) v n (strs xs) hs hown u m (strs l) hx hrow ?_ (by unfold maxLen;omega) (by omega) hbase ?_
 ·intro u hu;obtain ⟨y,_,rfl⟩:=List.mem_map.1 hu
  rfl
 ·rw [←show strs (xs++l)=strs xs++strs l by simp [strs]];exact fun a' c' w' h2 h3 h4=>hK _ _ (h a' c' w' h2 h3 h4)
theorem Row.str1 {w:World} {n:Nat} (hn:w.heap.size=n) (x:List UInt8):Row (w.alloc (.cells #[.string ⟨x.toArray⟩] 9)) 1 (.slice (some ⟨n,0,none⟩) 1 1) 1 (strs [x]) :=
 hn▸row_of_blk (Blk.new w 9 #[.string ⟨x.toArray⟩]) (by simp [strs]) (by omega)
end Go.Proofs.YtpcdfepndmconaaGreatDoor
namespace Go.Proofs.YtpcdfepndmconaaGreatDoor
open Go.RowKit Tape
/-- a new row of ints is returned -/
def MadeI (l:List Int) (n:Nat) (w:World) (e:Ending) (w':World):Prop:=∃ a c,e=.returned (.slice a n c)∧w'.ownsRow w.heap.size 3 1 (.slice a n c) n (ints l)∧Kept [] w w'
set_option maxHeartbeats 800000 in
theorem rticket_any (t1 t2 t3 t4 t5 t6:Int) (w:World):Calls Tryz.prog 112 #[.agg #[.int .i64 t1,.int .i64 t2,.int .i64 t3,.int .i64 t4,.int .i64 t5,.int .i64 t6]] w (MadeI (tickE (t1,t2,t3,t4,t5,t6)) 6 w):=by
 obtain ⟨W,hW⟩:∃ W,w.alloc (.cells #[.int .i64 t1,.int .i64 t2,.int .i64 t3,.int .i64 t4,.int .i64 t5,.int .i64 t6] 134)=W:=⟨_,rfl⟩;have hb:Blk W w.heap.size 134 #[.int .i64 t1,.int .i64 t2,.int .i64 t3,.int .i64 t4,.int .i64 t5,.int .i64 t6]:=hW▸Blk.new _ _ _;have hkW:Kept [] w W:=hW▸(Kept.refl _ _).alloc _;have hWs:=hkW.size;have x0:=hb.cell 0;have x1:=hb.cell 1;have x2:=hb.cell 2;have x3:=hb.cell 3;have x4:=hb.cell 4;have x5:=hb.cell 5;have HW:=Lib.hid hW;have HO:=Lib.hid (World.ownsRow_lit (base:=w.heap.size) (e:=3) (size:=1) W #[.int .i64 t1,.int .i64 t2,.int .i64 t3,.int .i64 t4,.int .i64 t5,.int .i64 t6] 6 hWs (by decide) rfl);have HK:=Lib.hid hkW;clear hW hb hkW
 go_enter Tryz.func112,Tryz.ntmps112
 go_upto_region 1 with (fail);rw [HW.out];go_wp2_with fail;go_ret;exact ⟨_,_,rfl,HO.out,HK.out.alloc _⟩
set_option maxHeartbeats 800000 in
theorem rspend_any (d:Int) (ans:List Int) (v:Value) (w:World) (hv:Row w 1 v ans.length (ints ans)) (hl:ans.length≤100000000):Calls Tryz.prog 113 #[.agg #[.int .i64 d,v]] w (MadeI (spndE (d,ans)) (2+ans.length) w):=by
 obtain ⟨av,cv,rfl,_,_⟩:=hv.form;obtain ⟨W,hW⟩:∃ W,w.alloc (.cells #[.int .i64 d,.slice av ans.length cv] 110)=W:=⟨_,rfl⟩;have hb:Blk W w.heap.size 110 #[.int .i64 d,.slice av ans.length cv]:=hW▸Blk.new _ _ _;have hkW:Kept [] w W:=hW▸(Kept.refl _ _).alloc _;have hWs:=hkW.size;have x0:=hb.cell 0;have x1:=hb.cell 1;have HW:=Lib.hid hW;have HK:=Lib.hid hkW;have HV:=Lib.hid (hv.kept (hkW.alloc (.cells #[.int .i64 d,.int .i64 (ans.length:Int)] 3)));have HO:Hid ((W.alloc (.cells #[.int .i64 d,.int .i64 (ans.length:Int)] 3)).ownsRow w.heap.size 3 1 (.slice (some ⟨W.heap.size,0,none⟩) 2 2) 2 (ints [d,(ans.length:Int)])):=World.ownsRow_lit W #[.int .i64 d,.int .i64 (ans.length:Int)] 2 hWs (by decide) rfl;clear hW hb hkW hv
 go_enter Tryz.func113,Tryz.ntmps113
 go_upto_region 1 with (fail);rw [HW.out];have yb:(W.alloc (.cells #[.int .i64 d,.int .i64 (ans.length:Int)] 3)).cell? ⟨w.heap.size,1,none⟩=some (.slice av ans.length cv):=Kept.cellOf x1 _ ((Kept.refl _ _).alloc _);go_wp2_with (at_builtin;refine wpList_append_ints rfl _ _ rfl w.heap.size _ 2 [d,(ans.length:Int)] rfl HO.out _ ans.length ans rfl HV.out (by omega) (by simp only [World.size_alloc];omega) ?_);intro a3 c3 w3 own3 k3 _;clear yb x0 x1;go_wp2_with fail;go_ret;exact ⟨_,_,rfl,own3,(HK.out.alloc _).fresh k3 (fun z hz=>(own_ge HO.out z hz).1)⟩
/-- where a chain of appends stands: what has been appended, and what has been made for it -/
structure Bs (B:Nat) (w0 w:World) (v0 v:Value) (n:Nat) (xs:List Int) (bs:List (Value × Nat × List Int)):Prop where
 own:w.ownsRow B 3 1 v n (ints xs)
 kept:Kept (obl v0) w0 w
 ge:∀ k∈obl v,k∈obl v0∨w0.heap.size≤k
 built:∀ p∈bs,w.ownsRow w0.heap.size 3 1 p.1 p.2.1 (ints p.2.2)∧(∀ z∈obl p.1,z∉obl v)∧p.2.1≤1000000000
 base:B≤w.heap.size
section
variable {B:Nat} {w0 w:World} {v0 v:Value} {n:Nat} {xs:List Int} {bs:List (Value × Nat × List Int)}
theorem Bs.start (h:w.ownsRow B 3 1 v n (ints xs)) (hB:B≤w.heap.size):Bs B w w v v n xs [] :=
 ⟨h,Kept.refl _ _,fun k hk=>Or.inl hk,by simp,hB⟩
theorem Bs.keep {w':World} (h:Bs B w0 w v0 v n xs bs) (k:Kept [] w w'):Bs B w0 w' v0 v n xs bs :=
 ⟨own_keep h.own k (by simp),h.kept.trans (k.mono (by simp)),h.ge,fun p hp=>by
  obtain ⟨a,b,c⟩:=h.built p hp
  exact ⟨own_keep a k (by simp),b,c⟩,Nat.le_trans h.base k.size⟩
theorem Bs.drew (h:Bs B w0 w v0 v n xs bs):Bs B w0 w.drew v0 v n xs bs:=h.keep (Kept.refl [] w).drew
theorem Bs.made {w':World} {u:Value} {m:Nat} {l:List Int} (h:Bs B w0 w v0 v n xs bs) (o:w'.ownsRow w.heap.size 3 1 u m (ints l)) (k:Kept [] w w') (hm:m≤1000000000):Bs B w0 w' v0 v n xs ((u,m,l)::bs):=by
 have h2:=h.keep k;refine ⟨h2.own,h2.kept,h2.ge,fun p hp=>?_,h2.base⟩;rw [List.mem_cons] at hp
 rcases hp with rfl|hp
 ·refine ⟨?_,fun z hz hm=>?_,hm⟩
  ·obtain ⟨o1,o2⟩:=o;refine ⟨o1,o2.imp id fun ⟨g,cap,cur,e1,e2,r⟩=>⟨g,cap,cur,e1,Nat.le_trans h.kept.size e2,r⟩⟩
  ·have h1:=(own_ge o z hz).1;have h3:=(own_ge h.own z hm).2;omega
 ·exact h2.built p hp
theorem step_append_bs {ops:Array Oper} {o:Oper} {a:Act} {K:Act→World→Prop} {Q:Exit→Act→World→Prop} {E:Prop} (h:Bs B w0 w v0 v n xs bs) (hgd:o.guard=none) (s x:Operand)
  (ho:o.op=.call { callee:=.builtin .append,args:=#[s,x],argTypes:=#[24,24] })
  (hs:a.eval s=v) (u:Value) (m:Nat) (l:List Int) (hx:a.eval x=u) (hb:(u,m,l)∈bs) (hsm:n+m≤1000000000)
  (hK:∀ a' c' w',Bs B w0 w' v0 (.slice a' (n+m) c') (n+m) (xs++l) bs→K (a.put o.dst (.slice a' (n+m) c')) w') :
  if Region.wanted o (yielded ops a.tmps)=true then Oper.wp Tryz.prog o a w K Q else E:=by
 obtain ⟨q1,q2,q3⟩:=h.built _ hb;have q3:m≤1000000000:=q3;refine step_append_ints hgd s x ho B v n xs hs h.own u m l hx (Row.of_own q1 (by omega)) hsm h.base fun a' c' w' hown hk hat=>hK a' c' w' ⟨hown,h.kept.then_ hk (fun k hk hm=>(h.ge k hm).elim id (fun h=>absurd h (by omega))),fun k hk'=>?_,fun p hp=>?_,?_⟩
 ·rcases hat k hk' with h1|h1
  ·exact h.ge k h1
  ·right;have:=h.kept.size;omega
 ·obtain ⟨p1,p2,p3⟩:=h.built p hp;refine ⟨own_keep p1 hk (fun z hz hm=>p2 z hz hm),fun z hz hm=>?_,p3⟩
  rcases hat _ hm with h1|h1
  ·exact p2 z hz h1
  ·have:=(own_ge p1 z hz).2;omega
 ·have:=hk.size;have:=h.base;omega
end
/-- two rows of the call's own: numbers and terms -/
structure Duo (B:Nat) (w:World) (vo vt:Value) (no nt:Nat) (P:List Int) (T:List (List UInt8)):Prop where
 oo:w.ownsRow B 3 1 vo no (ints P)
 ot:w.ownsRow B 9 1 vt nt (strs T)
 d:∀ z∈obl vo,z∉obl vt
section
variable {B:Nat} {w y:World} {vo vt v':Value} {no nt k':Nat} {P L:List Int} {T U:List (List UInt8)}
theorem Duo.keep (h:Duo B w vo vt no nt P T) (k:Kept [] w y):Duo B y vo vt no nt P T:=⟨own_keep h.oo k (by simp),own_keep h.ot k (by simp),h.d⟩
theorem Duo.po (h:Duo B w vo vt no nt P T) (o:y.ownsRow B 3 1 v' k' (ints L)) (k:Kept (obl vo) w y) (t:∀ z∈obl v',z∈obl vo∨w.heap.size≤z):Duo B y v' vt k' nt L T:=by
 refine ⟨o,own_keep h.ot k (fun z hz hm=>h.d z hm hz),fun z hz hm=>?_⟩
 rcases t z hz with h1|h1
 ·exact h.d z h1 hm
 ·have:=(own_ge h.ot z hm).2;omega
theorem Duo.pt (h:Duo B w vo vt no nt P T) (o:y.ownsRow B 9 1 v' k' (strs U)) (k:Kept (obl vt) w y) (t:∀ z∈obl v',z∈obl vt∨w.heap.size≤z):Duo B y vo v' no k' P U:=by
 refine ⟨own_keep h.oo k (fun z hz hm=>h.d z hz hm),o,fun z hz hm=>?_⟩
 rcases t z hm with h1|h1
 ·exact h.d z hz h1
 ·have:=(own_ge h.oo z hz).2;omega
end
end Go.Proofs.YtpcdfepndmconaaGreatDoor
