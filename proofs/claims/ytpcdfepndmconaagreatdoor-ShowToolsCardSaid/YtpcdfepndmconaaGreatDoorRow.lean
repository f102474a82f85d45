/- The methods of row: next, count (show, proof); list, ticket, spend (show). -/
import Derived.Test.YtpcdfepndmconaaGreatDoorSize
import Derived.Test.YtpcdfepndmconaaGreatDoorSg1
import Derived.Outline
/- JOINED: DecP Tp Stb Row -/
/- The plain law of reading: what the loops of Decode keep. -/
namespace Go.Proofs.YtpcdfepndmconaaGreatDoor.Tape
open Wire (I64)
theorem times_succ {α:Type} (one:Tp→α × Tp) (n:Nat) (r:Tp) (acc:List α):times one (n+1) r acc=times one n (one r).2 (acc++[(one r).1]):=rfl
theorem times_pre {α:Type} (one:Tp→α × Tp):∀ (n:Nat) (r:Tp) (acc:List α),∃ l,(times one n r acc).1=acc++l
 | 0,_,acc=>⟨[],by simp [times]⟩
 | n+1,r,acc=>by
  obtain ⟨l,hl⟩:=times_pre one n (one r).2 (acc++[(one r).1]);exact ⟨(one r).1::l,by rw [times,hl];simp⟩
/-- how much is left: each round reads on -/
theorem list_le (r:Tp):(list r).2.left.length≤r.left.length:=list_codec.le r
theorem list_len (r:Tp):(list r).1.length≤r.left.length:=by
 unfold list
 have:=count_le r;simp only [List.length_take];omega
theorem total_app (a b:List (List Lnk)):total (a++b)=total a+total b:=by
 induction a with
 | nil=>simp [total]
 | cons x a ih=>simp only [List.cons_append,total,ih];omega
/-- the terms run out ahead of the links -/
theorem total_out {m m':Nat} {r':Tp} {accL:List (List (Lnk × List UInt8))} {acc:List (Lnk × List UInt8)} {fin:List (List Lnk) × Tp} {ts:List (List UInt8)}
  {li:List Lnk × Tp} (hli:times lnk (m'+1) r' (acc.map Prod.fst)=li) (hf:times (many lnk) m li.2 (strip accL++[li.1])=fin) (ht:terms accL++acc.map Prod.snd=ts):ts.length < total fin.1:=by
 obtain ⟨l,hl⟩:=times_pre (many lnk) m li.2 (strip accL++[li.1]);rw [hf] at hl
 have h1:li.1.length=acc.length+(m'+1):=by rw [←hli,times_len];simp
 rw [hl,total_app,total_app,total_strip,←ht];simp only [total,List.length_append,List.length_map];omega
theorem strip_snoc (a:List (List (Lnk × List UInt8))) (x:List (Lnk × List UInt8)):strip (a++[x])=strip a++[x.map Prod.fst]:=by simp [strip]
theorem terms_snoc (a:List (List (Lnk × List UInt8))) (x:List (Lnk × List UInt8)):terms (a++[x])=terms a++x.map Prod.snd:=by simp [terms]
/-- a list of a record reads back from its parts: the terms are all used -/
theorem attach_of {accL:List (List (Lnk × List UInt8))} {lk:List (List Lnk)} {ts:List (List UInt8)} (h1:strip accL=lk) (h2:terms accL=ts):attach lk ts=accL∧total lk=ts.length:=by
 subst h1 h2;exact ⟨attach_strip accL,total_strip accL⟩
end Go.Proofs.YtpcdfepndmconaaGreatDoor.Tape
/- Numbers read one after the other: the state in memory. -/
namespace Go.Proofs.YtpcdfepndmconaaGreatDoor
open Go.RowKit Tape
/-- ints behind one another in block g -/
def Src (w:World) (g:Nat) (a:Option Addr) (c:Nat) (l:List Int):Prop :=
 l.length≤c∧l.length≤9223372036854775807∧(0 < l.length→∃ off,a=some ⟨g,off,none⟩∧∀ (k:Nat) n,l[k]?=some n→w.cell? ⟨g,off+k,none⟩=some (.int .i64 n))
section
variable {w w':World} {g:Nat} {a:Option Addr} {c:Nat} {l:List Int} {S:List Nat}
theorem Src.keep (h:Src w g a c l) (k:Kept S w w') (hg:g∉S):Src w' g a c l:=by
 refine ⟨h.1,h.2.1,fun hp=>?_⟩;obtain ⟨off,ha,hc⟩:=h.2.2 hp;refine ⟨off,ha,fun i n hn=>?_⟩;have:=hc i n hn;exact (k.cell (World.block_lt_of_cell? w _ this) hg).trans this
theorem Src.row (h:Src w g a c l):Row w 1 (.slice a l.length c) l.length (ints l):=by
 refine ⟨by simp [ints],h.2.1,a,c,rfl,h.1,fun hp=>?_⟩;obtain ⟨off,ha,hc⟩:=h.2.2 hp;refine ⟨g,off,ha,fun i u hu=>?_⟩
 have:∃ n,l[i]?=some n∧Value.int .i64 n=u:=by
  simpa [ints] using hu
 obtain ⟨n,hn,rfl⟩:=this;exact hc i n hn
theorem Src.of_own {B:Nat} (h:w.ownsRow B 3 1 (.slice a l.length c) l.length (ints l)) (hl:l.length≤9223372036854775807):∃ g,Src w g a c l∧(g=0∨(B≤g∧g < w.heap.size)):=by
 rcases Nat.eq_zero_or_pos l.length with h0|hp
 ·have:=List.eq_nil_of_length_eq_zero h0;subst this;exact ⟨0,⟨Nat.zero_le _,by simp,fun h=>absurd h (by simp)⟩,Or.inl rfl⟩
 ·have hr:=Row.of_own h hl;obtain ⟨b,off,ha,hc⟩:=hr.at_ hp;refine ⟨b,⟨(hr.form).elim (fun a h=>h.elim fun c h=>by have:=h.1;injection this with _ _ e;omega),hl,fun _=>⟨off,ha,fun k n hn=>hc k _ ?_⟩⟩,Or.inr ?_⟩
  ·simp [ints,hn]
  ·exact own_ge h b (by subst ha;unfold obl;simp [Value.ownBlock])
theorem Src.empty (w:World) (g:Nat) (a:Option Addr) (c:Nat):Src w g a c []:=⟨Nat.zero_le _,by simp,fun h=>absurd h (by simp)⟩
/-- the rest behind the first m -/
theorem Src.drop (h:Src w g a c l) (m:Nat) (hm:m≤l.length) (a':Option Addr) (ha:m < l.length→∀ off,a=some ⟨g,off,none⟩→a'=some ⟨g,off+m,none⟩):Src w g a' (c - m) (l.drop m):=by
 refine ⟨by rw [List.length_drop];have:=h.1;omega,by rw [List.length_drop];have:=h.2.1;omega,fun hp=>?_⟩;rw [List.length_drop] at hp;obtain ⟨off,ho,hc⟩:=h.2.2 (by omega);refine ⟨off+m,ha (by omega) off ho,fun k n hn=>?_⟩;rw [List.getElem?_drop] at hn;rw [Nat.add_assoc];exact hc _ _ hn
end
/-- what reads numbers one after the other -/
structure TpAt (T:TypeId) (w:World) (b g:Nat) (r:Tp):Prop where
 st:∃ a c,Blk w b T #[.slice a r.left.length c,.bool r.bad]∧Src w g a c r.left
 ne:b≠g
theorem TpAt.keep {T:TypeId} {w w':World} {b g:Nat} {r:Tp} {S:List Nat} (h:TpAt T w b g r) (k:Kept S w w') (hb:b∉S) (hg:g∉S):TpAt T w' b g r:=by
 obtain ⟨a,c,h1,h2⟩:=h.st;exact ⟨⟨a,c,h1.kept k hb,h2.keep k hg⟩,h.ne⟩
theorem TpAt.lt {T:TypeId} {w:World} {b g:Nat} {r:Tp} (h:TpAt T w b g r):b < w.heap.size:=by
 obtain ⟨a,c,h1,h2⟩:=h.st;exact h1.lt
end Go.Proofs.YtpcdfepndmconaaGreatDoor
/- Rows that grow: what is finished stays as it is while some blocks change. -/
namespace Go.Proofs.YtpcdfepndmconaaGreatDoor
open Go.RowKit Tape
/-- it holds whatever becomes of the blocks of X, and of new ones -/
def Stable (X:List Nat) (P:World→Prop) (w:World):Prop:=∀ S w',Kept S w w'→(∀ z∈S,z < w.heap.size→z∈X)→P w'
section
variable {X X' S:List Nat} {P Q:World→Prop} {w w':World}
theorem Stable.get (h:Stable X P w):P w:=h [] w (Kept.refl _ _) (by simp)
theorem Stable.step (h:Stable X P w) (k:Kept S w w') (hS:∀ z∈S,z < w.heap.size→z∈X) (hX:∀ z∈X',z∈X∨w.heap.size≤z):Stable X' P w':=fun S' w'' k' hS' =>
 h (S++S') w'' ((k.mono fun z _ hz=>List.mem_append_left _ hz).then_ k' fun z _ hz=>List.mem_append_right _ hz) fun z hz hlt=>by
  rcases List.mem_append.1 hz with h1|h1
  ·exact hS z h1 hlt
  ·have:=k.size
   rcases hX z (hS' z h1 (by omega)) with h2|h2
   ·exact h2
   ·omega
theorem Stable.less (h:Stable X P w) (hX:∀ z∈X',z∈X∨w.heap.size≤z):Stable X' P w:=h.step (Kept.refl [] _) (by simp) hX
theorem Stable.imp (h:Stable X P w) (hPQ:∀ w,P w→Q w):Stable X Q w:=fun S w' k hS=>hPQ _ (h S w' k hS)
theorem Stable.and (h:Stable X P w) (k:Stable X Q w):Stable X (fun w=>P w∧Q w) w:=fun S w' kk hS=>⟨h S w' kk hS,k S w' kk hS⟩
theorem Stable.const {p:Prop} (h:p):Stable X (fun _=>p) w:=fun _ _ _ _=>h
theorem Stable.own {B:Nat} {e:TypeId} {size n:Nat} {v:Value} {xs:List Value} (h:w.ownsRow B e size v n xs) (hX:∀ z∈obl v,z∉X):Stable X (fun w=>w.ownsRow B e size v n xs) w:=fun _ _ k hS =>
 own_keep h k fun z hz hm=>hX z hz (hS z hm (own_ge h z hz).2)
theorem Stable.row {B:Nat} {e:TypeId} {size n:Nat} {v:Value} {xs:List Value} (h:w.ownsRow B e size v n xs) (hX:∀ z∈obl v,z∉X) (hn:n≤9223372036854775807):Stable X (fun w=>Row w size v n xs) w :=
 (Stable.own h hX).imp fun _ h=>Row.of_own h hn
end
/-- the cells of the members of a list -/
def Elems {α:Type} (R:World→List Value→α→Prop) (m:Nat) (vs:List (List Value)) (l:List α) (w:World):Prop :=
 vs.length=l.length∧(∀ c∈vs,c.length=m)∧∀ (k:Nat) a,l[k]?=some a→∃ c,vs[k]?=some c∧R w c a
theorem Elems.nil_ {α:Type} (R:World→List Value→α→Prop) (m:Nat) (w:World):Elems R m [] [] w:=⟨rfl,by simp,by simp⟩
theorem Elems.snoc {α:Type} {R:World→List Value→α→Prop} {m:Nat} {vs:List (List Value)} {l:List α} {w:World} (h:Elems R m vs l w) {c:List Value} {a:α} (hc:c.length=m) (hR:R w c a):Elems R m (vs++[c]) (l++[a]) w:=by
 obtain ⟨h1,h2,h3⟩:=h;refine ⟨by simp [h1],fun x hx=>?_,fun k b hb=>?_⟩
 ·rcases List.mem_append.1 hx with h|h
  ·exact h2 x h
  ·rw [List.mem_singleton] at h;subst h;exact hc
 ·by_cases hk:k < l.length
  ·rw [List.getElem?_append_left hk] at hb;obtain ⟨c',hc',hR'⟩:=h3 k b hb;exact ⟨c',by rw [List.getElem?_append_left (by omega)];exact hc',hR'⟩
  ·rw [List.getElem?_append_right (by omega)] at hb
   have hk0:k - l.length=0:=by
    rcases Nat.eq_zero_or_pos (k - l.length) with h|h
    ·exact h
    ·rw [List.getElem?_eq_none (by simp;omega)] at hb;cases hb
   rw [hk0] at hb;simp at hb;subst hb;exact ⟨c,by rw [List.getElem?_append_right (by omega),h1,hk0];rfl,hR⟩
/-- a row of the call's own that grows -/
def Grow {α:Type} (R:World→List Value→α→Prop) (m:Nat) (e:TypeId) (B:Nat) (X:List Nat) (w:World) (v:Value) (l:List α):Prop :=
 ∃ vs,w.ownsRow B e m v l.length vs.flatten∧Stable X (Elems R m vs l) w
section
variable {α:Type} {R:World→List Value→α→Prop} {m:Nat} {e:TypeId} {B:Nat} {X X' S:List Nat} {w w':World} {v:Value} {l:List α}
theorem Grow.nil_ (R:World→List Value→α→Prop) (m:Nat) (e:TypeId) (B:Nat) (X:List Nat) (w:World):Grow R m e B X w (.slice none 0 0) [] :=
 ⟨[],World.ownsRow_nil _ _ _ _,fun _ _ _ _=>Elems.nil_ _ _ _⟩
theorem Grow.step (h:Grow R m e B X w v l) (k:Kept S w w') (hv:∀ z∈obl v,z∉S) (hS:∀ z∈S,z < w.heap.size→z∈X) (hX:∀ z∈X',z∈X∨w.heap.size≤z):Grow R m e B X' w' v l:=by
 obtain ⟨vs,h1,h2⟩:=h;exact ⟨vs,own_keep h1 k hv,h2.step k hS hX⟩
theorem Grow.ge (h:Grow R m e B X w v l):∀ z∈obl v,B≤z∧z < w.heap.size:=by
 obtain ⟨vs,h1,h2⟩:=h;exact own_ge h1
theorem own_len {w:World} {B:Nat} {e:TypeId} {size n:Nat} {v:Value} {xs:List Value} (h:w.ownsRow B e size v n xs) (hs:0 < size):∃ a c,v=.slice a n c:=by
 rcases h.2 with ⟨h3,h4⟩|⟨g,cap,cur,hv,_⟩
 ·have h5:=h.1;rw [h4] at h5
  have hn:n=0:=by
   rcases Nat.eq_zero_or_pos n with h|h
   ·exact h
   ·have:=Nat.mul_pos h hs;simp at h5;omega
  subst hn;exact ⟨_,_,h3⟩
 ·exact ⟨_,_,hv⟩
/-- it is finished -/
theorem Grow.done (h:Grow R m e B X w v l) (hX:∀ z∈X',z∈X∨w.heap.size≤z) (hv:∀ z∈obl v,z∉X') (hl:l.length≤9223372036854775807):Stable X' (fun w=>RowOf R m w v l) w:=by
 obtain ⟨vs,h1,h2⟩:=h;exact ((Stable.own h1 hv).and (h2.less hX)).imp fun w' h=>RowOf.of_own h.1 h.2.1 h.2.2.1 h.2.2.2 hl
/-- one element behind a row that grows -/
theorem wp_append_grow {P:Program} {o:Oper} {a:Act} {K:Act→World→Prop} {Q:Exit→Act→World→Prop} (s x:Operand) (t:TypeId)
  (ho:o.op=.call { callee:=.builtin .append,args:=#[s,x],argTypes:=#[t,t] })
  (i:TypeInfo) (z:Value) (bytes:Nat) (ht:P.underlying t=some (.slice e)) (hi:P.info? e=some i) (hz:i.zero=some z)
  (hsize:i.size=m) (hby:i.bytes=bytes) (hzs:z.cells.size=m) (hsz:0 < m) (hbs:bytes≤128)
  (hs:a.eval s=v) (hg:Grow R m e B X w v l) (u:Value) (c:List Value) (b:α) (hx:a.eval x=u) (hrow:Row w m u 1 c) (hR:Stable X (fun w=>R w c b) w) (h1:∀ u∈c,u.oneCell'=true)
  (hn:l.length≤1000000000) (hbase:B≤w.heap.size) (hvX:∀ z∈obl v,z∈X)
  (h:∀ a' c' w',Grow R m e B (X++obl (.slice a' (l.length+1) c')) w' (.slice a' (l.length+1) c') (l++[b])→Kept (obl v) w w'→(∀ k∈obl (.slice a' (l.length+1) c'),k∈obl v∨k=w.heap.size)→K (a.put o.dst (.slice a' (l.length+1) c')) w'):o.wp P a w K Q:=by
 obtain ⟨vs,h2,h3⟩:=hg;refine wp_append_row s x t ho B e i z m bytes ht hi hz hsize hby hzs hsz v l.length vs.flatten hs h2 u 1 c hx hrow h1 (by unfold maxLen;omega) ?_ hbase ?_
 ·have:(l.length+1)*bytes≤1000000001*128:=Nat.mul_le_mul (by omega) hbs;omega
 ·intro a' c' w' own k hb
  have hcm:c.length=m:=by have:=hrow.1;omega
  refine h a' c' w' ⟨vs++[c],by simpa using own,?_⟩ k hb;have h4:Stable X (Elems R m (vs++[c]) (l++[b])) w:=(h3.and hR).imp fun _ h=>h.1.snoc hcm h.2
  exact h4.step k (fun z hz _=>hvX z hz) fun z hz=>by
   rcases List.mem_append.1 hz with h|h
   ·exact Or.inl h
   ·rcases hb z h with h|h
    ·exact Or.inl (hvX z h)
    ·exact Or.inr (by omega)
theorem wpList_append_grow {P:Program} {ops:Array Oper} {rest:List Oper} {o:Oper} {a:Act} {Q:Exit→Act→World→Prop} (hgd:o.guard=none) (s x:Operand) (t:TypeId)
  (ho:o.op=.call { callee:=.builtin .append,args:=#[s,x],argTypes:=#[t,t] })
  (i:TypeInfo) (z:Value) (bytes:Nat) (ht:P.underlying t=some (.slice e)) (hi:P.info? e=some i) (hz:i.zero=some z)
  (hsize:i.size=m) (hby:i.bytes=bytes) (hzs:z.cells.size=m) (hsz:0 < m) (hbs:bytes≤128)
  (hs:a.eval s=v) (hg:Grow R m e B X w v l) (u:Value) (c:List Value) (b:α) (hx:a.eval x=u) (hrow:Row w m u 1 c) (hR:Stable X (fun w=>R w c b) w) (h1:∀ u∈c,u.oneCell'=true)
  (hn:l.length≤1000000000) (hbase:B≤w.heap.size) (hvX:∀ z∈obl v,z∈X)
  (h:∀ a' c' w',Grow R m e B (X++obl (.slice a' (l.length+1) c')) w' (.slice a' (l.length+1) c') (l++[b])→Kept (obl v) w w'→(∀ k∈obl (.slice a' (l.length+1) c'),k∈obl v∨k=w.heap.size)→wpList P ops Q rest (a.put o.dst (.slice a' (l.length+1) c')) w') :
  wpList P ops Q (o::rest) a w :=
 wpList_plain hgd fun _ hK=>wp_append_grow s x t ho i z bytes ht hi hz hsize hby hzs hsz hbs hs hg u c b hx hrow hR h1 hn hbase hvX fun a' c' w' h2 h3 h4=>hK _ _ (h a' c' w' h2 h3 h4)
theorem step_append_grow {P:Program} {ops:Array Oper} {o:Oper} {a:Act} {K:Act→World→Prop} {Q:Exit→Act→World→Prop} {E:Prop} (hgd:o.guard=none) (s x:Operand) (t:TypeId)
  (ho:o.op=.call { callee:=.builtin .append,args:=#[s,x],argTypes:=#[t,t] })
  (i:TypeInfo) (z:Value) (bytes:Nat) (ht:P.underlying t=some (.slice e)) (hi:P.info? e=some i) (hz:i.zero=some z)
  (hsize:i.size=m) (hby:i.bytes=bytes) (hzs:z.cells.size=m) (hsz:0 < m) (hbs:bytes≤128)
  (hs:a.eval s=v) (hg:Grow R m e B X w v l) (u:Value) (c:List Value) (b:α) (hx:a.eval x=u) (hrow:Row w m u 1 c) (hR:Stable X (fun w=>R w c b) w) (h1:∀ u∈c,u.oneCell'=true)
  (hn:l.length≤1000000000) (hbase:B≤w.heap.size) (hvX:∀ z∈obl v,z∈X)
  (h:∀ a' c' w',Grow R m e B (X++obl (.slice a' (l.length+1) c')) w' (.slice a' (l.length+1) c') (l++[b])→Kept (obl v) w w'→(∀ k∈obl (.slice a' (l.length+1) c'),k∈obl v∨k=w.heap.size)→K (a.put o.dst (.slice a' (l.length+1) c')) w') :
  if Region.wanted o (yielded ops a.tmps)=true then Oper.wp P o a w K Q else E:=by
 rw [if_pos (by simp [Region.wanted,hgd])];exact wp_append_grow s x t ho i z bytes ht hi hz hsize hby hzs hsz hbs hs hg u c b hx hrow hR h1 hn hbase hvX h
end
end Go.Proofs.YtpcdfepndmconaaGreatDoor
namespace Go.Proofs.YtpcdfepndmconaaGreatDoor
open Go.RowKit Tape
/-- what a reader leaves -/
def ReadP (T:TypeId) (b g:Nat) (v:Value) (r:Tp) (w:World) (e:Ending) (w':World):Prop:=e=.returned v∧TpAt T w' b g r∧Kept [b] w w'
theorem count_of {r r1:Tp} {n:Int} (hq:next r=(n,r1)):(n < 0→count r=(0,⟨r1.left,true⟩))∧(0≤n→(r1.left.length:Int) < n→count r=(0,⟨r1.left,true⟩))∧(0≤n→n≤r1.left.length→count r=(n.toNat,r1)):=by
 unfold count
 rw [hq]
 simp only
 exact ⟨fun h=>if_pos (Or.inl h),fun _ h=>if_pos (Or.inr h),fun h1 h2=>if_neg (by omega)⟩
set_option maxRecDepth 100000 in
set_option maxHeartbeats 1000000 in
theorem srow_next (b g:Nat) (r:Tp) (w:World) (h:TpAt 145 w b g r) :
  Calls Tryz.prog 181 #[.pointer (some ⟨b,0,none⟩)] w (ReadP 145 b g (.int .i64 (next r).1) (next r).2 w):=by
 obtain ⟨⟨a,c,hb,hs⟩,hne⟩:=h;obtain ⟨l,bd⟩:=r;have f0:=hb.frozen 0;have f1:=hb.frozen 1
 have HN:Hid (g∉[b]):=by show g∉[b];simp;omega
 rcases l with _|⟨n,t⟩
 ·have c0:w.cell? ⟨b,0,none⟩=some (.slice a 0 c):=hb.cell 0;have c1:w.cell? ⟨b,1,none⟩=some (.bool bd):=hb.cell 1;have HB:=Lib.hid hb;have HS:=Lib.hid hs;clear hb hs
  go_enter Tryz.func181,Tryz.ntmps181
  go_wp2;go_ret;rw [show next ⟨[],bd⟩=(0,⟨[],true⟩) from rfl];exact ⟨rfl,⟨⟨a,c,by simpa using HB.out.set_ 1 (.bool true),(HS.out.keep (S:=[b]) ((Kept.refl _ _).setCell (by simp) _) HN.out)⟩,hne⟩,(Kept.refl _ _).setCell (by simp) _⟩
 ·have HS:=Lib.hid hs;have HB:=Lib.hid hb;have hcl:t.length+1≤c:=hs.1;have hml:t.length+1≤9223372036854775807:=hs.2.1;obtain ⟨off,rfl,hc⟩:=hs.2.2 (by simp);have c0:w.cell? ⟨b,0,none⟩=some (.slice (some ⟨g,off,none⟩) (t.length+1) c):=hb.cell 0
  have x0:w.cell? ⟨g,off,none⟩=some (.int .i64 n):=by simpa using hc 0 n rfl
  clear hb hs hc;obtain ⟨L,hL⟩:∃ L,t.length=L:=⟨_,rfl⟩;have HL:=Lib.hid hL;rw [hL] at hcl hml c0;clear hL
  by_cases h1:c=1
  ·subst h1
   obtain rfl:L=0:=by omega
   go_enter Tryz.func181,Tryz.ntmps181
   go_wp2;go_ret;have ht:t=[]:=List.eq_nil_of_length_eq_zero HL.out;subst ht;rw [show next ⟨[n],bd⟩=(n,⟨[],bd⟩) from rfl];exact ⟨rfl,⟨⟨_,0,by simpa using HB.out.set_ 0 (.slice (some ⟨g,off,none⟩) 0 0),Src.empty _ _ _ _⟩,hne⟩,(Kept.refl _ _).setCell (by simp) _⟩
  ·go_enter Tryz.func181,Tryz.ntmps181
   go_wp2;go_ret;rw [show next ⟨n::t,bd⟩=(n,⟨t,bd⟩) from rfl];refine ⟨rfl,⟨⟨some ⟨g,off+1,none⟩,c - 1,?_,?_⟩,hne⟩,(Kept.refl _ _).setCell (by simp) _⟩
   ·have:=HB.out.set_ 0 (.slice (some ⟨g,off+1,none⟩) L (c - 1))
    show Blk _ _ _ #[.slice _ t.length _,_]
    rw [HL.out]
    simpa using this
   ·exact (HS.out.keep (S:=[b]) ((Kept.refl _ _).setCell (by simp) _) HN.out).drop 1 (by simp) (some ⟨g,off+1,none⟩) (fun _ o ho=>by injection ho with ho;injection ho with _ ho;subst ho;rfl)
set_option maxRecDepth 100000 in
set_option maxHeartbeats 1000000 in
theorem srow_count (b g:Nat) (r:Tp) (w:World) (h:TpAt 145 w b g r) :
  Calls Tryz.prog 117 #[.pointer (some ⟨b,0,none⟩)] w (ReadP 145 b g (.int .i64 ((count r).1:Nat)) (count r).2 w):=by
 have HC:=Lib.hid (srow_next b g r w h);obtain ⟨n,r1,hq⟩:∃ n r1,next r=(n,r1):=⟨_,_,rfl⟩;have HQ:=Lib.hid (count_of hq);rw [hq] at HC;clear hq h
 go_enter Tryz.func117,Tryz.ntmps117
 go_wp2_with (go_at_call 181;refine HC.out.mono ?_);rintro e w1 ⟨rfl,h1,k1⟩;have H1:=Lib.hid h1;obtain ⟨⟨a,c,hb,hs⟩,hne⟩:=h1;have c0:=hb.cell 0;have f1:=hb.frozen 1;have hml:=hs.2.1
 have HN:Hid (g∉[b]):=by show g∉[b];simp;omega
 have HB:=Lib.hid hb;have HS:=Lib.hid hs;have HK:=Lib.hid k1;clear hb hs HC k1;obtain ⟨l,bd⟩:=r1;replace c0:w1.cell? ⟨b,0,none⟩=some (.slice a l.length c):=c0;have c1:w1.cell? ⟨b,1,none⟩=some (.bool bd):=HB.out.cell 1;replace hml:l.length≤9223372036854775807:=hml
 by_cases hn:n < 0
 ·have e1:=Lib.hid (HQ.out.1 hn);clear HQ;go_wp2;go_ret;rw [e1.out];exact ⟨rfl,⟨⟨a,c,by simpa using HB.out.set_ 1 (.bool true),HS.out.keep (S:=[b]) ((Kept.refl _ _).setCell (by simp) _) HN.out⟩,hne⟩,HK.out.setCell (by simp) _⟩
 ·by_cases hl:(l.length:Int) < n
  ·have e1:=Lib.hid (HQ.out.2.1 (by omega) hl);clear HQ;go_wp2;go_ret;rw [e1.out];exact ⟨rfl,⟨⟨a,c,by simpa using HB.out.set_ 1 (.bool true),HS.out.keep (S:=[b]) ((Kept.refl _ _).setCell (by simp) _) HN.out⟩,hne⟩,HK.out.setCell (by simp) _⟩
  ·have e1:=Lib.hid (HQ.out.2.2 (by omega) (by simpa using hl))
   have hle:n≤(l.length:Int):=by omega
   clear HQ;go_wp2;go_ret;rw [e1.out];refine ⟨?_,H1.out,HK.out⟩
   show Ending.returned (.int .i64 n)=.returned (.int .i64 (n.toNat:Int))
   rw [Int.toNat_of_nonneg (by omega)]
set_option maxRecDepth 100000 in
set_option maxHeartbeats 1000000 in
theorem prow_next (b g:Nat) (r:Tp) (w:World) (h:TpAt 187 w b g r) :
  Calls Tryz.prog 179 #[.pointer (some ⟨b,0,none⟩)] w (ReadP 187 b g (.int .i64 (next r).1) (next r).2 w):=by
 obtain ⟨⟨a,c,hb,hs⟩,hne⟩:=h;obtain ⟨l,bd⟩:=r;have f0:=hb.frozen 0;have f1:=hb.frozen 1
 have HN:Hid (g∉[b]):=by show g∉[b];simp;omega
 rcases l with _|⟨n,t⟩
 ·have c0:w.cell? ⟨b,0,none⟩=some (.slice a 0 c):=hb.cell 0;have c1:w.cell? ⟨b,1,none⟩=some (.bool bd):=hb.cell 1;have HB:=Lib.hid hb;have HS:=Lib.hid hs;clear hb hs
  go_enter Tryz.func179,Tryz.ntmps179
  go_wp2;go_ret;rw [show next ⟨[],bd⟩=(0,⟨[],true⟩) from rfl];exact ⟨rfl,⟨⟨a,c,by simpa using HB.out.set_ 1 (.bool true),(HS.out.keep (S:=[b]) ((Kept.refl _ _).setCell (by simp) _) HN.out)⟩,hne⟩,(Kept.refl _ _).setCell (by simp) _⟩
 ·have HS:=Lib.hid hs;have HB:=Lib.hid hb;have hcl:t.length+1≤c:=hs.1;have hml:t.length+1≤9223372036854775807:=hs.2.1;obtain ⟨off,rfl,hc⟩:=hs.2.2 (by simp);have c0:w.cell? ⟨b,0,none⟩=some (.slice (some ⟨g,off,none⟩) (t.length+1) c):=hb.cell 0
  have x0:w.cell? ⟨g,off,none⟩=some (.int .i64 n):=by simpa using hc 0 n rfl
  clear hb hs hc;obtain ⟨L,hL⟩:∃ L,t.length=L:=⟨_,rfl⟩;have HL:=Lib.hid hL;rw [hL] at hcl hml c0;clear hL
  by_cases h1:c=1
  ·subst h1
   obtain rfl:L=0:=by omega
   go_enter Tryz.func179,Tryz.ntmps179
   go_wp2;go_ret;have ht:t=[]:=List.eq_nil_of_length_eq_zero HL.out;subst ht;rw [show next ⟨[n],bd⟩=(n,⟨[],bd⟩) from rfl];exact ⟨rfl,⟨⟨_,0,by simpa using HB.out.set_ 0 (.slice (some ⟨g,off,none⟩) 0 0),Src.empty _ _ _ _⟩,hne⟩,(Kept.refl _ _).setCell (by simp) _⟩
  ·go_enter Tryz.func179,Tryz.ntmps179
   go_wp2;go_ret;rw [show next ⟨n::t,bd⟩=(n,⟨t,bd⟩) from rfl];refine ⟨rfl,⟨⟨some ⟨g,off+1,none⟩,c - 1,?_,?_⟩,hne⟩,(Kept.refl _ _).setCell (by simp) _⟩
   ·have:=HB.out.set_ 0 (.slice (some ⟨g,off+1,none⟩) L (c - 1))
    show Blk _ _ _ #[.slice _ t.length _,_]
    rw [HL.out]
    simpa using this
   ·exact (HS.out.keep (S:=[b]) ((Kept.refl _ _).setCell (by simp) _) HN.out).drop 1 (by simp) (some ⟨g,off+1,none⟩) (fun _ o ho=>by injection ho with ho;injection ho with _ ho;subst ho;rfl)
set_option maxRecDepth 100000 in
set_option maxHeartbeats 1000000 in
theorem prow_count (b g:Nat) (r:Tp) (w:World) (h:TpAt 187 w b g r) :
  Calls Tryz.prog 178 #[.pointer (some ⟨b,0,none⟩)] w (ReadP 187 b g (.int .i64 ((count r).1:Nat)) (count r).2 w):=by
 have HC:=Lib.hid (prow_next b g r w h);obtain ⟨n,r1,hq⟩:∃ n r1,next r=(n,r1):=⟨_,_,rfl⟩;have HQ:=Lib.hid (count_of hq);rw [hq] at HC;clear hq h
 go_enter Tryz.func178,Tryz.ntmps178
 go_wp2_with (go_at_call 179;refine HC.out.mono ?_);rintro e w1 ⟨rfl,h1,k1⟩;have H1:=Lib.hid h1;obtain ⟨⟨a,c,hb,hs⟩,hne⟩:=h1;have c0:=hb.cell 0;have f1:=hb.frozen 1;have hml:=hs.2.1
 have HN:Hid (g∉[b]):=by show g∉[b];simp;omega
 have HB:=Lib.hid hb;have HS:=Lib.hid hs;have HK:=Lib.hid k1;clear hb hs HC k1;obtain ⟨l,bd⟩:=r1;replace c0:w1.cell? ⟨b,0,none⟩=some (.slice a l.length c):=c0;have c1:w1.cell? ⟨b,1,none⟩=some (.bool bd):=HB.out.cell 1;replace hml:l.length≤9223372036854775807:=hml
 by_cases hn:n < 0
 ·have e1:=Lib.hid (HQ.out.1 hn);clear HQ;go_wp2;go_ret;rw [e1.out];exact ⟨rfl,⟨⟨a,c,by simpa using HB.out.set_ 1 (.bool true),HS.out.keep (S:=[b]) ((Kept.refl _ _).setCell (by simp) _) HN.out⟩,hne⟩,HK.out.setCell (by simp) _⟩
 ·by_cases hl:(l.length:Int) < n
  ·have e1:=Lib.hid (HQ.out.2.1 (by omega) hl);clear HQ;go_wp2;go_ret;rw [e1.out];exact ⟨rfl,⟨⟨a,c,by simpa using HB.out.set_ 1 (.bool true),HS.out.keep (S:=[b]) ((Kept.refl _ _).setCell (by simp) _) HN.out⟩,hne⟩,HK.out.setCell (by simp) _⟩
  ·have e1:=Lib.hid (HQ.out.2.2 (by omega) (by simpa using hl))
   have hle:n≤(l.length:Int):=by omega
   clear HQ;go_wp2;go_ret;rw [e1.out];refine ⟨?_,H1.out,HK.out⟩
   show Ending.returned (.int .i64 n)=.returned (.int .i64 (n.toNat:Int))
   rw [Int.toNat_of_nonneg (by omega)]
/-- a copy of the first ints -/
def CloneP (l:List Int) (w:World) (e:Ending) (w':World):Prop:=∃ a c,e=.returned (.slice a l.length c)∧w'.ownsRow w.heap.size 3 1 (.slice a l.length c) l.length (ints l)∧Kept [] w w'
theorem clone_ints (g:Nat) (a:Option Addr) (c m:Nat) (l:List Int) (w:World) (h:Src w g a c l) (hm:m≤l.length) (hl:l.length≤1000000000) :
  Calls Tryz.prog 180 #[.slice a m c] w (CloneP (l.take m) w):=by
 have htl:(l.take m).length=m:=by rw [List.length_take];omega
 cases a with
 | none =>
  have h0:m=0:=by
   rcases Nat.eq_zero_or_pos m with h0|hp
   ·exact h0
   ·obtain ⟨off,ha,_⟩:=h.2.2 (by omega)
    cases ha
  subst h0
  exact (Tryz.slices_Clone_int_nil 0 c w).mono fun e w' ⟨he,hw⟩=>⟨none,0,by simpa using he,by subst hw;simpa [ints] using World.ownsRow_nil _ _ _ _,by subst hw;exact Kept.refl _ _⟩
 | some x =>
  rcases Nat.eq_zero_or_pos m with h0|hp
  ·subst h0;refine (Tryz.slices_Clone_int_zero x c w).mono fun e w' ⟨v,he,ho,_,hb⟩=>?_;obtain ⟨a',c',rfl⟩:=own_len ho (by decide);exact ⟨a',c',by simpa using he,by simpa [ints] using ho,Kept.of_below hb⟩
  ·obtain ⟨off,ha,hc⟩:=h.2.2 (by omega);injection ha with ha;subst ha;refine (Tryz.slices_Clone_int g off m c l w hm (by omega) (fun j hj=>?_)).mono fun e w' ⟨v,he,ho,_,hb⟩=>?_
   ·rw [hc j l[j] (List.getElem?_eq_getElem hj)]
    simp [List.getD,List.getElem?_eq_getElem hj]
   ·obtain ⟨a',c',rfl⟩:=own_len ho (by decide);exact ⟨a',c',by rw [htl];exact he,by rw [htl];exact ho,Kept.of_below hb⟩
end Go.Proofs.YtpcdfepndmconaaGreatDoor
