import Derived.Test.YtpcmamoomaddoaaGreatDoorPs1
set_option maxRecDepth 100000
set_option maxHeartbeats 32000000
namespace Go.Proofs.YtpcmamoomaddoaaGreatDoor
open Go.RowKit
open Go.Proofs.Tryz
open Lib(hid)
/-- where the parser stands behind a call -/
def PsB(B:Nat)(W0:World)(rb:Nat)(ts:List Tok)(a:Option Addr)(c:Nat)(z:Int)(w:World)(b:Bool)(i:Nat)(e:Ending)(w':World):Prop :=
 e=.returned (.bool b)/\Kept [rb] w w'/\Ps B W0 rb ts a c z w' (if b then i+1 else i)
theorem aQ{B:Nat}{W0:World}{rb:Nat}{ts:List Tok}{a:Option Addr}{c:Nat}{z:Int}{w:World}{i:Nat}(h:Ps B W0 rb ts a c z w i)(s:Bs) :
  Calls prog 115 #[.pointer (some ⟨rb,0,none⟩),.string ⟨s.toArray⟩] w (PsB B W0 rb ts a c z w (aI ts s i) i):=by
 have f:=hid (gZ h);have J:=hid h;have L:=h.small;have M:=h.le;obtain⟨r,G⟩:∃r,aI ts s i=r:=⟨_,rfl⟩;have b:=G
 unfold aI at b
 rw[G];clear G h
 cases ht:ts[i]? with
 |none =>
  rw[ht]at f b
  simp only at b
  subst b
  go_enter func115,ntmps115
  go_wp2_with (go_at_call 116;refine f.out.mono ?_;unfold hU;rintro e p ⟨rfl,q⟩);go_ret;exact⟨rfl,(q.alloc _).mono (by simp),J.out.step (q.alloc _)⟩
 |some t =>
  have u:i+1<=ts.length:=by
   rcases Nat.lt_or_ge i ts.length with I|I
   ·exact I
   ·rw[List.getElem?_eq_none I]at ht;cases ht
  rw[ht]at f b
  simp only at b
  go_enter func115,ntmps115
  go_upto_region 2 with(go_at_call 116;refine f.out.mono ?_;unfold hU;rintro e p ⟨rfl,q⟩);obtain⟨o,j⟩:∃x,p.alloc (.cells #[.int .i64 t.kind,.string ⟨t.text.toArray⟩,.int .i64 t.n,.int .i64 t.pos] 170)=x:=⟨_,rfl⟩;rw[j];have m:Blk o p.heap.size 170 #[.int .i64 t.kind,.string ⟨t.text.toArray⟩,.int .i64 t.n,.int .i64 t.pos]:=j▸Blk.new _ _ _;have D:Kept [] w o:=j▸q.alloc _;have Q:o.cell? ⟨p.heap.size,0,none⟩=some (.int .i64 t.kind):=m.cell 0;have P:o.cell? ⟨p.heap.size,1,none⟩=some (.string ⟨t.text.toArray⟩):=m.cell 1;have C:=J.out.step D;have T:o.cell? ⟨rb,1,none⟩=some (.int .i64 i):=C.blk.cell 1;have R:=C.blk.frozen 1;have y:=hid D;have A:=hid C;clear j m D q C ht f;obtain⟨g,l⟩:∃k,t.kind=k:=⟨_,rfl⟩;obtain⟨x,F⟩:∃x,t.text=x:=⟨_,rfl⟩;rw[l,F]at b;rw[l]at Q ⊢;rw[F]at P ⊢;clear l F
  by_cases h3:g=3
  ·have N:(g != 3)=false:=by simp[h3]
   have v:((g==3 ||g==0)&&x==s)=(x==s):=by simp[h3]
   rw[v]at b;clear v h3
   by_cases hxs:x=s
   ·subst hxs;simp only[beq_self_eq_true]at b;subst b;go_wp2_with fail;go_ret;refine⟨rfl,(y.out.mono (by simp)).setCell (Or.inl (by simp)) _,?_⟩;have:=(A.out).next_ u;rw[Int.natCast_add]at this;exact this
   ·have d:r=false:=by rw[<-b];simpa using hxs
    subst d
    have E:(!x==s)=true:=by simpa using hxs
    clear b hxs;go_wp2_with fail;go_ret;exact⟨rfl,y.out.mono (by simp),A.out⟩
  ·have N:(g != 3)=true:=by simp[h3]
   by_cases h0:g=0
   ·have O:(g != 0)=false:=by simp[h0]
    have v:((g==3 ||g==0)&&x==s)=(x==s):=by simp[h0]
    rw[v]at b;clear v h3 h0
    by_cases hxs:x=s
    ·subst hxs;simp only[beq_self_eq_true]at b;subst b;go_wp2_with fail;go_ret;refine⟨rfl,(y.out.mono (by simp)).setCell (Or.inl (by simp)) _,?_⟩;have:=(A.out).next_ u;rw[Int.natCast_add]at this;exact this
    ·have d:r=false:=by rw[<-b];simpa using hxs
     subst d
     have E:(!x==s)=true:=by simpa using hxs
     clear b hxs;go_wp2_with fail;go_ret;exact⟨rfl,y.out.mono (by simp),A.out⟩
   ·have O:(g != 0)=true:=by simp[h0]
    have d:r=false:=by rw[<-b];simp[h3,h0]
    subst d;clear b h3 h0;go_wp2_with fail;go_ret;exact⟨rfl,y.out.mono (by simp),A.out⟩
/-- the parser takes one word, or stops -/
def cf(B:Nat)(W0:World)(rb:Nat)(ts:List Tok)(a:Option Addr)(c:Nat)(z:Int)(w:World)(r:Res Unit)(e:Ending)(w':World):Prop :=
 match r with
 | .error k=>kZ [rb] w k e w'
 | .ok (_,j)=>e=.returned (.tuple #[])/\Kept [rb] w w'/\Ps B W0 rb ts a c z w' j
theorem bU{B:Nat}{W0:World}{rb:Nat}{ts:List Tok}{a:Option Addr}{c:Nat}{z:Int}{w:World}{i:Nat}(h:Ps B W0 rb ts a c z w i)(s:Bs) :
  Calls prog 69 #[.pointer (some ⟨rb,0,none⟩),.string ⟨s.toArray⟩] w (cf B W0 rb ts a c z w (bz ts s i)):=by
 have b:=hid (aQ h s);have j:=hid (fun(d:World) (k:Kept [rb] w d) (f:Ps B W0 rb ts a c z d i)=>dD f 12 i f.le (i:Int) rfl)
 unfold bz
 cases hb:aI ts s i
 ·rw[hb]at b;clear hb h
  go_enter func69,ntmps69
  go_upto_region 1 with(go_at_call 115;refine b.out.mono ?_;rintro e d ⟨rfl,g,f⟩);have l:Ps B W0 rb ts a c z d i:=f;have q:d.cell? ⟨rb,1,none⟩=some (.int .i64 i):=l.blk.cell 1;have n:=hid (j.out d g l);clear f;go_wp2_with (go_at_call 72;refine n.out.mono ?_;rintro e o ⟨⟨p,rfl⟩,m⟩);exact⟨rfl,⟨p,rfl⟩,g.trans (m.mono (by simp))⟩
 ·rw[hb]at b;clear hb h j
  go_enter func69,ntmps69
  go_wp2_with (go_at_call 115;refine b.out.mono ?_;rintro e d ⟨rfl,g,f⟩)
  go_end0
  exact⟨rfl,g,f⟩
end Go.Proofs.YtpcmamoomaddoaaGreatDoor
namespace Go.Proofs.YtpcmamoomaddoaaGreatDoor
open Go.RowKit
open Go.Proofs.Tryz
theorem mq{x y:Bs}(h:(⟨x.toArray⟩:ByteArray)=⟨y.toArray⟩):x=y:=by
 injection h with h;have:=congrArg Array.toList h
 simpa using this
theorem gy{w:World}{v:Value}{l:List Bs}(h:Row w 1 v l.length (strs l))(x:Bs) :
  Calls prog 63 #[v,.string ⟨x.toArray⟩] w fun e w'=>e=.returned (.bool (l.contains x))/\w'=w:=by
 obtain⟨a,c,rfl,k,o⟩:=h.form
 rcases Nat.eq_zero_or_pos l.length with n|i
 ·have:=List.eq_nil_of_length_eq_zero n;subst this;exact Tryz.slices_Contains_string_empty a c _ w
 ·obtain⟨b,f,rfl,d⟩:=h.at_ i
  have:=Tryz.slices_Contains_string b f l.length c (l.map fun s=>⟨s.toArray⟩) ⟨x.toArray⟩ w (by simp) k (fun j hj=>by
   rw[List.length_map]at hj;rw[d j _ (eD hj)]
   simp[List.getD_eq_getElem?_getD,hj])
  refine this.mono ?_;rintro e w' ⟨rfl,rfl⟩;refine⟨?_,rfl⟩
  congr 2
  rw[List.take_of_length_le (by simp),Bool.eq_iff_iff,Lib.containsS_iff,List.contains_iff_mem,List.mem_map]
  constructor
  ·rintro⟨y,g,m⟩;exact mq m▸g
  ·intro g;exact⟨x,g,rfl⟩
theorem oH{B:Nat}(s:Bs)(w:World)(hs:s.length<=100000000)(hE:EnvB B w) :
  Calls prog 108 #[.string ⟨s.toArray⟩] w fun e w'=>e=.returned (.bool (cn s))/\w=w':=by
 have f:=Lib.hid (ke s w hs);obtain⟨b,d,c,_,l,i,j⟩:=hE.res;have a:Row w 1 (.slice (some ⟨b,d,none⟩) 8 c) bO.length (strs bO):=⟨rfl,by decide,_,_,rfl,l,fun _=>⟨b,d,rfl,j⟩⟩;have k:=Lib.hid (gy a s)
 have m:w.cell? ⟨0,0,none⟩=some (.slice (some ⟨b,d,none⟩) 8 c):=by rw[tP fd i 0];rfl
 obtain⟨r,h⟩:∃r,bO.contains s=r:=⟨_,rfl⟩;rw[h]at k
 have g:Hid (cn s=(cE s&&!r)):=by unfold cn;rw[h];rfl
 clear i j a h hE
 cases hb:cE s
 ·rw[hb]at f g
  go_enter func108,ntmps108
  go_wp2_with (go_at_call 61;refine f.out.mono ?_;rintro e w' ⟨rfl,rfl⟩);go_ret;exact⟨by rw[g.out];rfl,rfl⟩
 ·rw[hb]at f g
  go_enter func108,ntmps108
  go_wp2_with (first
   |(go_at_call 61;refine f.out.mono ?_;rintro e w' ⟨rfl,rfl⟩)
   |(go_at_call 63;refine k.out.mono ?_;rintro e w' ⟨rfl,rfl⟩))
  go_ret;exact⟨by rw[g.out];simp,rfl⟩
open Lib(hid)
def jn(B:Nat)(W0:World)(rb:Nat)(ts:List Tok)(a:Option Addr)(c:Nat)(z:Int)(w:World)(r:Res Bs)(e:Ending)(w':World):Prop :=
 match r with
 | .error k=>kZ [rb] w k e w'
 | .ok (s,j)=>e=.returned (.string ⟨s.toArray⟩)/\Kept [rb] w w'/\Ps B W0 rb ts a c z w' j
def NumE(B:Nat)(W0:World)(rb:Nat)(ts:List Tok)(a:Option Addr)(c:Nat)(z:Int)(w:World)(r:Res Int)(e:Ending)(w':World):Prop :=
 match r with
 | .error k=>kZ [rb] w k e w'
 | .ok (n,j)=>e=.returned (.int .i64 n)/\Kept [rb] w w'/\Ps B W0 rb ts a c z w' j
theorem fX{B:Nat}{W0:World}{rb:Nat}{ts:List Tok}{a:Option Addr}{c:Nat}{z:Int}{w:World}{i:Nat}(h:Ps B W0 rb ts a c z w i) :
  Calls prog 70 #[.pointer (some ⟨rb,0,none⟩)] w (jn B W0 rb ts a c z w (dH ts i)):=by
 have j:=hid (gZ h);have A:=hid h;have I:=hid (fun(l:World) (k:Kept [] w l)=>dD (h.step k) 12 i h.le (i:Int) rfl);have O:=h.small;have Q:=h.le;obtain⟨r,E⟩:∃r,dH ts i=r:=⟨_,rfl⟩;have b:=E
 unfold dH at b
 rw[E];clear E h
 cases ht:ts[i]? with
 |none =>
  rw[ht]at j b
  simp only at b
  subst b;clear ht
  go_enter func70,ntmps70
  go_upto_region 3 with(go_at_call 116;refine j.out.mono ?_;unfold hU;rintro e l ⟨rfl,s⟩);obtain⟨g,d⟩:∃x,l.alloc (.cells #[.int .i64 0,.string ⟨#[]⟩,.int .i64 0,.int .i64 0] 170)=x:=⟨_,rfl⟩;rw[d];have m:Kept [] w g:=d▸s.alloc _;have R:g.cell? ⟨rb,1,none⟩=some (.int .i64 i):=(A.out.step m).blk.cell 1;have C:=hid (I.out g m);clear d s;go_wp2_with (go_at_call 72;refine C.out.mono ?_;rintro e M ⟨⟨p,rfl⟩,u⟩);exact⟨rfl,⟨p,rfl⟩,(m.trans u).mono (by simp)⟩
 |some t =>
  have G:i+1<=ts.length:=by
   rcases Nat.lt_or_ge i ts.length with J|J
   ·exact J
   ·rw[List.getElem?_eq_none J]at ht;cases ht
  have F:=A.out.ok t (List.mem_of_getElem? ht);rw[ht]at j b
  simp only at b
  go_enter func70,ntmps70
  go_upto_region 2 with(go_at_call 116;refine j.out.mono ?_;unfold hU;rintro e l ⟨rfl,s⟩);obtain⟨g,d⟩:∃x,l.alloc (.cells #[.int .i64 t.kind,.string ⟨t.text.toArray⟩,.int .i64 t.n,.int .i64 t.pos] 170)=x:=⟨_,rfl⟩;rw[d];have q:Blk g l.heap.size 170 #[.int .i64 t.kind,.string ⟨t.text.toArray⟩,.int .i64 t.n,.int .i64 t.pos]:=d▸Blk.new _ _ _;have m:Kept [] w g:=d▸s.alloc _;have V:g.cell? ⟨l.heap.size,0,none⟩=some (.int .i64 t.kind):=q.cell 0;have U:g.cell? ⟨l.heap.size,1,none⟩=some (.string ⟨t.text.toArray⟩):=q.cell 1;have v:=A.out.step m;have R:g.cell? ⟨rb,1,none⟩=some (.int .i64 i):=v.blk.cell 1;have Y:=v.blk.frozen 1
  have P:l.heap.size≠rb:=by
   intro e;have:=(A.out.step s).blk.lt;omega
  have L:=hid m;have X:=hid v;have C:=hid (I.out g m);have f:=hid (oH t.text g (by omega) v.envw);clear d q m s v ht j I;obtain⟨y,o⟩:∃k,t.kind=k:=⟨_,rfl⟩;obtain⟨x,D⟩:∃x,t.text=x:=⟨_,rfl⟩;rw[o,D]at b;rw[o]at V ⊢;rw[D]at U f ⊢;clear o D F
  by_cases h0:y=0
  ·have T:(y != 0)=false:=by simp[h0]
   have N:(y==0&&cn x)=cn x:=by simp[h0]
   rw[N]at b;clear N h0
   cases hf:cn x
   ·rw[hf]at f b;rw[if_neg (by simp)]at b;subst b
    go_wp2_with (first
     |(go_at_call 108;refine f.out.mono ?_;rintro e w' ⟨rfl,rfl⟩)
     |(go_at_call 72;refine C.out.mono ?_;rintro e M ⟨⟨p,rfl⟩,u⟩))
    exact⟨rfl,⟨p,rfl⟩,(L.out.trans u).mono (by simp)⟩
   ·rw[hf]at f b;rw[if_pos rfl]at b;subst b;go_wp2_with (go_at_call 108;refine f.out.mono ?_;rintro e w' ⟨rfl,rfl⟩);go_ret;refine⟨rfl,(L.out.mono (by simp)).setCell (Or.inl (by simp)) _,?_⟩;have:=(X.out).next_ G;rw[Int.natCast_add]at this;exact this
  ·have T:(y != 0)=true:=by simp[h0]
   rw[if_neg (by simp[h0])]at b;subst b;clear h0 f;go_wp2_with (go_at_call 72;refine C.out.mono ?_;rintro e M ⟨⟨p,rfl⟩,u⟩);exact⟨rfl,⟨p,rfl⟩,(L.out.trans u).mono (by simp)⟩
theorem dV{B:Nat}{W0:World}{rb:Nat}{ts:List Tok}{a:Option Addr}{c:Nat}{z:Int}{w:World}{i:Nat}(h:Ps B W0 rb ts a c z w i) :
  Calls prog 233 #[.pointer (some ⟨rb,0,none⟩)] w (NumE B W0 rb ts a c z w (aO ts i)):=by
 have f:=hid (gZ h);have F:=hid h;have E:=hid (fun(l:World) (k:Kept [] w l)=>dD (h.step k) 12 i h.le (i:Int) rfl);have J:=h.small;have M:=h.le;obtain⟨r,C⟩:∃r,aO ts i=r:=⟨_,rfl⟩;have b:=C
 unfold aO at b
 rw[C];clear C h
 cases ht:ts[i]? with
 |none =>
  rw[ht]at f b
  simp only at b
  subst b;clear ht
  go_enter func233,ntmps233
  go_upto_region 3 with(go_at_call 116;refine f.out.mono ?_;unfold hU;rintro e l ⟨rfl,s⟩);obtain⟨g,d⟩:∃x,l.alloc (.cells #[.int .i64 0,.string ⟨#[]⟩,.int .i64 0,.int .i64 0] 170)=x:=⟨_,rfl⟩;rw[d];have m:Kept [] w g:=d▸s.alloc _;have N:g.cell? ⟨rb,1,none⟩=some (.int .i64 i):=(F.out.step m).blk.cell 1;have v:=hid (E.out g m);clear d s;go_wp2_with (go_at_call 72;refine v.out.mono ?_;rintro e I ⟨⟨p,rfl⟩,A⟩);exact⟨rfl,⟨p,rfl⟩,(m.trans A).mono (by simp)⟩
 |some t =>
  have D:i+1<=ts.length:=by
   rcases Nat.lt_or_ge i ts.length with j|j
   ·exact j
   ·rw[List.getElem?_eq_none j]at ht;cases ht
  rw[ht]at f b
  simp only at b
  go_enter func233,ntmps233
  go_upto_region 2 with(go_at_call 116;refine f.out.mono ?_;unfold hU;rintro e l ⟨rfl,s⟩);obtain⟨g,d⟩:∃x,l.alloc (.cells #[.int .i64 t.kind,.string ⟨t.text.toArray⟩,.int .i64 t.n,.int .i64 t.pos] 170)=x:=⟨_,rfl⟩;rw[d];have q:Blk g l.heap.size 170 #[.int .i64 t.kind,.string ⟨t.text.toArray⟩,.int .i64 t.n,.int .i64 t.pos]:=d▸Blk.new _ _ _;have m:Kept [] w g:=d▸s.alloc _;have P:g.cell? ⟨l.heap.size,0,none⟩=some (.int .i64 t.kind):=q.cell 0;have T:g.cell? ⟨l.heap.size,2,none⟩=some (.int .i64 t.n):=q.cell 2;have u:=F.out.step m;have N:g.cell? ⟨rb,1,none⟩=some (.int .i64 i):=u.blk.cell 1;have R:=u.blk.frozen 1
  have L:l.heap.size≠rb:=by
   intro e;have:=(F.out.step s).blk.lt;omega
  have G:=hid m;have Q:=hid u;have v:=hid (E.out g m);clear d q m s u ht f E;obtain⟨y,o⟩:∃k,t.kind=k:=⟨_,rfl⟩;rw[o]at b;rw[o]at P ⊢;clear o
  by_cases j:y=1
  ·have O:(y != 1)=false:=by simp[j]
   rw[if_pos (by simp[j])]at b;subst b;clear j v;go_wp2_with fail;go_ret;refine⟨rfl,(G.out.mono (by simp)).setCell (Or.inl (by simp)) _,?_⟩;have:=(Q.out).next_ D;rw[Int.natCast_add]at this;exact this
  ·have O:(y != 1)=true:=by simp[j]
   rw[if_neg (by simp[j])]at b;subst b;clear j;go_wp2_with (go_at_call 72;refine v.out.mono ?_;rintro e I ⟨⟨p,rfl⟩,A⟩);exact⟨rfl,⟨p,rfl⟩,(G.out.trans A).mono (by simp)⟩
theorem Ps.setNew{B:Nat}{W0:World}{rb:Nat}{ts:List Tok}{a:Option Addr}{c:Nat}{z:Int}{w:World}{i:Nat}(h:Ps B W0 rb ts a c z w i){p:Addr}(hp:rb < p.block)(u:Value) :
  Ps B W0 rb ts a c z (w.setCell p u) i := ⟨h.env,h.kept.setCell (Or.inr (by have:=h.lo;omega)) _,h.lo,h.row,h.blk.far (by omega) _,h.small,h.ok,h.le⟩
theorem dh{ts:List Tok}(ok:∀t∈ts,t.text.length<=100000/\0<=t.n/\t.n<=1099511627776){i j:Nat}{n:Int}(h:aO ts i=.ok (n,j)):0<=n/\n<=1099511627776:=by
 unfold aO at h
 split at h
 ·cases h
 ·next t ht =>
  split at h
  ·injection h with h;injection h with h _;exact h▸(ok t (List.mem_of_getElem? ht)).2
  ·cases h
theorem ot{ts:List Tok}{i j:Nat}{s:Bs}(h:dH ts i=.ok (s,j)):s.length<=20:=by
 have:=gL h
 unfold cn cE at this
 simp only[Bool.and_eq_true,decide_eq_true_eq]at this;exact this.1.1.2
def SmI(s:Sm):Prop:=-1099511627776<=s.off/\s.off<=1099511627776
def SumE(B:Nat)(W0:World)(rb:Nat)(ts:List Tok)(a:Option Addr)(c:Nat)(z:Int)(w:World)(r:Res Sm)(e:Ending)(w':World):Prop :=
 match r with
 | .error k=>kZ [rb] w k e w'
 | .ok (s,j)=>e=.returned (.agg #[.string ⟨s.name.toArray⟩,.int .i64 s.off])/\Kept [rb] w w'/\Ps B W0 rb ts a c z w' j/\SmI s/\s.name.length<=41
theorem gU{w2:World}{tmps:Array Value}{v0 v1 X:Value}{b:Nat}{R:Ending->World->Prop}(hb:Blk w2 b 252 #[v0,v1])(h2:tmps[2]?.getD undef=.pointer (some ⟨b,0,none⟩))
  (hX:.agg #[v0,v1]=X) (hR:R (.returned X) w2) :
  bodyPost prog Tryz.f197 R Exit.ret { tmps:=tmps,defers:=[] } w2:=by
 subst hX;have c0:w2.cell? ⟨b,0,none⟩=some v0:=hb.cell 0;have c1:w2.cell? ⟨b,1,none⟩=some v1:=hb.cell 1;refine bodyPost_ret (v:=.agg #[v0,v1]) ?_ rfl hR;simp only[results,results197]
 simp[go_sem,h2,c0,c1]
theorem eS{B:Nat}{W0:World}{rb:Nat}{ts:List Tok}{a:Option Addr}{c:Nat}{z:Int}{w:World}{i:Nat}(h:Ps B W0 rb ts a c z w i) :
  Calls prog 197 #[.pointer (some ⟨rb,0,none⟩)] w (SumE B W0 rb ts a c z w (sumP ts i)):=by
 obtain⟨b,F⟩:∃b,w.heap.size=b:=⟨_,rfl⟩;obtain⟨W,hW⟩:∃W,w.alloc (.cells #[.string ⟨#[]⟩,.int .i64 0] 252)=W:=⟨_,rfl⟩;have hB:Blk W b 252 #[.string ⟨#[]⟩,.int .i64 0]:=F▸hW▸Blk.new _ _ _;have T:Kept [] w W:=hW▸(Kept.refl _ _).alloc _;have hw:Ps B W0 rb ts a c z W i:=h.step T;have a2:rb < b:=F▸h.blk.lt;have u:Hid (w.heap.size<=b):=hid (by omega);have o:=hid a2;have r:Hid (b≠rb):=hid (by omega);have g:=hid hB;have l:Hid (Kept [rb] w W):=hid (T.mono (by simp));have HW:=hid hW;have HS:=hid (aQ hw [45]);obtain⟨R,hR⟩:∃R,sumP ts i=R:=⟨_,rfl⟩;have d:=hR;rw[sumP]at d;rw[hR];clear hW hB T h a2 hR;subst F
 go_enter func197,ntmps197
 go_upto_region 1 with(fail);have hW':=HW.out;rw[hW'];clear hW';obtain⟨b,F⟩:∃b,w.heap.size=b:=⟨_,rfl⟩;rw[F]at o r g;rw[F];clear u;have u:=hid (Nat.le_of_eq F)
 cases hb:aI ts [45] i
 ·rw[hb]at HS d;rw[if_neg (by simp)]at d;go_upto_region 3 with(go_at_call 115;refine(HS.out).mono ?_;rintro e Y ⟨rfl,f,M⟩);have M:Ps B W0 rb ts a c z Y i:=M;replace l:=hid (l.out.trans f);replace g:=hid (g.out.kept f (by simpa using r.out));clear f;have L:=hid (gZ M)
  cases ht:ts[i]? with
  |none =>
   rw[ht]at L
   have I:oE ts i=false:=by unfold oE;rw[ht]
   have C:dH ts i=.error 12:=by unfold dH;rw[ht]
   rw[I,if_neg (by simp),C]at d;simp only[bnd]at d;subst d;clear ht;go_upto_region 6 with(go_at_call 116;refine L.out.mono ?_;unfold hU;rintro e X ⟨rfl,f⟩);obtain⟨V,A⟩:∃x,X.alloc (.cells #[.int .i64 0,.string ⟨#[]⟩,.int .i64 0,.int .i64 0] 170)=x:=⟨_,rfl⟩;rw[A];have f:Kept [] Y V:=A▸f.alloc _;have h6:=M.step f;have q:=hid (fX h6);rw[C]at q;replace l:=hid (l.out.trans (f.mono (by simp)));clear f A C I;go_wp2_with (go_at_call 70;refine q.out.mono ?_;unfold jn;rintro e v ⟨⟨p,rfl⟩,f⟩);exact⟨rfl,⟨p,rfl⟩,l.out.trans f⟩
  |some t =>
   rw[ht]at L
   have I:oE ts i=(t.kind==1):=by unfold oE;rw[ht]
   rw[I]at d;clear I ht;go_upto_region 4 with(go_at_call 116;refine L.out.mono ?_;unfold hU;rintro e X ⟨rfl,f⟩);obtain⟨V,A⟩:∃x,X.alloc (.cells #[.int .i64 t.kind,.string ⟨t.text.toArray⟩,.int .i64 t.n,.int .i64 t.pos] 170)=x:=⟨_,rfl⟩;rw[A];have a6:Blk V X.heap.size 170 #[.int .i64 t.kind,.string ⟨t.text.toArray⟩,.int .i64 t.n,.int .i64 t.pos]:=A▸Blk.new _ _ _;have a0:V.cell? ⟨X.heap.size,0,none⟩=some (.int .i64 t.kind):=a6.cell 0;have f:Kept [] Y V:=A▸f.alloc _;have h6:=M.step f;replace l:=hid (l.out.trans (f.mono (by simp)));replace g:=hid (g.out.kept f (by simp));clear f A a6 L;obtain⟨kd,a3⟩:∃k,t.kind=k:=⟨_,rfl⟩;rw[a3]at a0 d ⊢;clear a3
   by_cases h1:kd=1
   ·have b1:(kd==1)=true:=by simp[h1]
    rw[b1,if_pos rfl]at d;clear h1;have m:=hid (dV h6)
    cases hnu:aO ts (i)with
    |error k =>
     rw[hnu]at m d;simp only[bnd]at d;subst d;go_wp2_with (go_at_call 233;refine m.out.mono ?_;unfold NumE;rintro e v ⟨⟨p,rfl⟩,f⟩);exact⟨rfl,⟨p,rfl⟩,l.out.trans f⟩
    |ok y =>
     obtain⟨n,j⟩:=y;have Q:=dh h6.ok hnu;rw[hnu]at m d;simp only[bnd]at d;subst d;go_wp2_with (go_at_call 233;refine m.out.mono ?_;unfold NumE;rintro e v ⟨rfl,f,U⟩;replace l:=hid (l.out.trans f);replace g:=hid (g.out.kept f (by simpa using r.out));have z0:v.cell? ⟨b,0,none⟩=some (.string ⟨#[]⟩):=g.out.cell 0;have z1:v.cell? ⟨b,1,none⟩=some (.int .i64 0):=g.out.cell 1;have y0:=g.out.frozen 0;have y1:=g.out.frozen 1;clear f);exact gU ((g.out.set_ 0 _).set_ 1 _) rfl rfl ⟨rfl,(l.out.setCell (Or.inr u.out) _).setCell (Or.inr u.out) _,(U.setNew o.out _).setNew o.out _,by constructor <;> simp only <;> omega,by simp⟩
   ·have b1:(kd==1)=false:=by simp[h1]
    rw[b1,if_neg (by simp)]at d;clear h1;have q:=hid (fX h6)
    cases hn:dH ts i with
    |error k =>
     rw[hn]at q d;simp only[bnd]at d;subst d;go_wp2_with (go_at_call 70;refine q.out.mono ?_;unfold jn;rintro e v ⟨⟨p,rfl⟩,f⟩);exact⟨rfl,⟨p,rfl⟩,l.out.trans f⟩
    |ok y =>
     obtain⟨x,j1⟩:=y;have a1:=ot hn;rw[hn]at q d;simp only[bnd]at d;go_upto_region 7 with(go_at_call 70;refine q.out.mono ?_;unfold jn;rintro e w7 ⟨rfl,f,h7⟩);replace l:=hid (l.out.trans f);replace g:=hid (g.out.kept f (by simpa using r.out));clear f;clear q a0;have J:=hid (bU h7 [46])
     cases hn2:bz ts [46] j1 with
     |error k =>
      rw[hn2]at J d
      simp only at d
      subst d;go_wp2_with (go_at_call 69;refine J.out.mono ?_;unfold cf;rintro e v ⟨⟨p,rfl⟩,f⟩);exact⟨rfl,⟨p,rfl⟩,l.out.trans f⟩
     |ok y =>
      obtain⟨u0,j2⟩:=y;rw[hn2]at J d
      simp only at d
      go_upto_region 8 with(go_at_call 69;refine J.out.mono ?_;unfold cf;rintro e w8 ⟨rfl,f,h8⟩);replace l:=hid (l.out.trans f);replace g:=hid (g.out.kept f (by simpa using r.out));clear f;clear J;have q:=hid (fX h8)
      cases hn3:dH ts j2 with
      |error k =>
       rw[hn3]at q d
       simp only at d
       subst d;go_wp2_with (go_at_call 70;refine q.out.mono ?_;unfold jn;rintro e v ⟨⟨p,rfl⟩,f⟩);exact⟨rfl,⟨p,rfl⟩,l.out.trans f⟩
      |ok y =>
       obtain⟨y,N⟩:=y;have Z:=ot hn3;rw[hn3]at q d
       simp only at d
       obtain⟨nm,C⟩:∃nm,x++46::y=nm:=⟨_,rfl⟩
       have P:nm.length<=41:=by rw[<-C,List.length_append,List.length_cons];omega
       have a5:(⟨#[46]⟩:ByteArray)++⟨y.toArray⟩=⟨(46::y).toArray⟩:=ByteArray.mk_append_mk [46] y;have a4:(⟨x.toArray⟩:ByteArray)++⟨(46::y).toArray⟩=⟨nm.toArray⟩:=C▸ByteArray.mk_append_mk x (46::y);rw[C]at d;have a8:=hid a5;have a7:=hid a4;clear C a5 a4
       have s1:¬(9223372036854775807:Int) < 1+(y.length:Int):=by omega
       have s2:¬(9223372036854775807:Int) < (x.length:Int)+(1+(y.length:Int)):=by omega
       go_upto_region 9 with(go_at_call 70;refine q.out.mono ?_;unfold jn;rintro e aa ⟨rfl,f,a9⟩);rw[a8.out,a7.out];clear a8 a7 s1 s2 a1 Z q;replace l:=hid (l.out.trans f);replace g:=hid (g.out.kept f (by simpa using r.out));clear f;have s:=hid (aQ a9 [43])
       cases hb2:aI ts [43] N
       ·rw[hb2]at s d;rw[if_neg (by simp)]at d;go_upto_region 11 with(go_at_call 115;refine s.out.mono ?_;rintro e O ⟨rfl,f,E⟩);have E:Ps B W0 rb ts a c z O N:=E;clear s;replace l:=hid (l.out.trans f);replace g:=hid (g.out.kept f (by simpa using r.out));clear f;have s:=hid (aQ E [45])
        cases hb3:aI ts [45] N
        ·rw[hb3]at s d;rw[if_neg (by simp)]at d;subst d;go_upto_region 13 with(go_at_call 115;refine s.out.mono ?_;rintro e G ⟨rfl,f,D⟩);have D:Ps B W0 rb ts a c z G N:=D;clear s;replace l:=hid (l.out.trans f);replace g:=hid (g.out.kept f (by simpa using r.out));clear f;have z0:G.cell? ⟨b,0,none⟩=some (.string ⟨#[]⟩):=g.out.cell 0;have z1:G.cell? ⟨b,1,none⟩=some (.int .i64 0):=g.out.cell 1;have y0:=g.out.frozen 0;have y1:=g.out.frozen 1;go_wp2_with fail;exact gU ((g.out.set_ 0 _).set_ 1 _) rfl rfl ⟨rfl,(l.out.setCell (Or.inr u.out) _).setCell (Or.inr u.out) _,(D.setNew o.out _).setNew o.out _,by constructor <;> simp only <;> omega,P⟩
        ·rw[hb3]at s d;rw[if_pos rfl]at d;go_upto_region 12 with(go_at_call 115;refine s.out.mono ?_;rintro e G ⟨rfl,f,D⟩);have D:Ps B W0 rb ts a c z G (N+1):=D;clear s;replace l:=hid (l.out.trans f);replace g:=hid (g.out.kept f (by simpa using r.out));clear f;have m:=hid (dV D)
         cases hnu:aO ts (N+1)with
         |error k =>
          rw[hnu]at m d
          simp only at d
          subst d;go_wp2_with (go_at_call 233;refine m.out.mono ?_;unfold NumE;rintro e v ⟨⟨p,rfl⟩,f⟩);exact⟨rfl,⟨p,rfl⟩,l.out.trans f⟩
         |ok y =>
          obtain⟨n,j⟩:=y;have Q:=dh D.ok hnu;rw[hnu]at m d
          simp only at d
          subst d;go_wp2_with (go_at_call 233;refine m.out.mono ?_;unfold NumE;rintro e v ⟨rfl,f,U⟩;replace l:=hid (l.out.trans f);replace g:=hid (g.out.kept f (by simpa using r.out));have z0:v.cell? ⟨b,0,none⟩=some (.string ⟨#[]⟩):=g.out.cell 0;have z1:v.cell? ⟨b,1,none⟩=some (.int .i64 0):=g.out.cell 1;have y0:=g.out.frozen 0;have y1:=g.out.frozen 1;clear f);exact gU ((g.out.set_ 0 _).set_ 1 _) rfl rfl ⟨rfl,(l.out.setCell (Or.inr u.out) _).setCell (Or.inr u.out) _,(U.setNew o.out _).setNew o.out _,by constructor <;> simp only <;> omega,P⟩
       ·rw[hb2]at s d;rw[if_pos rfl]at d;go_upto_region 10 with(go_at_call 115;refine s.out.mono ?_;rintro e O ⟨rfl,f,E⟩);have E:Ps B W0 rb ts a c z O (N+1):=E;clear s;replace l:=hid (l.out.trans f);replace g:=hid (g.out.kept f (by simpa using r.out));clear f;have m:=hid (dV E)
        cases hnu:aO ts (N+1)with
        |error k =>
         rw[hnu]at m d
         simp only at d
         subst d;go_wp2_with (go_at_call 233;refine m.out.mono ?_;unfold NumE;rintro e v ⟨⟨p,rfl⟩,f⟩);exact⟨rfl,⟨p,rfl⟩,l.out.trans f⟩
        |ok y =>
         obtain⟨n,j⟩:=y;have Q:=dh E.ok hnu;rw[hnu]at m d
         simp only at d
         subst d;go_wp2_with (go_at_call 233;refine m.out.mono ?_;unfold NumE;rintro e v ⟨rfl,f,U⟩;replace l:=hid (l.out.trans f);replace g:=hid (g.out.kept f (by simpa using r.out));have z0:v.cell? ⟨b,0,none⟩=some (.string ⟨#[]⟩):=g.out.cell 0;have z1:v.cell? ⟨b,1,none⟩=some (.int .i64 0):=g.out.cell 1;have y0:=g.out.frozen 0;have y1:=g.out.frozen 1;clear f);exact gU ((g.out.set_ 0 _).set_ 1 _) rfl rfl ⟨rfl,(l.out.setCell (Or.inr u.out) _).setCell (Or.inr u.out) _,(U.setNew o.out _).setNew o.out _,by constructor <;> simp only <;> omega,P⟩
 ·rw[hb]at HS d;rw[if_pos rfl]at d;go_upto_region 2 with(go_at_call 115;refine(HS.out).mono ?_;rintro e Y ⟨rfl,f,M⟩);have M:Ps B W0 rb ts a c z Y (i+1):=M;replace l:=hid (l.out.trans f);replace g:=hid (g.out.kept f (by simpa using r.out));clear f;have m:=hid (dV M)
  cases hnu:aO ts (i+1)with
  |error k =>
   rw[hnu]at m d;simp only[bnd]at d;subst d;go_wp2_with (go_at_call 233;refine m.out.mono ?_;unfold NumE;rintro e v ⟨⟨p,rfl⟩,f⟩);exact⟨rfl,⟨p,rfl⟩,l.out.trans f⟩
  |ok y =>
   obtain⟨n,j⟩:=y;have Q:=dh M.ok hnu;rw[hnu]at m d;simp only[bnd]at d;subst d;go_wp2_with (go_at_call 233;refine m.out.mono ?_;unfold NumE;rintro e v ⟨rfl,f,U⟩;replace l:=hid (l.out.trans f);replace g:=hid (g.out.kept f (by simpa using r.out));have z0:v.cell? ⟨b,0,none⟩=some (.string ⟨#[]⟩):=g.out.cell 0;have z1:v.cell? ⟨b,1,none⟩=some (.int .i64 0):=g.out.cell 1;have y0:=g.out.frozen 0;have y1:=g.out.frozen 1;clear f);exact gU ((g.out.set_ 0 _).set_ 1 _) rfl rfl ⟨rfl,(l.out.setCell (Or.inr u.out) _).setCell (Or.inr u.out) _,(U.setNew o.out _).setNew o.out _,by constructor <;> simp only <;> omega,by simp⟩
end Go.Proofs.YtpcmamoomaddoaaGreatDoor
namespace Go.Proofs.YtpcmamoomaddoaaGreatDoor
open Go.RowKit
open Go.Proofs.Tryz
mutual
/-- the five cells of a predicate -/
def PdR(w:World):List Value->Pd->Prop
 |cs,.node k l r c ks=>∃v vs,cs=[.int .i64 k,.string ⟨l.toArray⟩,.string ⟨r.toArray⟩,.int .i64 c,v]/\Row w 5 v ks.length vs.flatten/\PdL w vs ks
def PdL(w:World):List (List Value)->List Pd->Prop
 |vs,[]=>vs=[]
 |vs,p::l=>∃c vs',vs=c::vs'/\PdR w c p/\PdL w vs' l
end
theorem PdR.len{w:World}{cs:List Value}:∀ {p:Pd},PdR w cs p->cs.length=5
 | .node ..,h=>by
  rw[PdR]at h;obtain⟨v,vs,rfl,_⟩:=h
  rfl
theorem fY{w:World}:∀ {vs:List (List Value)} {l:List Pd},PdL w vs l↔fO PdR 5 vs l w
 |vs,[]=>by
  rw[PdL]
  constructor
  ·rintro rfl;exact fO.nil_ _ _ _
  ·rintro⟨h,_⟩;exact List.eq_nil_of_length_eq_zero h
 |vs,p::l=>by
  rw[PdL]
  constructor
  ·rintro⟨c,vs',rfl,h1,h2⟩;obtain⟨e1,e2,e3⟩:=fY.1 h2;refine⟨by simp[e1],fun x hx=>?_,fun k a ha=>?_⟩
   ·rcases List.mem_cons.1 hx with rfl|hx
    ·exact h1.len
    ·exact e2 x hx
   ·rcases k with _|k
    ·simp at ha;subst ha;exact⟨c,rfl,h1⟩
    ·exact e3 k a (by simpa using ha)
  ·rintro⟨e1,e2,e3⟩
   rcases vs with _|⟨c,vs'⟩
   ·simp at e1
   ·obtain⟨c',hc,hR⟩:=e3 0 p rfl;simp at hc;subst hc;refine⟨c,vs',rfl,hR,fY.2 ⟨by simpa using e1,fun x hx=>e2 x (by simp[hx]),fun k a ha=>?_⟩⟩;obtain⟨d,hd,hR⟩:=e3 (k+1) a (by simpa using ha);exact⟨d,by simpa using hd,hR⟩
mutual
theorem PdR.kept{w w':World}(k:Kept [] w w'):∀ {p:Pd} {cs:List Value},PdR w cs p->PdR w' cs p
 | .node ..,cs,h=>by
  rw[PdR]at h ⊢;obtain⟨v,vs,h1,h2,h3⟩:=h;exact⟨v,vs,h1,h2.kept k,PdL.kept k h3⟩
theorem PdL.kept{w w':World}(k:Kept [] w w'):∀ {l:List Pd} {vs:List (List Value)},PdL w vs l->PdL w' vs l
 | [],vs,h=>by rw[PdL]at h ⊢;exact h
 |p::l,vs,h=>by
  rw[PdL]at h ⊢;obtain⟨c,vs',h1,h2,h3⟩:=h;exact⟨c,vs',h1,PdR.kept k h2,PdL.kept k h3⟩
end
theorem PdR.rows{w:World}{cs:List Value}{k:Int}{l r:Bs}{c:Int}{ks:List Pd}(h:PdR w cs (.node k l r c ks)) :
  ∃a cc,cs=[.int .i64 k,.string ⟨l.toArray⟩,.string ⟨r.toArray⟩,.int .i64 c,.slice a ks.length cc]/\aj PdR 5 w (.slice a ks.length cc) ks:=by
 rw[PdR]at h;obtain⟨v,vs,h1,h2,h3⟩:=h;obtain⟨a,cc,rfl,_,_⟩:=h2.form;obtain⟨e1,e2,e3⟩:=fY.1 h3;exact⟨a,cc,h1,vs,e1,e2,e3,h2⟩
theorem PdR.of_rows{w:World}{k:Int}{l r:Bs}{c:Int}{ks:List Pd}{v:Value}(h:aj PdR 5 w v ks) :
  PdR w [.int .i64 k,.string ⟨l.toArray⟩,.string ⟨r.toArray⟩,.int .i64 c,v] (.node k l r c ks):=by
 obtain⟨vs,e1,e2,e3,h2⟩:=h;rw[PdR];exact⟨v,vs,rfl,h2,fY.2 ⟨e1,e2,e3⟩⟩
/-- a predicate by value whose memory is new since block B -/
def PdN(B:Nat)(w:World)(v:Value)(p:Pd):Prop:=∃cs,v=.agg cs.toArray/\aw (List.range B) (fun w=>PdR w cs p) w
section
variable {B:Nat} {w w':World} {v:Value} {p:Pd} {S:List Nat}
theorem aw.blk{X:List Nat}{g:Nat}{T:TypeId}{cs:Array Value}(h:Blk w g T cs)(hX:g∉X):aw X (fun w=>Blk w g T cs) w:=fun _ _ k hS=>h.kept k fun hm=>hX (hS g hm h.lt)
end
theorem PdN.atom(B:Nat)(w:World)(l r:Bs)(c:Int):PdN B w (.agg #[.int .i64 0,.string ⟨l.toArray⟩,.string ⟨r.toArray⟩,.int .i64 c,.slice none 0 0]) (.node 0 l r c []) := ⟨[.int .i64 0,.string ⟨l.toArray⟩,.string ⟨r.toArray⟩,.int .i64 c,.slice none 0 0],rfl,fun _ _ _ _=>PdR.of_rows (aj.nil_ _ _ _)⟩
theorem Blk.new1(w:World)(o:Obj)(T:TypeId)(a:Array Value):Blk ((w.alloc o).alloc (.cells a T)) (w.heap.size+1) T a:=by
 have:=Blk.new (w.alloc o) T a;rw[World.size_alloc]at this;exact this
theorem Blk.new2(w:World)(o p:Obj)(T:TypeId)(a:Array Value):Blk (((w.alloc o).alloc p).alloc (.cells a T)) (w.heap.size+1+1) T a:=by
 have:=Blk.new ((w.alloc o).alloc p) T a;rw[World.size_alloc,World.size_alloc]at this;exact this
theorem uQ{w2:World}{tmps:Array Value}{v0 v1 v2 v3 v4 X:Value}{b:Nat}{R:Ending->World->Prop}(hb:Blk w2 b 46 #[v0,v1,v2,v3,v4])(h2:tmps[6]?.getD undef=.pointer (some ⟨b,0,none⟩))
  (hX:.agg #[v0,v1,v2,v3,v4]=X) (hR:R (.returned X) w2) :
  bodyPost prog Tryz.f234 R Exit.ret { tmps:=tmps,defers:=[] } w2:=by
 subst hX;have c0:w2.cell? ⟨b,0,none⟩=some v0:=hb.cell 0;have c1:w2.cell? ⟨b,1,none⟩=some v1:=hb.cell 1;have c2:w2.cell? ⟨b,2,none⟩=some v2:=hb.cell 2;have c3:w2.cell? ⟨b,3,none⟩=some v3:=hb.cell 3;have c4:w2.cell? ⟨b,4,none⟩=some v4:=hb.cell 4;refine bodyPost_ret (v:=.agg #[v0,v1,v2,v3,v4]) ?_ rfl hR;simp only[results,results234]
 simp[go_sem,h2,c0,c1,c2,c3,c4]
theorem dA(a b:Sm)(n:Int)(w:World)(ha:SmI a)(hb:SmI b)(hn:0<=n/\n<=1) :
  Calls prog 234 #[.agg #[.string ⟨a.name.toArray⟩,.int .i64 a.off],.agg #[.string ⟨b.name.toArray⟩,.int .i64 b.off],.int .i64 n] w fun e w' =>
   e=.returned (.agg #[.int .i64 0,.string ⟨a.name.toArray⟩,.string ⟨b.name.toArray⟩,.int .i64 (b.off - a.off - n),.slice none 0 0])/\Kept [] w w':=by
 obtain⟨h1,h2⟩:=ha;obtain⟨h3,h4⟩:=hb;obtain⟨h5,h6⟩:=hn
 go_enter func234,ntmps234
 go_wp2_with fail;exact uQ (Blk.new2 _ _ _ _ _) rfl rfl ⟨rfl,(((Kept.refl _ _).alloc _).alloc _).alloc _⟩
end Go.Proofs.YtpcmamoomaddoaaGreatDoor
