import Derived.Test.YtcidfldeiklcjaaGreatDoorPfJ
import Derived.Test.YtcidfldeiklcjaaGreatDoorEtk
set_option maxRecDepth 100000
set_option maxHeartbeats 32000000
namespace Go.Proofs.YtcidfldeiklcjaaGreatDoor
open Go.RowKit Tape
open Go.Proofs.Tryz
open Lib(hid)
def dT:Tp:=⟨[],true⟩
def Stg{α:Type}(one:Tp->α × Tp)(r:Tp)(v:α)(r':Tp):Prop :=
 ((one r).2.bad=false/\v=(one r).1/\r'=(one r).2)\/((one r).2.bad=true/\r'=dT)
theorem Stg.bad{α:Type}{one:Tp->α × Tp}{r r':Tp}{v:α}(h:Stg one r v r')(hb:r'.bad=true):(one r).2.bad=true/\r'=dT:=by
 rcases h with⟨h1,_,h3⟩|⟨h1,h2⟩
 ·rw[h3,h1]at hb;cases hb
 ·exact⟨h1,h2⟩
theorem Stg.good{α:Type}{one:Tp->α × Tp}{r r':Tp}{v:α}(h:Stg one r v r')(hb:r'.bad=false):one r=(v,r'):=by
 rcases h with⟨_,h2,h3⟩|⟨_,h2⟩
 ·rw[h2,h3]
 ·rw[h2]at hb;cases hb
theorem nJ{α:Type}{enc:α->List Int}{one:Tp->α × Tp}(c:Codec enc one){r:Tp}(h:r.bad=true):(one r).2.bad=true:=by
 cases hb:(one r).2.bad
 ·have:=(c.inv r hb).1;rw[h]at this;cases this
 ·rfl
theorem Stg.both{α β:Type}{eb:β->List Int}{f:Tp->α × Tp}{g:Tp->β × Tp}(cb:Codec eb g){r r1 r2:Tp}{x:α}{y:β}(h1:Stg f r x r1)(h2:Stg g r1 y r2):Stg (Tape.both f g) r (x,y) r2:=by
 rcases h1 with⟨a1,a2,a3⟩|⟨a1,a2⟩
 ·subst a3
  rcases h2 with⟨b1,b2,b3⟩|⟨b1,b2⟩
  ·exact Or.inl ⟨b1,by rw[a2,b2];rfl,b3⟩
  ·exact Or.inr ⟨b1,b2⟩
 ·have hb:=nJ cb a1;subst a2
  rcases h2 with⟨b1,_,_⟩|⟨_,b2⟩
  ·rw[nJ cb (r:=dT) rfl]at b1;cases b1
  ·exact Or.inr ⟨hb,b2⟩
structure RwAt (T:TypeId) (w:World) (b g:Nat) (r:Tp):Prop where
 st:∃(a:Option Addr) (c:Nat) (xs:List Int) (p:Nat),Blk w b T #[.slice a xs.length c,.int .i64 (p:Int),.bool r.bad]/\Src w g a c xs/\p<=xs.length/\xs.length<=100000001/\(r.bad=false->r.left=xs.drop p)/\(r.bad=true->r.left=[])
 ne:b≠g
section
variable {T:TypeId} {w w':World} {b g:Nat} {r:Tp} {S:List Nat}
theorem RwAt.keep(h:RwAt T w b g r)(k:Kept S w w')(hb:b∉S)(hg:g∉S):RwAt T w' b g r:=by
 obtain⟨a,c,xs,p,h1,h2,h3⟩:=h.st;exact⟨⟨a,c,xs,p,h1.kept k hb,h2.keep k hg,h3⟩,h.ne⟩
theorem RwAt.lt(h:RwAt T w b g r):b < w.heap.size:=by
 obtain⟨a,c,xs,p,h1,_⟩:=h.st;exact h1.lt
theorem RwAt.len(h:RwAt T w b g r):r.left.length<=100000001:=by
 obtain⟨a,c,xs,p,_,_,_,h4,h5,h6⟩:=h.st
 cases hb:r.bad
 ·rw[h5 hb,List.length_drop];omega
 ·rw[h6 hb];simp
theorem RwAt.nil_(h:RwAt T w b g r)(hb:r.bad=true):r=dT:=by
 obtain⟨a,c,xs,p,_,_,_,_,_,h6⟩:=h.st;obtain⟨l,bd⟩:=r;have h7:l=[]:=h6 hb;have h8:bd=true:=hb;subst h7 h8
 rfl
end
def OneQ(T:TypeId)(b g:Nat)(r:Tp)(w:World)(e:Ending)(w':World):Prop:=∃v r',e=.returned (.int .i64 v)/\Stg next r v r'/\(r'.bad=true->v=0)/\RwAt T w' b g r'/\Kept [b] w w'
def oV(T:TypeId)(b g:Nat)(r:Tp)(w:World)(e:Ending)(w':World):Prop:=∃(v:Nat) (r':Tp),e=.returned (.int .i64 (v:Int))/\Stg count r v r'/\(r'.bad=true->v=0)/\v<=r'.left.length/\RwAt T w' b g r'/\Kept [b] w w'
theorem fK{x:Int}(h1:-9223372036854775808<=x)(h2:x<=9223372036854775807):IntKind.i64.wrap x=x:=by rw[IntKind.wrap_i64];omega
theorem eU(b g:Nat)(r:Tp)(w:World)(h:RwAt 233 w b g r) :
  Calls prog 224 #[.pointer (some ⟨b,0,none⟩)] w (OneQ 233 b g r w):=by
 obtain⟨⟨a,c,i,p,e,hs,G,D,I,hd⟩,u⟩:=h;obtain⟨l,T⟩:=r;obtain⟨f0,f1,f2⟩:=bf3 e
 have U:Hid (g∉[b]):=by show g∉[b];simp;omega
 have s:=hid e;have B:=hid hs;obtain⟨R,c1,c2⟩:=bc3 e rfl
 have d:Hid ((next ⟨l,T⟩).2.bad=true->∀y,Kept [] w y->OneQ 233 b g ⟨l,T⟩ w (.returned (.int .i64 0)) (y.setCell ⟨b,2,none⟩ (.bool true))):=fun h y f => ⟨0,dT,rfl,Or.inr ⟨h,rfl⟩,fun _=>rfl,⟨⟨a,c,i,p,by simpa [dT]using(s.out.kept f (by simp)).set_ 2 (.bool true),(B.out.keep f (by simp)).keep (S:=[b]) (kr.setCell (by simp) _) U.out,G,D,(by intro h;cases h),fun _=>rfl⟩,u⟩,(f.mono (by simp)).setCell (by simp) _⟩
 clear e hs
 cases T
 ·have E:l=i.drop p:=I rfl;clear I hd
  by_cases hlt:p < i.length
  ·have x:l=i[p]::i.drop (p+1):=by rw[E];exact List.drop_eq_getElem_cons hlt
   obtain⟨off,rfl,hc⟩:=B.out.2.2 (by omega);have C:w.cell? ⟨g,off+p,none⟩=some (.int .i64 i[p]):=hc p _ (List.getElem?_eq_getElem hlt)
   have j:Hid (∀y z,Kept [] w y->Kept [] (y.setCell ⟨b,1,none⟩ (.int .i64 ((p:Int)+1))) z->OneQ 233 b g ⟨l,false⟩ w (.returned (.int .i64 i[p])) z):=by
    intro y z f X;refine⟨i[p],⟨i.drop (p+1),false⟩,rfl,Or.inl ?_,(by intro h;cases h),RwAt.keep ⟨⟨_,c,i,p+1,?_,(B.out.keep f (by simp)).keep (S:=[b]) (kr.setCell (by simp) _) U.out,by omega,D,fun _=>rfl,(by intro h;cases h)⟩,u⟩ X (by simp) (by simp),((f.mono (by simp)).setCell (by simp) _).trans (X.mono (by simp))⟩
    ·rw[x];exact⟨rfl,rfl,rfl⟩
    ·simpa using(s.out.kept f (by simp)).set_ 1 (.int .i64 ((p:Int)+1))
   have a0:=hid (B.row);have J:=B.1;obtain⟨v,Z⟩:=nm (i[p]);obtain⟨L,A⟩:=nm i.length;rw[Z]at C j;rw[A]at R hlt J D G
   have e1:(p:Int)+1 - 1=(p:Int):=by omega
   have a1:¬(p:Int) >= (L:Int):=by omega
   have hq:decide ((L:Int)<=(p:Int))=false:=by simp;omega
   have HL:=hid A;clear d hc x E Z A
   go_enter func224,ntmps224
   go_upto_region 1 with(fail)
   go_quiet (fail)
   obtain⟨y,m⟩:=nm (w.drewN nq);have f:Kept [] w y:=m▸kr.drewN nq;rw[m];have e:=s.out.kept f (by simp);have F:=e.cell 0;have Q:=e.cell 1;have P:=e.cell 2;obtain⟨-,O,N⟩:=bf3 e;clear e m;rw[HL.out]at F;have V:=fun z (k:Kept [b] y z)=>(((f.mono (by simp)).trans k).cell (World.block_lt_of_cell? w _ C) U.out).trans C;go_upto_region 5 with(fail);obtain⟨t,n⟩:=nm (y.setCell ⟨b,1,none⟩ (.int .i64 ((p:Int)+1)));have Y:Kept [b] y t:=n▸kr.setCell (by simp) _;have q:Blk t b 233 #[.slice (some ⟨g,off,none⟩) i.length c,.int .i64 ((p:Int)+1),.bool false]:=n▸(by simpa using(s.out.kept f (by simp)).set_ 1 (.int .i64 ((p:Int)+1)));have e0:=q.cell 0;have e1':t.cell? ⟨b,1,none⟩=some (.int .i64 ((p:Int)+1)):=q.cell 1;replace e0:t.cell? ⟨b,0,none⟩=some (.slice (some ⟨g,off,none⟩) L c):=HL.out▸e0;have x2:=V t Y;have hG:=hid (fun z=>j.out y z f);rw[n]at hG ⊢;clear n q Y V F Q P O N R c1 c2 f0 f1 f2 C j
   go_quiet (fail)
   go_wp2;go_ret;exact hG.out _ (kr.drewN _)
  ·have h0:i.drop p=[]:=List.drop_eq_nil_of_le (by omega);have M:=hid (d.out (by rw[E,h0];rfl))
   generalize A:i.length=L at R hlt D G
   obtain rfl:p=L:=by omega
   have hq:decide ((p:Int)<=(p:Int))=true:=by simp
   clear d h0 E A
   go_enter func224,ntmps224
   go_upto_region 1 with(fail)
   go_quiet (fail)
   obtain⟨y,m⟩:=nm (w.drewN nq);have f:Kept [] w y:=m▸kr.drewN nq;rw[m];have e:=s.out.kept f (by simp);have F:=e.cell 0;have Q:=e.cell 1;have P:=e.cell 2;obtain⟨-,O,N⟩:=bf3 e;clear e m;go_wp2;go_ret;exact M.out y f
 ·have o:l=[]:=hd rfl;have M:=hid (d.out (by rw[o];rfl));clear d I hd o
  go_enter func224,ntmps224
  go_upto_region 1 with(fail)
  go_quiet (fail)
  obtain⟨y,m⟩:=nm (w.drewN nq);have f:Kept [] w y:=m▸kr.drewN nq;rw[m];have e:=s.out.kept f (by simp);have F:=e.cell 0;have Q:=e.cell 1;have P:=e.cell 2;obtain⟨-,O,N⟩:=bf3 e;clear e m;go_wp2;go_ret;exact M.out y f
theorem eE(b g:Nat)(r:Tp)(w:World)(h:RwAt 233 w b g r) :
  Calls prog 200 #[.pointer (some ⟨b,0,none⟩)] w (oV 233 b g r w):=by
 have V:=hid (eU b g r w h);clear h
 go_enter func200,ntmps200
 go_wp2_with (go_at_call 224;refine V.mono ?_);rintro e o ⟨n,r1,rfl,q,Z,E,Q⟩;have P:=hid E;obtain⟨⟨a,c,u,p,d,z,U,R,C,hd⟩,A⟩:=E;have B:=z.2.1
 have HN:Hid (g∉[b]):=by show g∉[b];simp;omega
 have x:=hid d;have HS:=hid z;have N:=hid Q;have f2:=d.frozen 2;obtain⟨c0,c1,c2⟩:=bc3 d rfl
 have m:Hid (r1.bad=true->Stg count r 0 r1):=fun hbd=>by
  obtain⟨Y,X⟩:=q.bad hbd;refine Or.inr ⟨?_,X⟩
  unfold count
  split
  ·rfl
  ·exact Y
 have k:Hid (r1.bad=false->(n < 0\/(u.length:Int) - p < n)->(count r).2.bad=true):=fun hbd hor=>by
  have D:=q.good hbd
  have h3:r1.left.length=u.length - p:=by rw[C hbd,List.length_drop]
  have t:=eO D
  rcases hor with h|h
  ·rw[t.1 h]
  ·by_cases v:n < 0
   ·rw[t.1 v]
   ·rw[t.2.1 (by omega) (by omega)]
 have l:Hid (r1.bad=false->0<=n->n<=(u.length:Int) - p->Stg count r n.toNat r1/\n.toNat<=r1.left.length):=fun hbd v E=>by
  have D:=q.good hbd
  have h3:r1.left.length=u.length - p:=by rw[C hbd,List.length_drop]
  have t:=(eO D).2.2 v (by omega);exact⟨Or.inl ⟨by rw[t];exact hbd,by rw[t],by rw[t]⟩,by omega⟩
 have f:Hid ((count r).2.bad=true->∀y,Kept [] o y->oV 233 b g r w (.returned (.int .i64 0)) (y.setCell ⟨b,2,none⟩ true)):=fun h y i => ⟨0,dT,rfl,Or.inr ⟨h,rfl⟩,fun _=>rfl,Nat.zero_le _,⟨⟨a,c,u,p,by simpa [dT]using(x.out.kept i (by simp)).set_ 2 true,(HS.out.keep i (by simp)).keep (S:=[b]) (kr.setCell (by simp) _) HN.out,U,R,(by intro h;cases h),fun _=>rfl⟩,A⟩,(N.out.trans (i.mono (by simp))).setCell (by simp) _⟩
 generalize hL:u.length=L at k l U R B c0
 clear d z V Q q C hd hL
 cases hbd:r1.bad
 ·by_cases hn:n < 0
  ·have s:=hid (f.out (k.out hbd (Or.inl hn)));clear k l m f;go_upto_region 2 with(fail)
   go_quiet (fail)
   obtain⟨y,j⟩:=nm (o.drewN nq);have i:Kept [] o y:=j▸kr.drewN nq;rw[j];have d:=x.out.kept i (by simp);have M:=d.cell 0;have J:=d.cell 1;have I:=d.cell 2;obtain⟨-,G,F⟩:=bf3 d;clear d j;go_wp2;go_ret;exact s.out y i
  ·by_cases hl:(L:Int) - (p:Int) < n
   ·have s:=hid (f.out (k.out hbd (Or.inr hl)));have T:IntKind.i64.wrap ((L:Int) - (p:Int))=(L:Int) - (p:Int):=fK (by omega) (by omega);clear k l m f;go_upto_region 2 with(fail)
    go_quiet (fail)
    obtain⟨y,j⟩:=nm (o.drewN nq);have i:Kept [] o y:=j▸kr.drewN nq;rw[j];have d:=x.out.kept i (by simp);have M:=d.cell 0;have J:=d.cell 1;have I:=d.cell 2;obtain⟨-,G,F⟩:=bf3 d;clear d j;go_wp2;go_ret;exact s.out y i
   ·have s:=hid (l.out hbd (by omega) (by omega));have T:IntKind.i64.wrap ((L:Int) - (p:Int))=(L:Int) - (p:Int):=fK (by omega) (by omega);have O:=hid hbd;clear k l m f hbd;go_upto_region 2 with(fail)
    go_quiet (fail)
    obtain⟨y,j⟩:=nm (o.drewN nq);have i:Kept [] o y:=j▸kr.drewN nq;rw[j];have d:=x.out.kept i (by simp);have M:=d.cell 0;have J:=d.cell 1;have I:=d.cell 2;obtain⟨-,G,F⟩:=bf3 d;clear d j;go_wp2;go_ret;refine⟨n.toNat,r1,(by show Ending.returned n=_;rw[Int.toNat_of_nonneg (by omega)]),s.out.1,fun h=>?_,s.out.2,P.out.keep i (by simp) (by simp),N.out.trans (i.mono (by simp))⟩;rw[O.out]at h
    cases h
 ·have v:=Z hbd;have s:=hid (m.out hbd);have a1:=P.nil_ hbd;have T:IntKind.i64.wrap ((L:Int) - (p:Int))=(L:Int) - (p:Int):=fK (by omega) (by omega);subst v
  have a0:¬(L:Int) - (p:Int) < 0:=by omega
  clear k l m f hbd;go_upto_region 2 with(fail)
  go_quiet (fail)
  obtain⟨y,j⟩:=nm (o.drewN nq);have i:Kept [] o y:=j▸kr.drewN nq;rw[j];have d:=x.out.kept i (by simp);have M:=d.cell 0;have J:=d.cell 1;have I:=d.cell 2;obtain⟨-,G,F⟩:=bf3 d;clear d j;go_wp2;go_ret;exact⟨0,r1,rfl,s.out,fun _=>rfl,Nat.zero_le _,P.out.keep i (by simp) (by simp),N.out.trans (i.mono (by simp))⟩
theorem rk(b g:Nat)(r:Tp)(w:World)(h:RwAt 247 w b g r) :
  Calls prog 223 #[.pointer (some ⟨b,0,none⟩)] w (OneQ 247 b g r w):=by
 obtain⟨⟨a,c,i,p,e,hs,G,D,I,hd⟩,u⟩:=h;obtain⟨l,T⟩:=r;obtain⟨f0,f1,f2⟩:=bf3 e
 have U:Hid (g∉[b]):=by show g∉[b];simp;omega
 have s:=hid e;have B:=hid hs;obtain⟨R,c1,c2⟩:=bc3 e rfl
 have d:Hid ((next ⟨l,T⟩).2.bad=true->∀y,Kept [] w y->OneQ 247 b g ⟨l,T⟩ w (.returned (.int .i64 0)) (y.setCell ⟨b,2,none⟩ (.bool true))):=fun h y f => ⟨0,dT,rfl,Or.inr ⟨h,rfl⟩,fun _=>rfl,⟨⟨a,c,i,p,by simpa [dT]using(s.out.kept f (by simp)).set_ 2 (.bool true),(B.out.keep f (by simp)).keep (S:=[b]) (kr.setCell (by simp) _) U.out,G,D,(by intro h;cases h),fun _=>rfl⟩,u⟩,(f.mono (by simp)).setCell (by simp) _⟩
 clear e hs
 cases T
 ·have E:l=i.drop p:=I rfl;clear I hd
  by_cases hlt:p < i.length
  ·have x:l=i[p]::i.drop (p+1):=by rw[E];exact List.drop_eq_getElem_cons hlt
   obtain⟨off,rfl,hc⟩:=B.out.2.2 (by omega);have C:w.cell? ⟨g,off+p,none⟩=some (.int .i64 i[p]):=hc p _ (List.getElem?_eq_getElem hlt)
   have j:Hid (∀y z,Kept [] w y->Kept [] (y.setCell ⟨b,1,none⟩ (.int .i64 ((p:Int)+1))) z->OneQ 247 b g ⟨l,false⟩ w (.returned (.int .i64 i[p])) z):=by
    intro y z f X;refine⟨i[p],⟨i.drop (p+1),false⟩,rfl,Or.inl ?_,(by intro h;cases h),RwAt.keep ⟨⟨_,c,i,p+1,?_,(B.out.keep f (by simp)).keep (S:=[b]) (kr.setCell (by simp) _) U.out,by omega,D,fun _=>rfl,(by intro h;cases h)⟩,u⟩ X (by simp) (by simp),((f.mono (by simp)).setCell (by simp) _).trans (X.mono (by simp))⟩
    ·rw[x];exact⟨rfl,rfl,rfl⟩
    ·simpa using(s.out.kept f (by simp)).set_ 1 (.int .i64 ((p:Int)+1))
   have a0:=hid (B.row);have J:=B.1;obtain⟨v,Z⟩:=nm (i[p]);obtain⟨L,A⟩:=nm i.length;rw[Z]at C j;rw[A]at R hlt J D G
   have e1:(p:Int)+1 - 1=(p:Int):=by omega
   have a1:¬(p:Int) >= (L:Int):=by omega
   have hq:decide ((L:Int)<=(p:Int))=false:=by simp;omega
   have HL:=hid A;clear d hc x E Z A
   go_enter func223,ntmps223
   go_upto_region 1 with(fail)
   go_quiet (fail)
   obtain⟨y,m⟩:=nm (w.drewN nq);have f:Kept [] w y:=m▸kr.drewN nq;rw[m];have e:=s.out.kept f (by simp);have F:=e.cell 0;have Q:=e.cell 1;have P:=e.cell 2;obtain⟨-,O,N⟩:=bf3 e;clear e m;rw[HL.out]at F;have V:=fun z (k:Kept [b] y z)=>(((f.mono (by simp)).trans k).cell (World.block_lt_of_cell? w _ C) U.out).trans C;go_upto_region 5 with(fail);obtain⟨t,n⟩:=nm (y.setCell ⟨b,1,none⟩ (.int .i64 ((p:Int)+1)));have Y:Kept [b] y t:=n▸kr.setCell (by simp) _;have q:Blk t b 247 #[.slice (some ⟨g,off,none⟩) i.length c,.int .i64 ((p:Int)+1),.bool false]:=n▸(by simpa using(s.out.kept f (by simp)).set_ 1 (.int .i64 ((p:Int)+1)));have e0:=q.cell 0;have e1':t.cell? ⟨b,1,none⟩=some (.int .i64 ((p:Int)+1)):=q.cell 1;replace e0:t.cell? ⟨b,0,none⟩=some (.slice (some ⟨g,off,none⟩) L c):=HL.out▸e0;have x2:=V t Y;have hG:=hid (fun z=>j.out y z f);rw[n]at hG ⊢;clear n q Y V F Q P O N R c1 c2 f0 f1 f2 C j
   go_quiet (fail)
   go_wp2;go_ret;exact hG.out _ (kr.drewN _)
  ·have h0:i.drop p=[]:=List.drop_eq_nil_of_le (by omega);have M:=hid (d.out (by rw[E,h0];rfl))
   generalize A:i.length=L at R hlt D G
   obtain rfl:p=L:=by omega
   have hq:decide ((p:Int)<=(p:Int))=true:=by simp
   clear d h0 E A
   go_enter func223,ntmps223
   go_upto_region 1 with(fail)
   go_quiet (fail)
   obtain⟨y,m⟩:=nm (w.drewN nq);have f:Kept [] w y:=m▸kr.drewN nq;rw[m];have e:=s.out.kept f (by simp);have F:=e.cell 0;have Q:=e.cell 1;have P:=e.cell 2;obtain⟨-,O,N⟩:=bf3 e;clear e m;go_wp2;go_ret;exact M.out y f
 ·have o:l=[]:=hd rfl;have M:=hid (d.out (by rw[o];rfl));clear d I hd o
  go_enter func223,ntmps223
  go_upto_region 1 with(fail)
  go_quiet (fail)
  obtain⟨y,m⟩:=nm (w.drewN nq);have f:Kept [] w y:=m▸kr.drewN nq;rw[m];have e:=s.out.kept f (by simp);have F:=e.cell 0;have Q:=e.cell 1;have P:=e.cell 2;obtain⟨-,O,N⟩:=bf3 e;clear e m;go_wp2;go_ret;exact M.out y f
theorem lG(b g:Nat)(r:Tp)(w:World)(h:RwAt 247 w b g r) :
  Calls prog 222 #[.pointer (some ⟨b,0,none⟩)] w (oV 247 b g r w):=by
 have V:=hid (rk b g r w h);clear h
 go_enter func222,ntmps222
 go_wp2_with (go_at_call 223;refine V.mono ?_);rintro e o ⟨n,r1,rfl,q,Z,E,Q⟩;have P:=hid E;obtain⟨⟨a,c,u,p,d,z,U,R,C,hd⟩,A⟩:=E;have B:=z.2.1
 have HN:Hid (g∉[b]):=by show g∉[b];simp;omega
 have x:=hid d;have HS:=hid z;have N:=hid Q;have f2:=d.frozen 2;obtain⟨c0,c1,c2⟩:=bc3 d rfl
 have m:Hid (r1.bad=true->Stg count r 0 r1):=fun hbd=>by
  obtain⟨Y,X⟩:=q.bad hbd;refine Or.inr ⟨?_,X⟩
  unfold count
  split
  ·rfl
  ·exact Y
 have k:Hid (r1.bad=false->(n < 0\/(u.length:Int) - p < n)->(count r).2.bad=true):=fun hbd hor=>by
  have D:=q.good hbd
  have h3:r1.left.length=u.length - p:=by rw[C hbd,List.length_drop]
  have t:=eO D
  rcases hor with h|h
  ·rw[t.1 h]
  ·by_cases v:n < 0
   ·rw[t.1 v]
   ·rw[t.2.1 (by omega) (by omega)]
 have l:Hid (r1.bad=false->0<=n->n<=(u.length:Int) - p->Stg count r n.toNat r1/\n.toNat<=r1.left.length):=fun hbd v E=>by
  have D:=q.good hbd
  have h3:r1.left.length=u.length - p:=by rw[C hbd,List.length_drop]
  have t:=(eO D).2.2 v (by omega);exact⟨Or.inl ⟨by rw[t];exact hbd,by rw[t],by rw[t]⟩,by omega⟩
 have f:Hid ((count r).2.bad=true->∀y,Kept [] o y->oV 247 b g r w (.returned (.int .i64 0)) (y.setCell ⟨b,2,none⟩ true)):=fun h y i => ⟨0,dT,rfl,Or.inr ⟨h,rfl⟩,fun _=>rfl,Nat.zero_le _,⟨⟨a,c,u,p,by simpa [dT]using(x.out.kept i (by simp)).set_ 2 true,(HS.out.keep i (by simp)).keep (S:=[b]) (kr.setCell (by simp) _) HN.out,U,R,(by intro h;cases h),fun _=>rfl⟩,A⟩,(N.out.trans (i.mono (by simp))).setCell (by simp) _⟩
 generalize hL:u.length=L at k l U R B c0
 clear d z V Q q C hd hL
 cases hbd:r1.bad
 ·by_cases hn:n < 0
  ·have s:=hid (f.out (k.out hbd (Or.inl hn)));clear k l m f;go_upto_region 2 with(fail)
   go_quiet (fail)
   obtain⟨y,j⟩:=nm (o.drewN nq);have i:Kept [] o y:=j▸kr.drewN nq;rw[j];have d:=x.out.kept i (by simp);have M:=d.cell 0;have J:=d.cell 1;have I:=d.cell 2;obtain⟨-,G,F⟩:=bf3 d;clear d j;go_wp2;go_ret;exact s.out y i
  ·by_cases hl:(L:Int) - (p:Int) < n
   ·have s:=hid (f.out (k.out hbd (Or.inr hl)));have T:IntKind.i64.wrap ((L:Int) - (p:Int))=(L:Int) - (p:Int):=fK (by omega) (by omega);clear k l m f;go_upto_region 2 with(fail)
    go_quiet (fail)
    obtain⟨y,j⟩:=nm (o.drewN nq);have i:Kept [] o y:=j▸kr.drewN nq;rw[j];have d:=x.out.kept i (by simp);have M:=d.cell 0;have J:=d.cell 1;have I:=d.cell 2;obtain⟨-,G,F⟩:=bf3 d;clear d j;go_wp2;go_ret;exact s.out y i
   ·have s:=hid (l.out hbd (by omega) (by omega));have T:IntKind.i64.wrap ((L:Int) - (p:Int))=(L:Int) - (p:Int):=fK (by omega) (by omega);have O:=hid hbd;clear k l m f hbd;go_upto_region 2 with(fail)
    go_quiet (fail)
    obtain⟨y,j⟩:=nm (o.drewN nq);have i:Kept [] o y:=j▸kr.drewN nq;rw[j];have d:=x.out.kept i (by simp);have M:=d.cell 0;have J:=d.cell 1;have I:=d.cell 2;obtain⟨-,G,F⟩:=bf3 d;clear d j;go_wp2;go_ret;refine⟨n.toNat,r1,(by show Ending.returned n=_;rw[Int.toNat_of_nonneg (by omega)]),s.out.1,fun h=>?_,s.out.2,P.out.keep i (by simp) (by simp),N.out.trans (i.mono (by simp))⟩;rw[O.out]at h
    cases h
 ·have v:=Z hbd;have s:=hid (m.out hbd);have a1:=P.nil_ hbd;have T:IntKind.i64.wrap ((L:Int) - (p:Int))=(L:Int) - (p:Int):=fK (by omega) (by omega);subst v
  have a0:¬(L:Int) - (p:Int) < 0:=by omega
  clear k l m f hbd;go_upto_region 2 with(fail)
  go_quiet (fail)
  obtain⟨y,j⟩:=nm (o.drewN nq);have i:Kept [] o y:=j▸kr.drewN nq;rw[j];have d:=x.out.kept i (by simp);have M:=d.cell 0;have J:=d.cell 1;have I:=d.cell 2;obtain⟨-,G,F⟩:=bf3 d;clear d j;go_wp2;go_ret;exact⟨0,r1,rfl,s.out,fun _=>rfl,Nat.zero_le _,P.out.keep i (by simp) (by simp),N.out.trans (i.mono (by simp))⟩
def xG(b g:Nat)(r:Tp)(w:World)(e:Ending)(w':World):Prop :=
 ∃l r' a c,e=.returned (.slice a l.length c)/\w'.ownsRow w.heap.size 3 1 (.slice a l.length c) l.length (ints l)/\Stg list r l r'/\l.length<=100000001/\RwAt 233 w' b g r'/\Kept [b] w w'
theorem gT(b g:Nat)(r:Tp)(w:World)(h:RwAt 233 w b g r)(hgl:g < w.heap.size) :
  Calls prog 203 #[.pointer (some ⟨b,0,none⟩)] w (xG b g r w):=by
 have HC:=hid (eE b g r w h);have a3:=h.lt;have a2:=h.ne;clear h
 go_enter func203,ntmps203
 go_wp2_with (go_at_call 200;refine HC.mono ?_);rintro e w1 ⟨n,r1,rfl,A,i,B,R,M⟩;have C:=R.len;have H1:=hid R;have K1:=hid M;have V:=hid A;have a1:=M.size;obtain⟨l,F⟩:=r1;replace B:n<=l.length:=B;replace C:l.length<=100000001:=C;replace i:F=true->n=0:=i
 have N:Hid (0 < n->F=false):=fun h=>by cases F;rfl;have:=i rfl;omega
 clear R M A i HC;go_wp2_with fail
 go_loopw [4,5] (fun vo vi wr=>∃(k:Nat) (a:Option Addr) (c:Nat),k<=n/\vi=k/\vo=.slice a k c/\wr.ownsRow w.heap.size 3 1 (.slice a k c) k (ints (l.take k))/\RwAt 233 wr b g ⟨l.drop k,F⟩/\Kept [b] w wr) (fun _ vi _=>n - (intOf vi).toNat)
 case atStart=>exact⟨0,none,0,Nat.zero_le _,rfl,rfl,by simpa [ints]using World.ownsRow_nil _ _ _ _,by simpa using H1.out,K1.out⟩
 case round =>
  obtain⟨k,a,c,hk,rfl,rfl,j,hr,p⟩:=hrel;have Y:=hid j;have X:=hid hr;have HK:=hid p;have a0:=p.size;clear j hr p
  by_cases hkn:k < n
  ·have Q:=N.out (by omega);subst Q
   have D:k < l.length:=by omega
   have q:l.drop k=l[k]::l.drop (k+1):=List.drop_eq_getElem_cons D;have y:l.take (k+1)=l.take k++[l[k]]:=List.take_succ_eq_append_getElem D;have s:=hid (eU b g _ wr X);rw[q]at s;have G:=hid y;have I:=hid q;clear q y X;go_wp2_with (go_at_call 224;refine s.mono ?_);rintro e w3 ⟨v,r3,rfl,o,_,h3,J⟩;have U:=hid (af Y.out J (fun z i hm=>by have:=ak Y.out z i;rw[List.mem_singleton]at hm;omega));have Z:=J.size;go_wp2_with (at_builtin;(refine aE rfl _ _ rfl w.heap.size (.slice a k c) k (l.take k) rfl (af U.out ((Kept.refl [] _).alloc _) (by simp)) _ 1 [v] rfl (Row.one1 _ _) (by omega) (by simp only[World.size_alloc];omega) ?_));intro a4 c4 w4 f L T
   have O:Hid (v=l[k]/\r3=⟨l.drop (k+1),false⟩):=by
    try rw[I.out]at o
    rcases o with⟨_,u,t⟩|⟨x,_⟩
    ·exact⟨u,t⟩
    ·cases x
   have d:=ak U.out;have h4:=hid ((h3.keep ((Kept.refl [] w3).alloc _) (by simp) (by simp)).keep L (fun hm=>by have:=d _ hm;omega) (fun hm=>by have:=d _ hm;omega));have P:Kept [b] w w4:=((HK.trans J).alloc _).fresh L (fun z i=>(d z i).1);rw[O.out.2]at h4;rw[O.out.1,<-G.out]at f;clear o h3 J L T d U O G s I;go_wp2
   go_roundw
   case rel=>exact⟨k+1,a4,c4,by omega,by go_num,rfl,f,h4.out,P⟩
   case measure=>simp[intOf];omega
  ·obtain rfl:k=n:=by omega
   have m:(l.take k).length=k:=by rw[List.length_take];omega
   have E:Hid (xG b g r w (.returned (.slice a k c)) wr):=by
    refine⟨l.take k,⟨l.drop k,F⟩,a,c,by rw[m],by rw[m];exact Y.out,?_,by omega,X.out,HK.out⟩
    rcases V with⟨x,u,t⟩|⟨x,u⟩
    ·refine Or.inl ⟨x,?_,?_⟩
     ·unfold list;rw[<-u,<-t]
     ·unfold list;rw[<-u,<-t]
    ·obtain⟨t,x4⟩:=Tp.mk.inj u;subst t x4;exact Or.inr ⟨x,by simp[dT]⟩
   clear m;go_wp2;go_ret;exact E.out
def ze(b g:Nat)(r:Tp)(w:World)(e:Ending)(w':World):Prop :=
 ∃t1 t2 t3 t4 t5 t6 r',e=.returned (.agg #[.int .i64 t1,.int .i64 t2,.int .i64 t3,.int .i64 t4,.int .i64 t5,.int .i64 t6])/\Stg tick r (t1,t2,t3,t4,t5,t6) r'/\RwAt 233 w' b g r'/\Kept [b] w w'
theorem mT(b g:Nat)(r:Tp)(w:World)(h:RwAt 233 w b g r)(hgl:g < w.heap.size) :
  Calls prog 201 #[.pointer (some ⟨b,0,none⟩)] w (ze b g r w):=by
 have Y:=h.lt;have a1:=h.ne;obtain⟨R,C⟩:=nm w.heap.size;obtain⟨W,B⟩:=nm (w.alloc (.cells #[.int .i64 0,.int .i64 0,.int .i64 0,.int .i64 0,.int .i64 0,.int .i64 0] 178))
 have z:Blk W R 178 #[.int .i64 0,.int .i64 0,.int .i64 0,.int .i64 0,.int .i64 0,.int .i64 0]:=by rw[<-C,<-B];exact Blk.new _ _ _
 have t:=ka (S:=[]) B
 have X:W.heap.size=R+1:=by rw[<-B,<-C];simp
 obtain⟨T,a⟩:=nm (W.alloc (.cells #[.int .i64 0,.int .i64 0,.int .i64 0,.int .i64 0,.int .i64 0,.int .i64 0] 178));obtain⟨V,Z⟩:=nm W.heap.size
 have A:Blk T V 178 #[.int .i64 0,.int .i64 0,.int .i64 0,.int .i64 0,.int .i64 0,.int .i64 0]:=by rw[<-Z,<-a];exact Blk.new _ _ _
 have L:Kept [] W T:=a▸kr.alloc _;have B0:=hid A;have C0:=hid (z.kept L (by simp));have K0:Hid (Kept [b] w T):=(t.trans L).mono (by simp);have Q0:=hid (h.keep (t.trans L) (by simp) (by simp));have HW:=hid B;have HU:=hid a;rw[C]at Y hgl
 have a0:Hid (V=R+1):=by show _=_;omega
 have a2:R < V:=by omega
 have k:=hid C;have HV:=hid Z;clear B a z A t L h X Z C
 go_enter func201,ntmps201
 go_upto_region 2 with(fail);rw[HW.out,HU.out,k.out,show R+1=V from a0.out.symm];have J:=hid (eU b g r T Q0.out);go_upto_region 3 with(go_at_call 224;refine J.out.mono ?_;rintro e w1 ⟨j,s1,rfl,c,_,i,d⟩;have f:=B0.out.kept d (by simp;omega);have x0:=f.cell 0;have y0:=f.frozen 0);obtain⟨Q,a⟩:=nm (w1.setCell ⟨V,0,none⟩ (.int .i64 j))
 have B1:Hid (Blk Q V 178 #[.int .i64 j,.int .i64 0,.int .i64 0,.int .i64 0,.int .i64 0,.int .i64 0]):=by show Blk _ _ _ _;have:=f.set_ 0 (.int .i64 j);rw[a]at this;simpa using this
 have C1:=hid (a▸(C0.out.kept d (by simp;omega)).kept (S:=[V]) (kr.setCell (by simp) _) (by simp;omega));have K1:Hid (Kept [b] w Q):=a▸(K0.out.trans d).setCell (Or.inr (by have:=k.out;show w.heap.size<=V;omega)) _;have Q1:Hid (RwAt 233 Q b g s1):=a▸i.keep (S:=[V]) (kr.setCell (by simp) _) (by simp;omega) (by simp;omega);have S1:=hid c;rw[a];clear a f x0 y0 i d c B0 C0 K0 Q0 J;have I:=hid (eU b g s1 Q Q1.out);go_upto_region 4 with(go_at_call 224;refine I.out.mono ?_;rintro e w2 ⟨m,s2,rfl,c,_,i,d⟩;have f:=B1.out.kept d (by simp;omega);have x1:=f.cell 1;have y1:=f.frozen 1);obtain⟨P,a⟩:=nm (w2.setCell ⟨V,1,none⟩ m)
 have B2:Hid (Blk P V 178 #[j,m,.int .i64 0,.int .i64 0,.int .i64 0,.int .i64 0]):=by show Blk _ _ _ _;have:=f.set_ 1 m;rw[a]at this;simpa using this
 have C2:=hid (a▸(C1.out.kept d (by simp;omega)).kept (S:=[V]) (kr.setCell (by simp) _) (by simp;omega));have K2:Hid (Kept [b] w P):=a▸(K1.out.trans d).setCell (Or.inr (by have:=k.out;show w.heap.size<=V;omega)) _;have Q2:Hid (RwAt 233 P b g s2):=a▸i.keep (S:=[V]) (kr.setCell (by simp) _) (by simp;omega) (by simp;omega);have S2:=hid c;rw[a];clear a f x1 y1 i d c B1 C1 K1 Q1 I;have G:=hid (eU b g s2 P Q2.out);go_upto_region 5 with(go_at_call 224;refine G.out.mono ?_;rintro e w3 ⟨n,s3,rfl,c,_,i,d⟩;have f:=B2.out.kept d (by simp;omega);have x2:=f.cell 2;have y2:=f.frozen 2);obtain⟨O,a⟩:=nm (w3.setCell ⟨V,2,none⟩ n)
 have B3:Hid (Blk O V 178 #[j,m,n,.int .i64 0,.int .i64 0,.int .i64 0]):=by show Blk _ _ _ _;have:=f.set_ 2 n;rw[a]at this;simpa using this
 have C3:=hid (a▸(C2.out.kept d (by simp;omega)).kept (S:=[V]) (kr.setCell (by simp) _) (by simp;omega));have K3:Hid (Kept [b] w O):=a▸(K2.out.trans d).setCell (Or.inr (by have:=k.out;show w.heap.size<=V;omega)) _;have Q3:Hid (RwAt 233 O b g s3):=a▸i.keep (S:=[V]) (kr.setCell (by simp) _) (by simp;omega) (by simp;omega);have S3:=hid c;rw[a];clear a f x2 y2 i d c B2 C2 K2 Q2 G;have F:=hid (eU b g s3 O Q3.out);go_upto_region 6 with(go_at_call 224;refine F.out.mono ?_;rintro e w4 ⟨o,s4,rfl,c,_,i,d⟩;have f:=B3.out.kept d (by simp;omega);have x3:=f.cell 3;have y3:=f.frozen 3);obtain⟨N,a⟩:=nm (w4.setCell ⟨V,3,none⟩ o)
 have B4:Hid (Blk N V 178 #[j,m,n,o,.int .i64 0,.int .i64 0]):=by show Blk _ _ _ _;have:=f.set_ 3 o;rw[a]at this;simpa using this
 have C4:=hid (a▸(C3.out.kept d (by simp;omega)).kept (S:=[V]) (kr.setCell (by simp) _) (by simp;omega));have K4:Hid (Kept [b] w N):=a▸(K3.out.trans d).setCell (Or.inr (by have:=k.out;show w.heap.size<=V;omega)) _;have Q4:Hid (RwAt 233 N b g s4):=a▸i.keep (S:=[V]) (kr.setCell (by simp) _) (by simp;omega) (by simp;omega);have S4:=hid c;rw[a];clear a f x3 y3 i d c B3 C3 K3 Q3 F;have E:=hid (eU b g s4 N Q4.out);go_upto_region 7 with(go_at_call 224;refine E.out.mono ?_;rintro e w5 ⟨p,s5,rfl,c,_,i,d⟩;have f:=B4.out.kept d (by simp;omega);have x4:=f.cell 4;have y4:=f.frozen 4);obtain⟨M,a⟩:=nm (w5.setCell ⟨V,4,none⟩ p)
 have B5:Hid (Blk M V 178 #[j,m,n,o,p,.int .i64 0]):=by show Blk _ _ _ _;have:=f.set_ 4 p;rw[a]at this;simpa using this
 have C5:=hid (a▸(C4.out.kept d (by simp;omega)).kept (S:=[V]) (kr.setCell (by simp) _) (by simp;omega));have K5:Hid (Kept [b] w M):=a▸(K4.out.trans d).setCell (Or.inr (by have:=k.out;show w.heap.size<=V;omega)) _;have Q5:Hid (RwAt 233 M b g s5):=a▸i.keep (S:=[V]) (kr.setCell (by simp) _) (by simp;omega) (by simp;omega);have S5:=hid c;rw[a];clear a f x4 y4 i d c B4 C4 K4 Q4 E;have D:=hid (eU b g s5 M Q5.out);go_upto_region 8 with(go_at_call 224;refine D.out.mono ?_;rintro e w6 ⟨s,s6,rfl,c,_,i,d⟩;have f:=B5.out.kept d (by simp;omega);have x5:=f.cell 5;have y5:=f.frozen 5);obtain⟨u,a⟩:=nm (w6.setCell ⟨V,5,none⟩ s)
 have y:Hid (Blk u V 178 #[j,m,n,o,p,s]):=by show Blk _ _ _ _;have:=f.set_ 5 s;rw[a]at this;simpa using this
 have l:=hid (a▸(C5.out.kept d (by simp;omega)).kept (S:=[V]) (kr.setCell (by simp) _) (by simp;omega));have K6:Hid (Kept [b] w u):=a▸(K5.out.trans d).setCell (Or.inr (by have:=k.out;show w.heap.size<=V;omega)) _;have Q6:Hid (RwAt 233 u b g s6):=a▸i.keep (S:=[V]) (kr.setCell (by simp) _) (by simp;omega) (by simp;omega);have S6:=hid c;rw[a];clear a f x5 y5 i d c B5 C5 K5 Q5 D;have b0:=y.out.cell 0;have c0:=l.out.cell 0;have f0:=l.out.frozen 0;have b1:=y.out.cell 1;have c1:=l.out.cell 1;have f1:=l.out.frozen 1;have b2:=y.out.cell 2;have c2:=l.out.cell 2;have f2:=l.out.frozen 2;have b3:=y.out.cell 3;have c3:=l.out.cell 3;have f3:=l.out.frozen 3;have b4:=y.out.cell 4;have c4:=l.out.cell 4;have f4:=l.out.frozen 4;have b5:=y.out.cell 5;have c5:=l.out.cell 5;have f5:=l.out.frozen 5;have HS:=hid ((Stg.both (au aB (au aB (au aB (au aB aB)))) S1.out (Stg.both (au aB (au aB (au aB aB))) S2.out (Stg.both (au aB (au aB aB)) S3.out (Stg.both (au aB aB) S4.out (Stg.both aB S5.out S6.out))))));clear S1 S2 S3 S4 S5 S6;go_wp2_with fail;obtain⟨U,q⟩:=nm (((((((u.setCell ⟨R,0,none⟩ j).setCell ⟨R,1,none⟩ m).setCell ⟨R,2,none⟩ n).setCell ⟨R,3,none⟩ o).setCell ⟨R,4,none⟩ p).setCell ⟨R,5,none⟩ s));have kf:Kept [R] u U:=q▸(((((((Kept.refl [R] u).setCell (by simp) _).setCell (by simp) _).setCell (by simp) _).setCell (by simp) _).setCell (by simp) _).setCell (by simp) _)
 have d:Kept [b] w U:=q▸((((((K6.out.setCell (Or.inr (by have:=k.out;show w.heap.size<=R;omega)) _).setCell (Or.inr (by have:=k.out;show w.heap.size<=R;omega)) _).setCell (Or.inr (by have:=k.out;show w.heap.size<=R;omega)) _).setCell (Or.inr (by have:=k.out;show w.heap.size<=R;omega)) _).setCell (Or.inr (by have:=k.out;show w.heap.size<=R;omega)) _).setCell (Or.inr (by have:=k.out;show w.heap.size<=R;omega)) _)
 have x:Blk U R 178 #[j,m,n,o,p,s]:=by have:=((((((l.out.set_ 0 j).set_ 1 m).set_ 2 n).set_ 3 o).set_ 4 p).set_ 5 s);rw[q]at this;simpa using this
 have z0:=x.cell 0;have z1:=x.cell 1;have z2:=x.cell 2;have z3:=x.cell 3;have z4:=x.cell 4;have z5:=x.cell 5;rw[q];refine bodyPost_ret (v:=.agg #[j,m,n,o,p,s]) (by simp[results,results201,go_sem,z0,z1,z2,z3,z4,z5]) rfl ?_;exact⟨j,m,n,o,p,s,s6,rfl,HS.out,Q6.out.keep kf (by simp;omega) (by simp;omega),d⟩
def zg(b g:Nat)(r:Tp)(w:World)(e:Ending)(w':World):Prop :=
 ∃d l r' a c,e=.returned (.agg #[.int .i64 d,.slice a l.length c])/\w'.ownsRow w.heap.size 3 1 (.slice a l.length c) l.length (ints l)/\Stg spnd r (d,l) r'/\l.length<=100000001/\RwAt 233 w' b g r'/\Kept [b] w w'
theorem pQ(b g:Nat)(r:Tp)(w:World)(h:RwAt 233 w b g r)(hgl:g < w.heap.size) :
  Calls prog 202 #[.pointer (some ⟨b,0,none⟩)] w (zg b g r w):=by
 have J:=h.lt;have a1:=h.ne;obtain⟨R,x⟩:=nm w.heap.size;obtain⟨W,u⟩:=nm (w.alloc (.cells #[.int .i64 0,()] 181))
 have s:Blk W R 181 #[.int .i64 0,()]:=by rw[<-x,<-u];exact Blk.new _ _ _
 have o:=ka (S:=[]) u
 have I:W.heap.size=R+1:=by rw[<-u,<-x];simp
 obtain⟨B,d⟩:=nm (W.alloc (.cells #[.int .i64 0,()] 181));obtain⟨V,M⟩:=nm W.heap.size
 have t:Blk B V 181 #[.int .i64 0,()]:=by rw[<-M,<-d];exact Blk.new _ _ _
 have E:Kept [] W B:=d▸kr.alloc _;have P:=hid t;have C0:=hid (s.kept E (by simp));have K0:Hid (Kept [b] w B):=(o.trans E).mono (by simp);have Q0:=hid (h.keep (o.trans E) (by simp) (by simp));have HW:=hid u;have HU:=hid d;have a0:V < B.heap.size:=P.out.lt;rw[x]at J hgl
 have N:Hid (V=R+1):=by show _=_;omega
 have a2:R < V:=by omega
 have p:=hid x;have HV:=hid M;clear u d s t o E h I M x
 go_enter func202,ntmps202
 go_upto_region 2 with(fail);rw[HW.out,HU.out,p.out,show R+1=V from N.out.symm];have D:=hid (eU b g r B Q0.out);go_upto_region 3 with(go_at_call 224;refine D.out.mono ?_;rintro e w1 ⟨j,T,rfl,i,_,q,f⟩;have m:=P.out.kept f (by simp;omega);have x0:=m.cell 0;have y0:=m.frozen 0);obtain⟨A,d⟩:=nm (w1.setCell ⟨V,0,none⟩ (.int .i64 j))
 have O:Hid (Blk A V 181 #[.int .i64 j,.slice none 0 0]):=by show Blk _ _ _ _;have:=m.set_ 0 (.int .i64 j);rw[d]at this;simpa using this
 have C1:=hid (d▸(C0.out.kept f (by simp;omega)).kept (S:=[V]) (kr.setCell (by simp) _) (by simp;omega));have K1:Hid (Kept [b] w A):=d▸(K0.out.trans f).setCell (Or.inr (by have:=p.out;show w.heap.size<=V;omega)) _;have Z:Hid (RwAt 233 A b g T):=d▸q.keep (S:=[V]) (kr.setCell (by simp) _) (by simp;omega) (by simp;omega);have Y:=hid i;have X:V < A.heap.size:=O.out.lt;rw[d];clear d m x0 y0 q f i P C0 K0 Q0 D;have C:=hid (gT b g T A Z.out (by omega));go_upto_region 4 with(go_at_call 203;refine C.out.mono ?_;rintro e w2 ⟨l,Q,a,c,rfl,n,i,L,q,f⟩;have m:=O.out.kept f (by simp;omega);have x1:=m.cell 1;have y1:=m.frozen 1);obtain⟨y,d⟩:=nm (w2.setCell ⟨V,1,none⟩ (.slice a l.length c))
 have B2:Hid (Blk y V 181 #[j,.slice a l.length c]):=by show Blk _ _ _ _;have:=m.set_ 1 (.slice a l.length c);rw[d]at this;simpa using this
 have F:=hid (d▸(C1.out.kept f (by simp;omega)).kept (S:=[V]) (kr.setCell (by simp) _) (by simp;omega));have K2:Hid (Kept [b] w y):=d▸(K1.out.trans f).setCell (Or.inr (by have:=p.out;show w.heap.size<=V;omega)) _;have Q2:Hid (RwAt 233 y b g Q):=d▸q.keep (S:=[V]) (kr.setCell (by simp) _) (by simp;omega) (by simp;omega);have O2:=hid (d▸af n (S:=[V]) (kr.setCell (by simp) _) (fun z hz hm=>by have:=ak n z hz;rw[List.mem_singleton]at hm;omega));have HS:=hid (Stg.both az Y.out i);rw[d];clear d m x1 y1 q f i O C1 K1 Z C n Y;have b0:=B2.out.cell 0;have b1:=B2.out.cell 1;have c0:=F.out.cell 0;have c1:=F.out.cell 1;obtain⟨f0,f1⟩:=bf2 F.out;go_wp2_with fail;obtain⟨G,k⟩:=nm ((y.setCell ⟨R,0,none⟩ j).setCell ⟨R,1,none⟩ (.slice a l.length c));have U:Kept [R] y G:=k▸(kr.setCell (by simp) _).setCell (by simp) _;have f:Kept [b] w G:=k▸(K2.out.setCell (Or.inr (by have:=p.out;show w.heap.size<=R;omega)) _).setCell (Or.inr (by have:=p.out;show w.heap.size<=R;omega)) _
 have BB:Blk G R 181 #[j,.slice a l.length c]:=by have:=(F.out.set_ 0 j).set_ 1 (.slice a l.length c);rw[k]at this;simpa using this
 have z0:=BB.cell 0;have z1:=BB.cell 1;rw[k];refine bodyPost_ret (v:=.agg #[j,.slice a l.length c]) (by simp[results,results202,go_sem,z0,z1]) rfl ?_;refine⟨j,l,Q,a,c,rfl,gY (af O2.out U (fun z hz hm=>by have:=ak O2.out z hz;rw[List.mem_singleton]at hm;omega)) (by have:=p.out;omega),HS.out,L,Q2.out.keep U (by simp;omega) (by simp;omega),f⟩
end Go.Proofs.YtcidfldeiklcjaaGreatDoor
