import Derived.Test.YtpcmamoomaddoaaGreatDoorAdd
set_option maxRecDepth 100000
set_option maxHeartbeats 32000000
namespace Go.Proofs.YtpcmamoomaddoaaGreatDoor
open Go.RowKit
open Go.Proofs.Tryz
open Lib(hid)
def bK(p:Pss):Bool:=decide (p.name.length<=30)&&decide (p.attrs.length<=8)&&p.attrs.all fun a=>decide (a.length<=30)
def eb(l:List Pss):Bool:=decide (l.length<=18)&&l.all bK
def cP(l:List Iss)(m:Nat):Bool:=decide (l.length<=m)&&l.all fun x=>decide (x.attrs.length<=9)
def dk(x:Sgt):Bool:=decide (x.q.length<=300)&&decide (x.passes.length<=3)&&decide (x.rev.length<=18)&&decide (x.links.length<=3)&&x.passes.all bK
def cO(l:List Sgt)(m:Nat):Bool:=decide (l.length<=m)&&l.all dk
def LnR(_:World)(c:List Value)(n:Nat):Prop:=∃a cc,c=[.slice a n cc]/\n<=9223372036854775807
def IsSl(v:Value):Prop:=∃a n c,v=.slice a n c
def IsPf(v u:Value):Prop:=IsSl v/\IsSl u
def SgtR(w:World)(c:List Value)(x:Sgt):Prop:=∃ver vp vr da qu ju k0 k1 vl k3 k4 k5 k6 k7 k8,
 c=[.int .i64 ver,.string ⟨x.q.toArray⟩,vp,.int .i64 x.most,vr,.int .i64 da,.int .i64 qu,.int .i64 ju,k0,k1,vl,k3,k4,k5,k6,k7,k8,.int .i64 x.holder]/\aj PssR 4 w vp x.passes/\Row w 1 vr x.rev.length (ints x.rev)/\aj LnR 1 w vl x.links/\(IsSl k0/\IsSl k1/\IsSl k3/\IsSl k4/\IsSl k5/\IsSl k6/\IsPf k7 k8)
theorem SgtR.kept{w w':World}{c:List Value}{x:Sgt}(h:SgtR w c x)(k:Kept [] w w'):SgtR w' c x:=by
 obtain⟨ver,vp,vr,da,qu,ju,k0,k1,vl,k3,k4,k5,k6,k7,k8,h1,h2,h3,h4,h5⟩:=h;exact⟨ver,vp,vr,da,qu,ju,k0,k1,vl,k3,k4,k5,k6,k7,k8,h1,h2.kept (fun _ _ h=>PssR.kept h k) k,h3.kept k,aj.kept (w':=w') h4 (fun _ _ h=>h) k,h5⟩
theorem ck{α:Type}{f:α->Bool}{l:List α}{j:Nat}{x:α}(h:l[j]?=some x)(hf:f x=false):l.all f=false:=by
 cases h1:l.all f with
 |false=>rfl
 |true=>rw[List.all_eq_true.1 h1 x (List.mem_of_getElem? h)]at hf;cases hf
theorem fL{α:Type}{f:α->Bool}{l:List α}{j:Nat}{x:α}(h:l[j]?=some x)(ht:(l.take j).all f=true)(hf:f x=true):(l.take (j+1)).all f=true:=by
 rw[List.take_succ_eq_append_getElem (List.getElem?_eq_some_iff.1 h).1,(List.getElem?_eq_some_iff.1 h).2,List.all_append,ht]
 simp[hf]
theorem fM{α:Type}{f:α->Bool}{l:List α}{j:Nat}(hj:l.length<=j)(ht:(l.take j).all f=true):l.all f=true:=by
 rwa [List.take_of_length_le hj]at ht
theorem jh{w:World}{cs:List Value}{p:Pss}(hp:PssR w cs p) :
  Calls prog 27 #[.agg cs.toArray] w fun e w'=>e=.returned (.bool (bK p))/\Kept [] w w':=by
 obtain⟨V,F,rfl,h,_⟩:=hp;obtain⟨a,c,rfl,u,_⟩:=h.form;obtain⟨R,r⟩:∃R,bK p=R:=⟨_,rfl⟩;rw[r]
 unfold bK at r
 obtain⟨f,I,k,Y⟩:=p
 dsimp only at h u r ⊢
 obtain⟨n,C⟩:∃n,k.length=n:=⟨_,rfl⟩;rw[C]at h u r ⊢;obtain⟨W,z⟩:∃W,w.alloc (.cells #[.string ⟨f.toArray⟩,.int .i64 I,.slice a n c,F] 36)=W:=⟨_,rfl⟩;have q:Kept [] w W:=z▸(Kept.refl _ _).alloc _;have L:Blk W w.heap.size 36 #[.string ⟨f.toArray⟩,.int .i64 I,.slice a n c,F]:=z▸Blk.new _ _ _;have H:=hid (h.kept q);have T:=hid L;have t:=hid q;have N:=hid z;have s:=hid r;have O:=hid C;clear z q L r C h
 go_enter func27,ntmps27
 go_upto_region 1 with(fail);have hW':=N.out;rw[hW'];clear hW' N;go_wp2_with fail
 go_loopw [3] (fun v wr=>∃j:Nat,j<=n/\j<=9/\v=.int .i64 j/\Kept [] W wr/\(k.take j).all (fun a=>decide (a.length<=30))=true) (fun v _=>n - (intOf v).toNat)
 case atStart=>exact⟨0,Nat.zero_le _,Nat.zero_le _,rfl,Kept.refl _ _,by simp⟩
 case round =>
  obtain⟨j,X,Q,rfl,i,m⟩:=hrel;have d:=hid i;have o:=hid m;have E:=T.out.kept i (by simp);have Z:wr.cell? ⟨w.heap.size,2,none⟩=some (.slice a n c):=E.cell 2;have d0:wr.cell? ⟨w.heap.size,0,none⟩=some (.string ⟨f.toArray⟩):=E.cell 0;have g:=H.out.kept i;clear m i E
  by_cases hlt:j < n
  ·have hlt':(j:Int) < (n:Int):=by omega
   by_cases h8:j<=8
   ·have h8':(j:Int)<=8:=by omega
    obtain⟨b,A,rfl,J⟩:=g.at_ (by omega)
    have D:j < k.length:=by have:=O.out;omega
    obtain⟨x,B⟩:∃x,k[j]?=some x:=⟨_,List.getElem?_eq_getElem D⟩;have U:wr.cell? ⟨b,A+j,none⟩=some (.string ⟨x.toArray⟩):=J j _ (by simp[strs,B]);have M:=hid B
    have G:(⟨x.toArray⟩:ByteArray).size=x.length:=by simp[ByteArray.size]
    clear J B g
    by_cases h30:x.length<=30
    ·have h30':¬(30:Int) < (x.length:Int):=by omega
     go_wp2_with fail
     go_roundw
     case rel=>exact⟨j+1,by omega,by omega,by go_num,d.out,fL M.out o.out (decide_eq_true h30)⟩
     case measure=>simp[intOf];omega
    ·have h30':(30:Int) < (x.length:Int):=by omega
     go_wp2_with fail;go_ret;refine⟨?_,t.out.trans d.out⟩;rw[<-s.out,ck M.out (decide_eq_false h30),Bool.and_false]
     rfl
   ·have h8':¬(j:Int)<=8:=by omega
    have G:(⟨f.toArray⟩:ByteArray).size=f.length:=by simp[ByteArray.size]
    have P:¬(n:Int)<=8:=by omega
    clear g
    by_cases hm:f.length<=30
    ·have hm':(f.length:Int)<=30:=by omega
     go_wp2_with fail;go_ret;refine⟨?_,t.out.trans d.out⟩;rw[<-s.out,decide_eq_false (show ¬n<=8 by omega),Bool.and_false,Bool.false_and]
     rfl
    ·have hm':¬(f.length:Int)<=30:=by omega
     go_wp2_with fail;go_ret;refine⟨?_,t.out.trans d.out⟩;rw[<-s.out,decide_eq_false hm,Bool.false_and,Bool.false_and]
     rfl
  ·obtain rfl:j=n:=by omega
   have G:(⟨f.toArray⟩:ByteArray).size=f.length:=by simp[ByteArray.size]
   have l:=fM (by have:=O.out;omega) o.out;have y:=hid l;clear g l
   by_cases hm:f.length<=30
   ·have hm':(f.length:Int)<=30:=by omega
    by_cases h8:j<=8
    ·have h8':(j:Int)<=8:=by omega
     go_wp2_with fail;go_ret;refine⟨?_,t.out.trans d.out⟩;rw[<-s.out,decide_eq_true hm,decide_eq_true h8,y.out]
     rfl
    ·have h8':¬(j:Int)<=8:=by omega
     go_wp2_with fail;go_ret;refine⟨?_,t.out.trans d.out⟩;rw[<-s.out,decide_eq_false h8,Bool.and_false,Bool.false_and]
     rfl
   ·have hm':¬(f.length:Int)<=30:=by omega
    go_wp2_with fail;go_ret;refine⟨?_,t.out.trans d.out⟩;rw[<-s.out,decide_eq_false hm,Bool.false_and,Bool.false_and]
    rfl
theorem ji{w:World}{v:Value}{l:List Pss}(h:aj PssR 4 w v l) :
  Calls prog 8 #[v] w fun e w'=>e=.returned (.bool (eb l))/\Kept [] w w':=by
 obtain⟨a,c,rfl,D,_⟩:=h.form;obtain⟨R,s⟩:∃R,eb l=R:=⟨_,rfl⟩;rw[s]
 unfold eb at s
 obtain⟨n,C⟩:∃n,l.length=n:=⟨_,rfl⟩;rw[C]at h D s ⊢;have H:=hid h;have y:=hid s;have E:=hid C;clear s C h
 go_enter func8,ntmps8
 go_wp2_with fail
 go_loopw [3] (fun v wr=>∃j:Nat,j<=n/\j<=19/\v=.int .i64 j/\Kept [] w wr/\(l.take j).all bK=true) (fun v _=>n - (intOf v).toNat)
 case atStart=>exact⟨0,Nat.zero_le _,Nat.zero_le _,rfl,Kept.refl _ _,by simp⟩
 case round =>
  obtain⟨j,hj,T,rfl,i,m⟩:=hrel;have d:=hid i;have o:=hid m;have g:=H.out.kept (fun _ _ h=>PssR.kept h i) i;clear m i
  by_cases hlt:j < n
  ·have hlt':(j:Int) < (n:Int):=by omega
   by_cases h18:j<=18
   ·have h18':(j:Int)<=18:=by omega
    obtain⟨b,f,rfl,I⟩:=g.at_ (by have:=E.out;omega);obtain⟨p,B⟩:∃a,l[j]?=some a:=⟨_,List.getElem?_eq_getElem (by have:=E.out;omega)⟩;obtain⟨cs,Q,F,q⟩:=I j p B;have L:=hid B;have x:=jh F;obtain⟨r,A⟩:∃r,bK p=r:=⟨_,rfl⟩;rw[A]at x;have t:=hid A;obtain⟨Z,N,rfl,J,_⟩:=F;obtain⟨P,O,rfl,_,_⟩:=J.form;have Y:wr.cell? ⟨b,f+j*4,none⟩=some (.string ⟨p.name.toArray⟩):=q 0 _ (by decide) rfl;have X:wr.cell? ⟨b,f+j*4+1,none⟩=some (.int .i64 p.pub):=q 1 _ (by decide) rfl;have V:wr.cell? ⟨b,f+j*4+2,none⟩=some (.slice P p.attrs.length O):=q 2 _ (by decide) rfl;have U:wr.cell? ⟨b,f+j*4+3,none⟩=some N:=q 3 _ (by decide) rfl;have x:=hid x;clear I B A g J Q q
    cases r
    ·go_wp2_with (go_at_call 27;refine x.out.mono ?_;rintro e M ⟨rfl,z⟩);go_ret;refine⟨?_,d.out.trans z⟩;rw[<-y.out,ck L.out t.out,Bool.and_false]
     rfl
    ·go_wp2_with (go_at_call 27;refine x.out.mono ?_;rintro e M ⟨rfl,z⟩)
     go_roundw
     case rel=>exact⟨j+1,by omega,by omega,by go_num,d.out.trans z,fL L.out o.out t.out⟩
     case measure=>simp[intOf];omega
   ·have h18':¬(j:Int)<=18:=by omega
    have G:¬(n:Int)<=18:=by omega
    clear g;go_wp2_with fail;go_ret;refine⟨?_,d.out⟩;rw[<-y.out,decide_eq_false (show ¬n<=18 by omega),Bool.false_and]
    rfl
  ·obtain rfl:j=n:=by omega
   have k:=fM (by have:=E.out;omega) o.out;have u:=hid k;clear g k
   by_cases h18:j<=18
   ·have h18':(j:Int)<=18:=by omega
    go_wp2_with fail;go_ret;refine⟨?_,d.out⟩;rw[<-y.out,decide_eq_true h18,u.out]
    rfl
   ·have h18':¬(j:Int)<=18:=by omega
    go_wp2_with fail;go_ret;refine⟨?_,d.out⟩;rw[<-y.out,decide_eq_false h18,Bool.false_and]
    rfl
theorem gw{w:World}{v:Value}{l:List Iss}(m:Nat)(hm:m<=1000)(h:aj IssR 7 w v l) :
  Calls prog 9 #[v,.int .i64 (m:Int)] w fun e w'=>e=.returned (.bool (cP l m))/\Kept [] w w':=by
 obtain⟨a,c,rfl,B,_⟩:=h.form;obtain⟨R,r⟩:∃R,cP l m=R:=⟨_,rfl⟩;rw[r]
 unfold cP at r
 obtain⟨n,A⟩:∃n,l.length=n:=⟨_,rfl⟩;rw[A]at h B r ⊢;have H:=hid h;have t:=hid r;have C:=hid A;clear r A h
 go_enter func9,ntmps9
 go_wp2_with fail
 go_loopw [5] (fun v wr=>∃j:Nat,j<=n/\j<=m+1/\v=.int .i64 j/\Kept [] w wr/\(l.take j).all (fun x=>decide (x.attrs.length<=9))=true) (fun v _=>n - (intOf v).toNat)
 case atStart=>exact⟨0,Nat.zero_le _,Nat.zero_le _,rfl,Kept.refl _ _,by simp⟩
 case round =>
  obtain⟨j,hj,Q,rfl,g,k⟩:=hrel;have d:=hid g;have o:=hid k;have f:=H.out.kept (fun _ _ h=>IssR.kept h g) g;clear k g
  by_cases hlt:j < n
  ·have hlt':(j:Int) < (n:Int):=by omega
   by_cases h18:j<=m
   ·have h18':(j:Int)<=(m:Int):=by omega
    obtain⟨b,u,rfl,F⟩:=f.at_ (by have:=C.out;omega);obtain⟨x,z⟩:∃a,l[j]?=some a:=⟨_,List.getElem?_eq_getElem (by have:=C.out;omega)⟩;obtain⟨cs,P,O,D⟩:=F j x z;have J:=hid z;obtain⟨T,Z,Y,X,V,U,rfl,G⟩:=O;obtain⟨N,M,rfl,p,_⟩:=G.form;have L:wr.cell? ⟨b,u+j*7+1,none⟩=some (.slice N x.attrs.length M):=D 1 _ (by decide) rfl;obtain⟨q,y⟩:∃q,x.attrs.length=q:=⟨_,rfl⟩;have I:=hid y;rw[y]at L p;clear F z f G P D y
    by_cases h9:q<=9
    ·have h9':¬(9:Int) < (q:Int):=by omega
     go_wp2_with fail
     go_roundw
     case rel=>exact⟨j+1,by omega,by omega,by go_num,d.out,fL J.out o.out (decide_eq_true (by rw[I.out];exact h9))⟩
     case measure=>simp[intOf];omega
    ·have h9':(9:Int) < (q:Int):=by omega
     go_wp2_with fail;go_ret;refine⟨?_,d.out⟩;rw[<-t.out,ck J.out (decide_eq_false (by rw[I.out];exact h9)),Bool.and_false]
     rfl
   ·have h18':¬(j:Int)<=(m:Int):=by omega
    have E:¬(n:Int)<=(m:Int):=by omega
    clear f;go_wp2_with fail;go_ret;refine⟨?_,d.out⟩;rw[<-t.out,decide_eq_false (show ¬n<=m by omega),Bool.false_and]
    rfl
  ·obtain rfl:j=n:=by omega
   have i:=fM (by have:=C.out;omega) o.out;have s:=hid i;clear f i
   by_cases h18:j<=m
   ·have h18':(j:Int)<=(m:Int):=by omega
    go_wp2_with fail;go_ret;refine⟨?_,d.out⟩;rw[<-t.out,decide_eq_true h18,s.out]
    rfl
   ·have h18':¬(j:Int)<=(m:Int):=by omega
    go_wp2_with fail;go_ret;refine⟨?_,d.out⟩;rw[<-t.out,decide_eq_false h18,Bool.false_and]
    rfl
theorem gv{w:World}{v:Value}{l:List Sgt}(m:Nat)(hm:m<=1000)(h:aj SgtR 18 w v l) :
  Calls prog 10 #[v,.int .i64 (m:Int)] w fun e w'=>e=.returned (.bool (cO l m))/\Kept [] w w':=by
 obtain⟨a,c,rfl,au,_⟩:=h.form;obtain⟨R,hR⟩:∃R,cO l m=R:=⟨_,rfl⟩;rw[hR]
 unfold cO at hR
 obtain⟨n,hn⟩:∃n,l.length=n:=⟨_,rfl⟩;rw[hn]at h au hR ⊢;have H:=hid h;have Q:=hid hR;have HN:=hid hn;clear hR hn h
 go_enter func10,ntmps10
 go_wp2_with fail
 go_loopw [5] (fun v wr=>∃j:Nat,j<=n/\j<=m+1/\v=.int .i64 j/\Kept [] w wr/\(l.take j).all dk=true) (fun v _=>n - (intOf v).toNat)
 case atStart=>exact⟨0,Nat.zero_le _,Nat.zero_le _,rfl,Kept.refl _ _,by simp⟩
 case round =>
  obtain⟨j,hj,b1,rfl,I,t⟩:=hrel;have J:=hid I;have T:=hid t;have G:=H.out.kept (fun _ _ h=>SgtR.kept h I) I;clear t I
  by_cases hlt:j < n
  ·have hlt':(j:Int) < (n:Int):=by omega
   by_cases h18:j<=m
   ·have h18':(j:Int)<=(m:Int):=by omega
    obtain⟨b,d,rfl,hc⟩:=G.at_ (by have:=HN.out;omega);obtain⟨x,hp⟩:∃a,l[j]?=some a:=⟨_,List.getElem?_eq_getElem (by have:=HN.out;omega)⟩;obtain⟨cs,p1,p2,o⟩:=hc j x hp;have HP:=hid hp;obtain⟨X,vp,vr,da,qu,ju,k0,k1,vl,k3,k4,k5,k6,k7,k8,rfl,P,h2,h3,_⟩:=p2;obtain⟨pa,pc,rfl,N,_⟩:=P.form;obtain⟨ra,rc,rfl,M,_⟩:=h2.form;obtain⟨la,lc,rfl,O,_⟩:=aj.form h3
    have i:¬x.q.length<=300\/¬x.passes.length<=3\/¬x.rev.length<=18\/¬x.links.length<=3\/x.passes.all bK=false->dk x=false:=fun h=>by
     unfold dk
     rcases h with h|h|h|h|h
     ·rw[decide_eq_false h];simp
     ·rw[decide_eq_false h];simp
     ·rw[decide_eq_false h];simp
     ·rw[decide_eq_false h];simp
     ·rw[h];simp
    have f:x.q.length<=300->x.passes.length<=3->x.rev.length<=18->x.links.length<=3->x.passes.all bK=true->dk x=true:=fun a1 a2 a3 a4 a5=>by
     unfold dk
     rw[decide_eq_true a1,decide_eq_true a2,decide_eq_true a3,decide_eq_true a4,a5]
     rfl
    obtain⟨q,B,ps,aq,Z,av⟩:=x
    dsimp only at P h2 h3 N M O i f o
    obtain⟨y,a7⟩:∃n,ps.length=n:=⟨_,rfl⟩;obtain⟨L,ac⟩:∃n,aq.length=n:=⟨_,rfl⟩;obtain⟨ln,ad⟩:∃n,Z.length=n:=⟨_,rfl⟩;obtain⟨Y,a6⟩:∃n,q.length=n:=⟨_,rfl⟩;rw[a7]at P o i f N;rw[ac]at o i f M;rw[ad]at o i f O;rw[a6]at i f
    have sz:(⟨q.toArray⟩:ByteArray).size=Y:=by simp[ByteArray.size,a6]
    have y0:wr.cell? ⟨b,d+j*18,none⟩=some (.int .i64 X):=o 0 _ (by decide) rfl;have y1:wr.cell? ⟨b,d+j*18+1,none⟩=some (.string ⟨q.toArray⟩):=o 1 _ (by decide) rfl;have y2:wr.cell? ⟨b,d+j*18+2,none⟩=some (.slice pa y pc):=o 2 _ (by decide) rfl;have y3:wr.cell? ⟨b,d+j*18+3,none⟩=some (.int .i64 B):=o 3 _ (by decide) rfl;have y4:wr.cell? ⟨b,d+j*18+4,none⟩=some (.slice ra L rc):=o 4 _ (by decide) rfl;have y5:wr.cell? ⟨b,d+j*18+5,none⟩=some (.int .i64 da):=o 5 _ (by decide) rfl;have y6:wr.cell? ⟨b,d+j*18+6,none⟩=some (.int .i64 qu):=o 6 _ (by decide) rfl;have y7:wr.cell? ⟨b,d+j*18+7,none⟩=some (.int .i64 ju):=o 7 _ (by decide) rfl;have ab:wr.cell? ⟨b,d+j*18+10,none⟩=some (.slice la ln lc):=o 10 _ (by decide) rfl;obtain⟨V,F⟩:∃x,wr.alloc (.cells #[.int .i64 X,.string ⟨q.toArray⟩,.slice pa y pc,.int .i64 B,.slice ra L rc,.int .i64 da,.int .i64 qu,.int .i64 ju] 50)=x:=⟨_,rfl⟩;have kA:Kept [] wr V:=F▸(Kept.refl _ _).alloc _;have D:Blk V wr.heap.size 50 #[.int .i64 X,.string ⟨q.toArray⟩,.slice pa y pc,.int .i64 B,.slice ra L rc,.int .i64 da,.int .i64 qu,.int .i64 ju]:=F▸Blk.new _ _ _;have z1:V.cell? ⟨wr.heap.size,1,none⟩=some (.string ⟨q.toArray⟩):=D.cell 1;have z2:V.cell? ⟨wr.heap.size,2,none⟩=some (.slice pa y pc):=D.cell 2;have z4:V.cell? ⟨wr.heap.size,4,none⟩=some (.slice ra L rc):=D.cell 4;have ap:V.cell? ⟨b,d+j*18+10,none⟩=some (.slice la ln lc):=Kept.cellOf ab _ kA;have H1:=hid (P.kept (fun _ _ h=>PssR.kept h kA) kA)
    have ao:=hid D;have z:=hid F;have A:=hid (J.out.trans kA);have u:=hid i;have aa:=hid f;have a8:=hid a7;clear hc hp G P h2 h3 p1 o i f a7 ac ad a6 F kA D ab
    by_cases n1:Y<=300
    ·by_cases n2:y<=3
     ·by_cases n3:L<=18
      ·by_cases n4:ln<=3
       ·have f1:¬(300:Int) < (Y:Int):=by omega
        have f2:¬(3:Int) < (y:Int):=by omega
        have f3:¬(18:Int) < (L:Int):=by omega
        have f4:¬(3:Int) < (ln:Int):=by omega
        go_upto_region 5 with(fail);have hwA':=z.out;rw[hwA'];clear hwA';go_wp2_with fail;clear z1 z2 z4 ap y0 y1 y2 y3 y4 y5 y6 y7 f1 f2 f3 f4;obtain⟨g,hg⟩:∃g,wr.heap.size=g:=⟨_,rfl⟩;rw[hg]at ao ⊢;clear hg z
        go_loopw [7] (fun v wi=>∃k:Nat,k<=y/\v=.int .i64 k/\Kept [] V wi/\(ps.take k).all bK=true) (fun v _=>y - (intOf v).toNat)
        case atStart=>exact⟨0,Nat.zero_le _,rfl,Kept.refl _ _,by simp⟩
        case round =>
         obtain⟨k,hk,rfl,C,t⟩:=hrel;have a9:=hid C;have U:=hid t;have af:=ao.out.kept C (by simp);have z2:wr.cell? ⟨g,2,none⟩=some (.slice pa y pc):=af.cell 2;have a0:=H1.out.kept (fun _ _ h=>PssR.kept h C) C;clear t C af
         by_cases hlk:k < y
         ·have hlk':(k:Int) < (y:Int):=by omega
          obtain⟨b,d,rfl,hc⟩:=a0.at_ (by have:=a8.out;omega);obtain⟨p,hp⟩:∃a,ps[k]?=some a:=⟨_,List.getElem?_eq_getElem (by have:=a8.out;omega)⟩;obtain⟨cs,p1,p2,o⟩:=hc k p hp;have an:=hid hp;have FP:=jh p2;obtain⟨r,hr⟩:∃r,bK p=r:=⟨_,rfl⟩;rw[hr]at FP;have ag:=hid hr;obtain⟨va,vg,rfl,P,_⟩:=p2;obtain⟨qa,qc,rfl,_,_⟩:=P.form;have y0:wr.cell? ⟨b,d+k*4,none⟩=some (.string ⟨p.name.toArray⟩):=o 0 _ (by decide) rfl;have y1:wr.cell? ⟨b,d+k*4+1,none⟩=some (.int .i64 p.pub):=o 1 _ (by decide) rfl;have y2:wr.cell? ⟨b,d+k*4+2,none⟩=some (.slice qa p.attrs.length qc):=o 2 _ (by decide) rfl;have y3:wr.cell? ⟨b,d+k*4+3,none⟩=some vg:=o 3 _ (by decide) rfl;have FP:=hid FP;clear hc hp hr a0 P p1 o
          cases r
          ·go_wp2_with (go_at_call 27;refine FP.out.mono ?_;rintro e w5 ⟨rfl,k5⟩);go_ret;refine⟨?_,(A.out.trans a9.out).trans k5⟩;rw[<-Q.out,ck HP.out (u.out (Or.inr (Or.inr (Or.inr (Or.inr (ck an.out ag.out)))))),Bool.and_false]
           rfl
          ·go_wp2_with (go_at_call 27;refine FP.out.mono ?_;rintro e w5 ⟨rfl,k5⟩)
           go_roundw
           case rel=>exact⟨k+1,by omega,by go_num,a9.out.trans k5,fL an.out U.out ag.out⟩
           case measure=>simp[intOf];omega
         ·obtain rfl:k=y:=by omega
          have s:=fM (by have:=a8.out;omega) U.out;have E:=hid s;clear a0 s;go_wp2_with fail
          go_roundw
          case rel=>exact⟨j+1,by omega,by omega,by go_num,A.out.trans a9.out,fL HP.out T.out (aa.out n1 n2 n3 n4 E.out)⟩
          case measure=>simp[intOf];omega
       ·have f1:¬(300:Int) < (Y:Int):=by omega
        have f2:¬(3:Int) < (y:Int):=by omega
        have f3:¬(18:Int) < (L:Int):=by omega
        have f4:(3:Int) < (ln:Int):=by omega
        go_upto_region 5 with(fail);have hwA':=z.out;rw[hwA'];clear hwA';go_wp2_with fail;go_ret;refine⟨?_,A.out⟩;rw[<-Q.out,ck HP.out (u.out (Or.inr (Or.inr (Or.inr (Or.inl n4))))),Bool.and_false]
        rfl
      ·have f1:¬(300:Int) < (Y:Int):=by omega
       have f2:¬(3:Int) < (y:Int):=by omega
       have f3:(18:Int) < (L:Int):=by omega
       go_upto_region 5 with(fail);have hwA':=z.out;rw[hwA'];clear hwA';go_wp2_with fail;go_ret;refine⟨?_,A.out⟩;rw[<-Q.out,ck HP.out (u.out (Or.inr (Or.inr (Or.inl n3)))),Bool.and_false]
       rfl
     ·have f1:¬(300:Int) < (Y:Int):=by omega
      have f2:(3:Int) < (y:Int):=by omega
      go_upto_region 5 with(fail);have hwA':=z.out;rw[hwA'];clear hwA';go_wp2_with fail;go_ret;refine⟨?_,A.out⟩;rw[<-Q.out,ck HP.out (u.out (Or.inr (Or.inl n2))),Bool.and_false]
      rfl
    ·have f1:(300:Int) < (Y:Int):=by omega
     go_upto_region 5 with(fail);have hwA':=z.out;rw[hwA'];clear hwA';go_wp2_with fail;go_ret;refine⟨?_,A.out⟩;rw[<-Q.out,ck HP.out (u.out (Or.inl n1)),Bool.and_false]
     rfl
   ·have h18':¬(j:Int)<=(m:Int):=by omega
    have b0:¬(n:Int)<=(m:Int):=by omega
    clear G;go_wp2_with fail;go_ret;refine⟨?_,J.out⟩;rw[<-Q.out,decide_eq_false (show ¬n<=m by omega),Bool.false_and]
    rfl
  ·obtain rfl:j=n:=by omega
   have s:=fM (by have:=HN.out;omega) T.out;have E:=hid s;clear G s
   by_cases h18:j<=m
   ·have h18':(j:Int)<=(m:Int):=by omega
    go_wp2_with fail;go_ret;refine⟨?_,J.out⟩;rw[<-Q.out,decide_eq_true h18,E.out]
    rfl
   ·have h18':¬(j:Int)<=(m:Int):=by omega
    go_wp2_with fail;go_ret;refine⟨?_,J.out⟩;rw[<-Q.out,decide_eq_false h18,Bool.false_and]
    rfl
end Go.Proofs.YtpcmamoomaddoaaGreatDoor
