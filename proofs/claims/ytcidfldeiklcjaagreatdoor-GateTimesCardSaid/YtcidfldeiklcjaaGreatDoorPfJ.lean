import Derived.Test.YtcidfldeiklcjaaGreatDoorEsw
set_option maxRecDepth 100000
set_option maxHeartbeats 32000000
namespace Go.Proofs.YtcidfldeiklcjaaGreatDoor
open Go.RowKit Tape
open Go.Proofs.Tryz
open Lib(hid)
def fH(T:TypeId)(b g:Nat)(v:Value)(r:Tp)(w:World)(e:Ending)(w':World):Prop:=e=.returned v/\TpAt T w' b g r/\Kept [b] w w'
theorem eO{r r1:Tp}{n:Int}(hq:next r=(n,r1)):(n < 0->count r=(0,⟨r1.left,true⟩))/\(0<=n->(r1.left.length:Int) < n->count r=(0,⟨r1.left,true⟩))/\(0<=n->n<=r1.left.length->count r=(n.toNat,r1)):=by
 unfold count
 rw[hq]
 simp only
 exact⟨fun h=>if_pos (Or.inl h),fun _ h=>if_pos (Or.inr h),fun h1 h2=>if_neg (by omega)⟩
theorem cK(b g:Nat)(r:Tp)(w:World)(h:TpAt 174 w b g r) :
  Calls prog 178 #[.pointer (some ⟨b,0,none⟩)] w (fH 174 b g (.int .i64 (next r).1) (next r).2 w):=by
 obtain⟨⟨a,c,d,e⟩,f⟩:=h;obtain⟨l,i⟩:=r;obtain⟨B,A⟩:=bf2 d
 have v:Hid (g∉[b]):=by show g∉[b];simp;omega
 rcases l with _|⟨n,t⟩
 ·have u:w.cell? ⟨b,0,none⟩=some (.slice a 0 c):=d.cell 0;have C:w.cell? ⟨b,1,none⟩=some (.bool i):=d.cell 1;have j:=hid d;have q:=hid e;clear d e
  go_enter func178,ntmps178
  go_wp2;go_ret;rw[show next ⟨[],i⟩=(0,⟨[],true⟩)from rfl];exact⟨rfl,⟨⟨a,c,by simpa using j.out.set_ 1 true,(q.out.keep (S:=[b]) (kr.setCell (by simp) _) v.out)⟩,f⟩,kr.setCell (by simp) _⟩
 ·have q:=hid e;have j:=hid d;have m:t.length+1<=c:=e.1;have k:t.length+1<=9223372036854775807:=e.2.1;obtain⟨off,rfl,s⟩:=e.2.2 (by simp);have u:w.cell? ⟨b,0,none⟩=some (.slice (some ⟨g,off,none⟩) (t.length+1) c):=d.cell 0
  have z:w.cell? ⟨g,off,none⟩=some (.int .i64 n):=by simpa using s 0 n rfl
  clear d e s;obtain⟨L,p⟩:=nm t.length;have x:=hid p;rw[p]at m k u;clear p
  by_cases h1:c=1
  ·subst h1
   obtain rfl:L=0:=by omega
   go_enter func178,ntmps178
   go_wp2;go_ret;have y:t=[]:=List.eq_nil_of_length_eq_zero x;subst y;rw[show next ⟨[n],i⟩=(n,⟨[],i⟩)from rfl];exact⟨rfl,⟨⟨_,0,by simpa using j.out.set_ 0 (.slice (some ⟨g,off,none⟩) 0 0),Src.empty _ _ _ _⟩,f⟩,kr.setCell (by simp) _⟩
  ·go_enter func178,ntmps178
   go_wp2;go_ret;rw[show next ⟨n::t,i⟩=(n,⟨t,i⟩)from rfl];refine⟨rfl,⟨⟨some ⟨g,off+1,none⟩,c - 1,?_,?_⟩,f⟩,kr.setCell (by simp) _⟩
   ·have:=j.set_ 0 (.slice (some ⟨g,off+1,none⟩) L (c - 1))
    show Blk _ _ _ #[.slice _ t.length _,_]
    rw[x.out]
    simpa using this
   ·exact(q.out.keep (S:=[b]) (kr.setCell (by simp) _) v.out).drop 1 (by simp) (some ⟨g,off+1,none⟩) (fun _ o ho=>by injection ho with ho;injection ho with _ ho;subst ho;rfl)
theorem cU(b g:Nat)(r:Tp)(w:World)(h:TpAt 174 w b g r) :
  Calls prog 134 #[.pointer (some ⟨b,0,none⟩)] w (fH 174 b g (.int .i64 ((count r).1:Nat)) (count r).2 w):=by
 have q:=hid (cK b g r w h);obtain⟨n,r1,o⟩:∃n r1,next r=(n,r1):=⟨_,_,rfl⟩;have d:=hid (eO o);rw[o]at q;clear o h
 go_enter func134,ntmps134
 go_wp2_with (go_at_call 178;refine q.mono ?_);rintro e t ⟨rfl,v,u⟩;have C:=hid v;obtain⟨⟨a,c,k,m⟩,f⟩:=v;have x:=k.cell 0;have D:=k.frozen 1;have i:=m.2.1
 have z:Hid (g∉[b]):=by show g∉[b];simp;omega
 have s:=hid k;have y:=hid m;have p:=hid u;clear k m q u;obtain⟨l,B⟩:=r1;replace x:t.cell? ⟨b,0,none⟩=some (.slice a l.length c):=x;have E:t.cell? ⟨b,1,none⟩=some (.bool B):=s.cell 1;replace i:l.length<=9223372036854775807:=i
 by_cases hn:n < 0
 ·have j:=hid (d.1 hn);clear d;go_wp2;go_ret;rw[j.out];exact⟨rfl,⟨⟨a,c,by simpa using s.out.set_ 1 true,y.out.keep (S:=[b]) (kr.setCell (by simp) _) z.out⟩,f⟩,p.out.setCell (by simp) _⟩
 ·by_cases hl:(l.length:Int) < n
  ·have j:=hid (d.out.2.1 (by omega) hl);clear d;go_wp2;go_ret;rw[j.out];exact⟨rfl,⟨⟨a,c,by simpa using s.out.set_ 1 true,y.out.keep (S:=[b]) (kr.setCell (by simp) _) z.out⟩,f⟩,p.out.setCell (by simp) _⟩
  ·have j:=hid (d.out.2.2 (by omega) (by simpa using hl))
   have A:n<=(l.length:Int):=by omega
   clear d;go_wp2;go_ret;rw[j.out];refine⟨?_,C,p⟩
   show Ending.returned n=.returned (.int .i64 (n.toNat:Int))
   rw[Int.toNat_of_nonneg (by omega)]
theorem mV(b g:Nat)(r:Tp)(w:World)(h:TpAt 210 w b g r) :
  Calls prog 177 #[.pointer (some ⟨b,0,none⟩)] w (fH 210 b g (.int .i64 (next r).1) (next r).2 w):=by
 obtain⟨⟨a,c,d,e⟩,f⟩:=h;obtain⟨l,i⟩:=r;obtain⟨B,A⟩:=bf2 d
 have v:Hid (g∉[b]):=by show g∉[b];simp;omega
 rcases l with _|⟨n,t⟩
 ·have u:w.cell? ⟨b,0,none⟩=some (.slice a 0 c):=d.cell 0;have C:w.cell? ⟨b,1,none⟩=some (.bool i):=d.cell 1;have j:=hid d;have q:=hid e;clear d e
  go_enter func177,ntmps177
  go_wp2;go_ret;rw[show next ⟨[],i⟩=(0,⟨[],true⟩)from rfl];exact⟨rfl,⟨⟨a,c,by simpa using j.out.set_ 1 true,(q.out.keep (S:=[b]) (kr.setCell (by simp) _) v.out)⟩,f⟩,kr.setCell (by simp) _⟩
 ·have q:=hid e;have j:=hid d;have m:t.length+1<=c:=e.1;have k:t.length+1<=9223372036854775807:=e.2.1;obtain⟨off,rfl,s⟩:=e.2.2 (by simp);have u:w.cell? ⟨b,0,none⟩=some (.slice (some ⟨g,off,none⟩) (t.length+1) c):=d.cell 0
  have z:w.cell? ⟨g,off,none⟩=some (.int .i64 n):=by simpa using s 0 n rfl
  clear d e s;obtain⟨L,p⟩:=nm t.length;have x:=hid p;rw[p]at m k u;clear p
  by_cases h1:c=1
  ·subst h1
   obtain rfl:L=0:=by omega
   go_enter func177,ntmps177
   go_wp2;go_ret;have y:t=[]:=List.eq_nil_of_length_eq_zero x;subst y;rw[show next ⟨[n],i⟩=(n,⟨[],i⟩)from rfl];exact⟨rfl,⟨⟨_,0,by simpa using j.out.set_ 0 (.slice (some ⟨g,off,none⟩) 0 0),Src.empty _ _ _ _⟩,f⟩,kr.setCell (by simp) _⟩
  ·go_enter func177,ntmps177
   go_wp2;go_ret;rw[show next ⟨n::t,i⟩=(n,⟨t,i⟩)from rfl];refine⟨rfl,⟨⟨some ⟨g,off+1,none⟩,c - 1,?_,?_⟩,f⟩,kr.setCell (by simp) _⟩
   ·have:=j.set_ 0 (.slice (some ⟨g,off+1,none⟩) L (c - 1))
    show Blk _ _ _ #[.slice _ t.length _,_]
    rw[x.out]
    simpa using this
   ·exact(q.out.keep (S:=[b]) (kr.setCell (by simp) _) v.out).drop 1 (by simp) (some ⟨g,off+1,none⟩) (fun _ o ho=>by injection ho with ho;injection ho with _ ho;subst ho;rfl)
theorem gD(b g:Nat)(r:Tp)(w:World)(h:TpAt 210 w b g r) :
  Calls prog 176 #[.pointer (some ⟨b,0,none⟩)] w (fH 210 b g (.int .i64 ((count r).1:Nat)) (count r).2 w):=by
 have q:=hid (mV b g r w h);obtain⟨n,r1,o⟩:∃n r1,next r=(n,r1):=⟨_,_,rfl⟩;have d:=hid (eO o);rw[o]at q;clear o h
 go_enter func176,ntmps176
 go_wp2_with (go_at_call 177;refine q.mono ?_);rintro e t ⟨rfl,v,u⟩;have C:=hid v;obtain⟨⟨a,c,k,m⟩,f⟩:=v;have x:=k.cell 0;have D:=k.frozen 1;have i:=m.2.1
 have z:Hid (g∉[b]):=by show g∉[b];simp;omega
 have s:=hid k;have y:=hid m;have p:=hid u;clear k m q u;obtain⟨l,B⟩:=r1;replace x:t.cell? ⟨b,0,none⟩=some (.slice a l.length c):=x;have E:t.cell? ⟨b,1,none⟩=some (.bool B):=s.cell 1;replace i:l.length<=9223372036854775807:=i
 by_cases hn:n < 0
 ·have j:=hid (d.1 hn);clear d;go_wp2;go_ret;rw[j.out];exact⟨rfl,⟨⟨a,c,by simpa using s.out.set_ 1 true,y.out.keep (S:=[b]) (kr.setCell (by simp) _) z.out⟩,f⟩,p.out.setCell (by simp) _⟩
 ·by_cases hl:(l.length:Int) < n
  ·have j:=hid (d.out.2.1 (by omega) hl);clear d;go_wp2;go_ret;rw[j.out];exact⟨rfl,⟨⟨a,c,by simpa using s.out.set_ 1 true,y.out.keep (S:=[b]) (kr.setCell (by simp) _) z.out⟩,f⟩,p.out.setCell (by simp) _⟩
  ·have j:=hid (d.out.2.2 (by omega) (by simpa using hl))
   have A:n<=(l.length:Int):=by omega
   clear d;go_wp2;go_ret;rw[j.out];refine⟨?_,C,p⟩
   show Ending.returned n=.returned (.int .i64 (n.toNat:Int))
   rw[Int.toNat_of_nonneg (by omega)]
def zX(l:List Int)(w:World)(e:Ending)(w':World):Prop:=∃a c,e=.returned (.slice a l.length c)/\w'.ownsRow w.heap.size 3 1 (.slice a l.length c) l.length (ints l)/\Kept [] w w'
theorem mh(g:Nat)(a:Option Addr)(c m:Nat)(l:List Int)(w:World)(h:Src w g a c l)(hm:m<=l.length)(hl:l.length<=1000000000) :
  Calls prog 54 #[.slice a m c] w (zX (l.take m) w):=by
 have b:(l.take m).length=m:=by rw[List.length_take];omega
 cases a with
 |none =>
  have f:m=0:=by
   rcases Nat.eq_zero_or_pos m with f|i
   ·exact f
   ·obtain⟨off,d,_⟩:=h.2.2 (by omega)
    cases d
  subst f
  exact(Tryz.slices_Clone_int_nil 0 c w).mono fun e w' ⟨he,hw⟩=>⟨none,0,by simpa using he,by subst hw;simpa [ints]using World.ownsRow_nil _ _ _ _,by subst hw;exact kr⟩
 |some x =>
  rcases Nat.eq_zero_or_pos m with f|i
  ·subst f;refine(Tryz.slices_Clone_int_zero x c w).mono fun e w' ⟨v,he,ho,_,hb⟩=>?_;obtain⟨a',c',rfl⟩:=eW ho (by decide);exact⟨a',c',by simpa using he,by simpa [ints]using ho,Kept.of_below hb⟩
  ·obtain⟨off,d,k⟩:=h.2.2 (by omega);injection d with d;subst d;refine(Tryz.slices_Clone_int g off m c l w hm (by omega) (fun j hj=>?_)).mono fun e w' ⟨v,he,ho,_,hb⟩=>?_
   ·rw[k j l[j] (List.getElem?_eq_getElem hj)]
    simp[List.getD,List.getElem?_eq_getElem hj]
   ·obtain⟨a',c',rfl⟩:=eW ho (by decide);exact⟨a',c',by rw[b];exact he,by rw[b];exact ho,Kept.of_below hb⟩
theorem nC(b o k:Nat):(some ((⟨b,o,none⟩:Addr).add k))=some ⟨b,o+k,none⟩:=by
 unfold Addr.add
 by_cases h:k=0
 ·subst h;simp
 ·simp[h]
def mu(b g:Nat)(l:List Int)(r:Tp)(w:World)(e:Ending)(w':World):Prop :=
 ∃a c,e=.returned (.slice a l.length c)/\w'.ownsRow w.heap.size 3 1 (.slice a l.length c) l.length (ints l)/\TpAt 174 w' b g r/\Kept [b] w w'
theorem eC(b g:Nat)(r:Tp)(w:World)(h:TpAt 174 w b g r)(hl:r.left.length<=1000000000) :
  Calls prog 137 #[.pointer (some ⟨b,0,none⟩)] w (mu b g (list r).1 (list r).2 w):=by
 have T:=hid (cU b g r w h);have d:=bM r;have t:list r=((count r).2.left.take (count r).1,⟨(count r).2.left.drop (count r).1,(count r).2.bad⟩):=rfl;obtain⟨n,r1,V⟩:∃n r1,count r=(n,r1):=⟨_,_,rfl⟩;rw[V]at T d t;obtain⟨l,P⟩:=r1;replace d:n<=l.length/\l.length<=r.left.length:=d;replace t:list r=(l.take n,⟨l.drop n,P⟩):=t;rw[t];clear V t;obtain⟨J,M⟩:=d
 have N:l.length<=1000000000:=by omega
 have I:=h.ne;have a0:=h.lt;clear h hl M
 have C:Hid ((l.take n).length=n):=by show _=_;rw[List.length_take];omega
 have HD:Hid ((l.drop n).length=l.length - n):=by show _=_;rw[List.length_drop]
 go_enter func137,ntmps137
 go_wp2_with (go_at_call 134;refine T.mono ?_);rintro e U ⟨rfl,⟨⟨a,c,O,B⟩,_⟩,F⟩;have HB:=hid O;have Z:=hid B;have HK:=hid F;have a1:l.length<=c:=B.1;have c0:U.cell? ⟨b,0,none⟩=some (.slice a l.length c):=O.cell 0;have A:=hid (mh g a c n l U B J N);have G:=F.size
 have HN:Hid (g∉[b]):=by show g∉[b];simp;omega
 clear O B T F;go_wp2_with (go_at_call 54;refine A.mono ?_);rintro e p ⟨Y,X,rfl,q,E⟩;have j:=hid (HB.out.kept E (by simp));have d0:p.cell? ⟨b,0,none⟩=some (.slice a l.length c):=j.cell 0;have d1:=j.frozen 0;have R:=hid q;have v:=hid E;rw[C.out];rw[C.out]at R;clear q E A c0
 have f:∀(x:Option Addr) (m i:Nat),m=l.length - n->Src p g x i (l.drop n)->Hid (mu b g (l.take n) ⟨l.drop n,P⟩ w (.returned (.slice Y n X)) (p.setCell ⟨b,0,none⟩ (.slice x m i))):=by
  intro x m i L s;subst L;have D:Kept [b] p (p.setCell ⟨b,0,none⟩ (.slice x (l.length - n) i)):=kr.setCell (by simp) _;refine⟨Y,X,by rw[C.out],?_,⟨⟨x,i,?_,s.keep D HN.out⟩,I⟩,(HK.out.trans (v.out.mono (by simp))).trans D⟩
  ·rw[C.out];refine gY (af R D fun z hz L=>?_) G;have:=(ak R z hz).1;rw[List.mem_singleton]at L;omega
  ·show Blk _ _ _ #[.slice x (l.drop n).length i,.bool P]
   rw[HD.out]
   simpa using j.set_ 0 (.slice x (l.length - n) i)
 have k:=hid f;have Q:=hid (Z.out.keep v.out (by simp));clear f
 cases a with
 |none =>
  have h0:l=[]:=by
   rcases Nat.eq_zero_or_pos l.length with h|h
   ·exact List.eq_nil_of_length_eq_zero h
   ·obtain⟨off,ha,_⟩:=Z.2.2 h
    cases ha
  subst h0
  obtain rfl:n=0:=by simpa using J
  have y:=hid (k.out none 0 c (by simp) (Src.empty _ _ _ _));clear k;go_wp2;go_ret;exact y
 |some ad =>
  by_cases hnc:n=c
  ·have u:n=l.length:=by omega
   have hd:l.drop n=[]:=by rw[u];simp
   have y:=hid (k.out (some ad) 0 0 (by omega) (by rw[hd];exact Src.empty _ _ _ _));clear k hd;subst hnc;subst u;go_wp2;go_ret;exact y
  ·have y:=hid (k.out (some (ad.add n)) (l.length - n) (c - n) rfl (Q.out.drop n J _ (fun _ o ho=>by injection ho with ho;subst ho;rw[nC])));clear k;go_wp2;go_ret;exact y
def zf(b g:Nat)(t:Tick)(r:Tp)(w:World)(e:Ending)(w':World):Prop:=e=.returned (.agg (uR t).toArray)/\TpAt 174 w' b g r/\Kept [b] w w'
theorem jF(b g:Nat)(r:Tp)(w:World)(h:TpAt 174 w b g r)(hgs:g≠w.heap.size) :
  Calls prog 135 #[.pointer (some ⟨b,0,none⟩)] w (zf b g (tick r).1 (tick r).2 w):=by
 obtain⟨j,r1,F⟩:∃n r1,next r=(n,r1):=⟨_,_,rfl⟩;obtain⟨i,r2,E⟩:∃n r2,next r1=(n,r2):=⟨_,_,rfl⟩;obtain⟨f,r3,D⟩:∃n r3,next r2=(n,r3):=⟨_,_,rfl⟩;obtain⟨d,r4,C⟩:∃n r4,next r3=(n,r4):=⟨_,_,rfl⟩;obtain⟨c,r5,B⟩:∃n r5,next r4=(n,r5):=⟨_,_,rfl⟩;obtain⟨a,p,A⟩:∃n p,next r5=(n,p):=⟨_,_,rfl⟩
 have Q:tick r=((j,i,f,d,c,a),p):=by
  simp only[tick,both,F,E,D,C,B,A]
 rw[Q]
 have H1:Hid (∀w,TpAt 174 w b g r->Calls prog 178 #[.pointer (some ⟨b,0,none⟩)] w (fH 174 b g j r1 w)):=fun w h=>by have:=cK b g r w h;rwa [F]at this
 have H2:Hid (∀w,TpAt 174 w b g r1->Calls prog 178 #[.pointer (some ⟨b,0,none⟩)] w (fH 174 b g i r2 w)):=fun w h=>by have:=cK b g r1 w h;rwa [E]at this
 have H3:Hid (∀w,TpAt 174 w b g r2->Calls prog 178 #[.pointer (some ⟨b,0,none⟩)] w (fH 174 b g f r3 w)):=fun w h=>by have:=cK b g r2 w h;rwa [D]at this
 have H4:Hid (∀w,TpAt 174 w b g r3->Calls prog 178 #[.pointer (some ⟨b,0,none⟩)] w (fH 174 b g d r4 w)):=fun w h=>by have:=cK b g r3 w h;rwa [C]at this
 have H5:Hid (∀w,TpAt 174 w b g r4->Calls prog 178 #[.pointer (some ⟨b,0,none⟩)] w (fH 174 b g c r5 w)):=fun w h=>by have:=cK b g r4 w h;rwa [B]at this
 have H6:Hid (∀w,TpAt 174 w b g r5->Calls prog 178 #[.pointer (some ⟨b,0,none⟩)] w (fH 174 b g a p w)):=fun w h=>by have:=cK b g r5 w h;rwa [A]at this
 clear F E D C B A Q;have HT:=hid h;have a1:=h.lt;have a0:=h.ne;have HG:Hid (g≠w.heap.size):=hgs;clear h
 go_enter func135,ntmps135
 go_upto_region 1 with(fail);obtain⟨W,o⟩:=nm (w.alloc (.cells #[.int .i64 0,.int .i64 0,.int .i64 0,.int .i64 0,.int .i64 0,.int .i64 0] 178));have m:=bn o;have l:=ka (S:=[b]) o;have Y:=hid ((HT.out.keep (S:=[]) (o▸kr.alloc _) (by simp) (by simp)));rw[o];clear o HT;go_wp2_with (go_at_call 178;refine(H1 _ Y.out).mono ?_);rintro e w1 ⟨rfl,P,y⟩;have X:=hid P;have K1:=hid (l.trans y);have B1:=hid (m.kept y (by simp;omega));clear P y m l H1 Y;go_wp2_with (go_at_call 178;refine(H2 _ X.out).mono ?_);rintro e w2 ⟨rfl,O,x⟩;have V:=hid O;have K2:=hid (K1.trans x);have B2:=hid (B1.out.kept x (by simp;omega));clear O x X K1 B1 H2;go_wp2_with (go_at_call 178;refine(H3 _ V.out).mono ?_);rintro e w3 ⟨rfl,N,u⟩;have U:=hid N;have K3:=hid (K2.trans u);have B3:=hid (B2.out.kept u (by simp;omega));clear N u V K2 B2 H3;go_wp2_with (go_at_call 178;refine(H4 _ U.out).mono ?_);rintro e w4 ⟨rfl,M,t⟩;have T:=hid M;have K4:=hid (K3.trans t);have B4:=hid (B3.out.kept t (by simp;omega));clear M t U K3 B3 H4;go_wp2_with (go_at_call 178;refine(H5 _ T.out).mono ?_);rintro e w5 ⟨rfl,L,s⟩;have R:=hid L;have Z:=hid (K4.trans s);have B5:=hid (B4.out.kept s (by simp;omega));clear L s T K4 B4 H5;go_wp2_with (go_at_call 178;refine(H6 _ R.out).mono ?_);rintro e I ⟨rfl,J,q⟩;have T6:=hid J;have K6:=hid (Z.trans q);have G:=hid (B5.out.kept q (by simp;omega))
 clear J q R Z B5 H6;obtain⟨d0,d1,d2,d3,d4,d5⟩:=bc6 G.out rfl;obtain⟨g0,g1,g2,g3,g4,g5⟩:=bf6 G.out;have z:Hid (g≠w.heap.size):=HG;go_wp2_with fail
 have k:Blk ((((((I.setCell ⟨w.heap.size,0,none⟩ j).setCell ⟨w.heap.size,1,none⟩ i).setCell ⟨w.heap.size,2,none⟩ f).setCell ⟨w.heap.size,3,none⟩ d).setCell ⟨w.heap.size,4,none⟩ c).setCell ⟨w.heap.size,5,none⟩ a) w.heap.size 178 #[j,i,f,d,c,a]:=by simpa using((((((G.out.set_ 0 j).set_ 1 i).set_ 2 f).set_ 3 d).set_ 4 c).set_ 5 a)
 have z0:=k.cell 0;have z1:=k.cell 1;have z2:=k.cell 2;have z3:=k.cell 3;have z4:=k.cell 4;have z5:=k.cell 5;refine bodyPost_ret (v:=.agg #[j,i,f,d,c,a]) (by simp[results,results135,go_sem,z0,z1,z2,z3,z4,z5]) rfl ⟨rfl,?_,?_⟩
 ·exact T6.out.keep (((((((Kept.refl [w.heap.size] I).setCell (by simp) j).setCell (by simp) i).setCell (by simp) f).setCell (by simp) d).setCell (by simp) c).setCell (by simp) a) (by simp;omega) (by simp;exact z.out)
 ·exact((((((K6.setCell (Or.inr (Nat.le_refl _)) j).setCell (Or.inr (Nat.le_refl _)) i).setCell (Or.inr (Nat.le_refl _)) f).setCell (Or.inr (Nat.le_refl _)) d).setCell (Or.inr (Nat.le_refl _)) c).setCell (Or.inr (Nat.le_refl _)) a)
def xE(b g:Nat)(x:Spnd)(r:Tp)(w:World)(e:Ending)(w':World):Prop :=
 ∃a c,e=.returned (.agg #[x.1,.slice a x.2.length c])/\w'.ownsRow w.heap.size 3 1 (.slice a x.2.length c) x.2.length (ints x.2)/\TpAt 174 w' b g r/\Kept [b] w w'
theorem kR(b g:Nat)(r:Tp)(w:World)(h:TpAt 174 w b g r)(hgs:g≠w.heap.size)(hl:r.left.length<=1000000000) :
  Calls prog 136 #[.pointer (some ⟨b,0,none⟩)] w (xE b g (spnd r).1 (spnd r).2 w):=by
 obtain⟨d,r1,o⟩:∃n r1,next r=(n,r1):=⟨_,_,rfl⟩;obtain⟨l,r2,t⟩:∃n r2,list r1=(n,r2):=⟨_,_,rfl⟩
 have B:spnd r=((d,l),r2):=by
  simp only[spnd,both,o,t]
 rw[B]
 have s:r1.left.length<=1000000000:=by have:=fV r;rw[o]at this;have:r1.left.length<=r.left.length:=this;omega
 have J:Hid (∀w,TpAt 174 w b g r->Calls prog 178 #[.pointer (some ⟨b,0,none⟩)] w (fH 174 b g d r1 w)):=fun w h=>by have:=cK b g r w h;rwa [o]at this
 have I:Hid (∀w,TpAt 174 w b g r1->Calls prog 137 #[.pointer (some ⟨b,0,none⟩)] w (mu b g l r2 w)):=fun w h=>by have:=eC b g r1 w h s;rwa [t]at this
 clear o t B;have F:=hid h;have R:=h.lt;have Q:=h.ne;have X:Hid (g≠w.heap.size):=hgs;clear h
 go_enter func136,ntmps136
 go_upto_region 1 with(fail);obtain⟨W,f⟩:=nm (w.alloc (.cells #[.int .i64 0,()] 181));have k:=bn f;have j:=ka (S:=[b]) f
 have T:W.heap.size=w.heap.size+1:=by rw[<-f];simp
 have D:=hid ((F.out.keep (S:=[]) (f▸kr.alloc _) (by simp) (by simp)));rw[f];clear f F;go_wp2_with (go_at_call 178;refine(J _ D.out).mono ?_);rintro e Y ⟨rfl,y,m⟩;have C:=hid y;have E:=hid (j.trans m);have M:=hid (k.kept m (by simp;omega));have P:=m.size;clear y m k j J D;go_wp2_with (go_at_call 137;refine(I _ C.out).mono ?_);rintro e p ⟨a,c,rfl,i,x,q⟩;have U:=hid x;have V:=hid (E.trans q);have u:=hid (M.out.kept q (by simp;omega));have G:=hid i;clear x q i C E M I;obtain⟨d0,d1⟩:=bc2 u.out rfl;obtain⟨g0,Z⟩:=bf2 u.out;go_wp2_with fail
 have L:Blk ((p.setCell ⟨w.heap.size,0,none⟩ d).setCell ⟨w.heap.size,1,none⟩ (.slice a l.length c)) w.heap.size 181 #[d,.slice a l.length c]:=by simpa using(u.out.set_ 0 d).set_ 1 (.slice a l.length c)
 have O:=L.cell 0;have N:=L.cell 1;have A:Kept [w.heap.size] p ((p.setCell ⟨w.heap.size,0,none⟩ d).setCell ⟨w.heap.size,1,none⟩ (.slice a l.length c)):=(kr.setCell (by simp) _).setCell (by simp) _;refine bodyPost_ret (v:=.agg #[d,.slice a l.length c]) (by simp[results,results136,go_sem,O,N]) rfl ⟨a,c,rfl,?_,?_,?_⟩
 ·refine gY (af G.out A fun z hz hm=>?_) (by omega);have:=(ak G z hz).1;rw[List.mem_singleton]at hm;omega
 ·exact U.out.keep A (by simp;omega) (by simp;exact X.out)
 ·exact(V.setCell (Or.inr (Nat.le_refl _)) _).setCell (Or.inr (Nat.le_refl _)) _
end Go.Proofs.YtcidfldeiklcjaaGreatDoor
namespace Go.Proofs.YtcidfldeiklcjaaGreatDoor
open Go.RowKit Tape
theorem nx:(Tryz.prog.info? 24).map (fun i=>(i.zero,i.size,i.bytes))=some (some (.slice none 0 0),1,24):=by kernel_rfl
theorem wM:(Tryz.prog.info? 55).map (fun i=>(i.zero,i.size,i.bytes))=some (some (.slice none 0 0),1,24):=by kernel_rfl
theorem TpAt.put{T:TypeId}{w:World}{b g:Nat}{v0:Value}{bd:Bool}{l:List Int}{x:Option Addr}{m c:Nat}(hB:Blk w b T #[v0,.bool bd])(hs:Src w g x c l)(hm:m=l.length)(hne:b≠g):TpAt T (w.setCell ⟨b,0,none⟩ (.slice x m c)) b g ⟨l,bd⟩:=by
 subst hm;refine⟨⟨x,c,?_,hs.keep (S:=[b]) (kr.setCell (by simp) _) (by simp;omega)⟩,hne⟩
 simpa using hB.set_ 0 (.slice x l.length c)
structure PfI (wr w2:World) (b g:Nat) (X:List Nat) (ad:Option Addr) (n cd:Nat) (aa:Option Addr) (m ca:Nat) (ds:List Int) (as_:List (List Int)) (r:Tp):Prop where
 tp:TpAt 210 w2 b g r
 kb:Kept [b] wr w2
 nd:n=ds.length
 na:m=as_.length
 od:w2.ownsRow wr.heap.size 3 1 (.slice ad n cd) n (ints ds)
 ga:∃X2,(∀z∈X,z∈X2)/\(∀z∈X2,z < w2.heap.size)/\(∀z∈obl (.slice ad n cd),z∈X2)/\(∀z∈obl (.slice aa m ca),z∈X2)/\Grow aM 1 24 wr.heap.size X2 w2 (.slice aa m ca) as_
 dis:∀z∈obl (.slice ad n cd),z∉obl (.slice aa m ca)
 bX:b∈X
 bl:b < wr.heap.size
 gl:g < wr.heap.size
section
variable {wr w2 w3:World} {b g:Nat} {X:List Nat} {ad aa ad' aa':Option Addr} {n n' m m' cd cd' ca ca':Nat} {ds:List Int} {as_:List (List Int)} {r r':Tp}
theorem PfI.le(h:PfI wr w2 b g X ad n cd aa m ca ds as_ r):wr.heap.size<=w2.heap.size:=h.kb.size
theorem PfI.ged(h:PfI wr w2 b g X ad n cd aa m ca ds as_ r):∀z∈obl (.slice ad n cd),wr.heap.size<=z/\z < w2.heap.size:=ak h.od
theorem PfI.gea(h:PfI wr w2 b g X ad n cd aa m ca ds as_ r):∀z∈obl (.slice aa m ca),wr.heap.size<=z/\z < w2.heap.size:=by
 obtain⟨X2,_,_,_,_,G⟩:=h.ga;exact G.ge
theorem PfI.keep(h:PfI wr w2 b g X ad n cd aa m ca ds as_ r)(k:Kept [] w2 w3):PfI wr w3 b g X ad n cd aa m ca ds as_ r:=by
 obtain⟨X2,x1,x2,x3,x4,G⟩:=h.ga
 exact⟨h.tp.keep k (by simp) (by simp),h.kb.trans (k.mono (by simp)),h.nd,h.na,af h.od k (by simp), ⟨X2,x1,fun z hz=>Nat.lt_of_lt_of_le (x2 z hz) k.size,x3,x4,G.step k (by simp) (by simp) (fun z hz=>Or.inl hz)⟩,h.dis,h.bX,h.bl,h.gl⟩
theorem PfI.alloc(h:PfI wr w2 b g X ad n cd aa m ca ds as_ r)(x:Obj):PfI wr (w2.alloc x) b g X ad n cd aa m ca ds as_ r:=h.keep (kr.alloc _)
theorem PfI.read(h:PfI wr w2 b g X ad n cd aa m ca ds as_ r)(k:Kept [b] w2 w3)(tp:TpAt 210 w3 b g r'):PfI wr w3 b g X ad n cd aa m ca ds as_ r':=by
 obtain⟨X2,x1,x2,x3,x4,G⟩:=h.ga;have hb:=h.bl;have h1:=h.ged;have h2:=h.gea
 have e1:∀z∈obl (.slice ad n cd),z∉[b]:=fun z hz hm=>by have:=h1 z hz;rw[List.mem_singleton]at hm;omega
 have e2:∀z∈obl (.slice aa m ca),z∉[b]:=fun z hz hm=>by have:=h2 z hz;rw[List.mem_singleton]at hm;omega
 exact⟨tp,h.kb.trans k,h.nd,h.na,af h.od k e1, ⟨X2,x1,fun z hz=>Nat.lt_of_lt_of_le (x2 z hz) k.size,x3,x4,G.step k e2 (fun z hz _=>by obtain rfl:=ms hz;exact x1 _ h.bX) (fun z hz=>Or.inl hz)⟩,h.dis,h.bX,h.bl,h.gl⟩
theorem PfI.pushd(h:PfI wr w2 b g X ad n cd aa m ca ds as_ r){x:Int}(k:Kept (obl (.slice ad n cd)) w2 w3)(hn:n'=n+1)(own1:w3.ownsRow wr.heap.size 3 1 (.slice ad' n' cd') n' (ints (ds++[x])))
  (hat:∀z∈obl (.slice ad' n' cd'),z∈obl (.slice ad n cd)\/z=w2.heap.size):PfI wr w3 b g X ad' n' cd' aa m ca (ds++[x]) as_ r:=by
 obtain⟨q,o,l,i,j,G⟩:=h.ga;have u:=h.bl;have t:=h.gl;have f:=h.ged;have p:=h.gea;have s:=k.size;have d:=ak own1
 refine⟨h.tp.keep k (fun c=>by have:=f _ c;omega) (fun c=>by have:=f _ c;omega),h.kb.then_ k (fun z a c=>by have:=f z c;omega),by rw[hn,h.nd];simp,h.na,own1, ⟨q++obl (.slice ad' n' cd'),fun z a=>List.mem_append_left _ (o z a),fun z a=>?_,fun z a=>List.mem_append_right _ a,fun z a=>List.mem_append_left _ (j z a),G.step k (fun z a c=>h.dis z c a) (fun z a _=>i z a) (fun z a=>?_)⟩,?_,h.bX,h.bl,h.gl⟩
 ·rcases List.mem_append.1 a with h|h
  ·have:=l z h;omega
  ·exact(d z h).2
 ·rcases List.mem_append.1 a with h|h
  ·exact Or.inl h
  ·rcases hat z h with e|e
   ·exact Or.inl (i z e)
   ·exact Or.inr (by omega)
 ·intro z a c
  rcases hat z a with e|e
  ·exact h.dis z e c
  ·have:=p z c;omega
theorem PfI.pusha(h:PfI wr w2 b g X ad n cd aa m ca ds as_ r){x:List Int}{X2:List Nat}(x1:∀z∈X,z∈X2)(x2:∀z∈X2,z < w2.heap.size)(x3:∀z∈obl (.slice ad n cd),z∈X2)
  (k:Kept (obl (.slice aa m ca)) w2 w3) (hm:m'=m+1) (G:Grow aM 1 24 wr.heap.size (X2++obl (.slice aa' m' ca')) w3 (.slice aa' m' ca') (as_++[x]))
  (hat:∀z∈obl (.slice aa' m' ca'),z∈obl (.slice aa m ca)\/z=w2.heap.size):PfI wr w3 b g X ad n cd aa' m' ca' ds (as_++[x]) r:=by
 have j:=h.bl;have i:=h.gl;have d:=h.ged;have c:=h.gea;have f:=k.size
 refine⟨h.tp.keep k (fun hm=>by have:=c _ hm;omega) (fun hm=>by have:=c _ hm;omega),h.kb.then_ k (fun z a hm=>by have:=c z hm;omega),h.nd,by rw[hm,h.na];simp,af h.od k (fun z a hm=>h.dis z a hm), ⟨X2++obl (.slice aa' m' ca'),fun z a=>List.mem_append_left _ (x1 z a),fun z a=>?_,fun z a=>List.mem_append_left _ (x3 z a),fun z a=>List.mem_append_right _ a,G⟩,?_,h.bX,h.bl,h.gl⟩
 ·rcases List.mem_append.1 a with h|h
  ·have:=x2 z h;omega
  ·exact(G.ge z h).2
 ·intro z a hm
  rcases hat z hm with e|e
  ·exact h.dis z a e
  ·have:=d z a;omega
end
structure PfO (w wr:World) (b g po B:Nat) (X:List Nat) (a1:Option Addr) (n1 c1:Nat) (a2:Option Addr) (n2 c2:Nat) (A:List (List Int)) (C:List (List (List Int))) (r:Tp):Prop where
 tp:TpAt 210 wr b g r
 bp:Blk wr po 133 #[.slice a1 n1 c1,.slice a2 n2 c2]
 e1:n1=A.length
 e2:n2=C.length
 g1:Grow aM 1 24 B X wr (.slice a1 n1 c1) A
 g2:Grow bJ 1 55 B X wr (.slice a2 n2 c2) C
 dis:∀z∈obl (.slice a1 n1 c1),z∉obl (.slice a2 n2 c2)
 bX:b∈X
 pX:po∈X
 hX:∀z∈X,z < wr.heap.size
 x1:∀z∈obl (.slice a1 n1 c1),z∈X
 x2:∀z∈obl (.slice a2 n2 c2),z∈X
 lb:b < B
 lp:po < B
 lg:g < B
 le:B<=wr.heap.size
 bp_:b≠po
 gp:g≠po
 k0:Kept [] w wr
 wb:w.heap.size < b
 wp:w.heap.size < po
 qX:w.heap.size∈X
 bq:Blk wr w.heap.size 133 #[(),()]
 rX:∀z,z < w.heap.size->z∈X
section
variable {w wr w2 w3:World} {b g po B:Nat} {X:List Nat} {a1 a2 a1' a2':Option Addr} {n1 n1' c1 c1' n2 n2' c2 c2':Nat} {A:List (List Int)} {C:List (List (List Int))} {r r':Tp}
theorem PfO.ge1(h:PfO w wr b g po B X a1 n1 c1 a2 n2 c2 A C r):∀z∈obl (.slice a1 n1 c1),B<=z/\z < wr.heap.size:=h.g1.ge
theorem PfO.ge2(h:PfO w wr b g po B X a1 n1 c1 a2 n2 c2 A C r):∀z∈obl (.slice a2 n2 c2),B<=z/\z < wr.heap.size:=h.g2.ge
theorem PfO.read(h:PfO w wr b g po B X a1 n1 c1 a2 n2 c2 A C r)(k:Kept [b] wr w2)(tp:TpAt 210 w2 b g r'):PfO w w2 b g po B X a1 n1 c1 a2 n2 c2 A C r':=by
 have f:=h.lb;have e:=h.ge1;have d:=h.ge2;have c:=h.bp_;have a:=h.wb
 refine⟨tp,h.bp.kept k (by simp;omega),h.e1,h.e2,h.g1.step k (fun z hz hm=>?_) (fun z hz _=>?_) (fun z hz=>Or.inl hz),h.g2.step k (fun z hz hm=>?_) (fun z hz _=>?_) (fun z hz=>Or.inl hz),h.dis,h.bX,h.pX,fun z hz=>Nat.lt_of_lt_of_le (h.hX z hz) k.size,h.x1,h.x2,h.lb,h.lp,h.lg,Nat.le_trans h.le k.size,h.bp_,h.gp,
  h.k0.fresh k (fun z hz=>by rw[List.mem_singleton]at hz;omega),h.wb,h.wp,h.qX,h.bq.kept k (by simp;omega),h.rX⟩
 ·have:=e z hz;rw[List.mem_singleton]at hm;omega
 ·obtain rfl:=ms hz;exact h.bX
 ·have:=d z hz;rw[List.mem_singleton]at hm;omega
 ·obtain rfl:=ms hz;exact h.bX
theorem PfO.push(h:PfO w wr b g po B X a1 n1 c1 a2 n2 c2 A C r){d:List Int}{e:List (List Int)}{X':List Nat}(k:Kept (obl (.slice a1 n1 c1)++obl (.slice a2 n2 c2)) wr w2)
  (G1:Grow aM 1 24 B X' w2 (.slice a1' n1' c1') (A++[d])) (G2:Grow bJ 1 55 B X' w2 (.slice a2' n2' c2') (C++[e])) (m1:n1'=n1+1) (m2:n2'=n2+1)
  (hX':∀z∈X,z∈X') (hlt:∀z∈X',z < w2.heap.size) (hd:∀z∈obl (.slice a1' n1' c1'),z∉obl (.slice a2' n2' c2'))
  (y1:∀z∈obl (.slice a1' n1' c1'),z∈X') (y2:∀z∈obl (.slice a2' n2' c2'),z∈X') :
  PfO w ((w2.setCell ⟨po,0,none⟩ (.slice a1' n1' c1')).setCell ⟨po,1,none⟩ (.slice a2' n2' c2')) b g po B X' a1' n1' c1' a2' n2' c2' (A++[d]) (C++[e]) r:=by
 have u:=h.ge1;have t:=h.ge2;have y:=h.lb;have v:=h.lp;have x:=h.lg;have s:=h.bp_;have q:=h.gp;have a:=h.wp
 have i:∀z∈obl (.slice a1 n1 c1)++obl (.slice a2 n2 c2),B<=z:=fun z hz=>by
  rcases List.mem_append.1 hz with e|e
  ·exact(u z e).1
  ·exact(t z e).1
 have j:Kept [po] w2 ((w2.setCell ⟨po,0,none⟩ (.slice a1' n1' c1')).setCell ⟨po,1,none⟩ (.slice a2' n2' c2')):=(kr.setCell (by simp) _).setCell (by simp) _
 have c:((w2.setCell ⟨po,0,none⟩ (.slice a1' n1' c1')).setCell ⟨po,1,none⟩ (.slice a2' n2' c2')).heap.size=w2.heap.size:=by simp[World.setCell]
 have f:∀z∈[po],z < w2.heap.size->z∈X':=fun z hz _=>by obtain rfl:=ms hz;exact hX' _ h.pX
 have n:=G1.ge;have m:=G2.ge
 refine⟨(h.tp.keep k (fun hm=>by have:=i _ hm;omega) (fun hm=>by have:=i _ hm;omega)).keep j (by simp;omega) (by simp;omega),?_,by rw[m1,h.e1];simp,by rw[m2,h.e2];simp,
  G1.step j (fun z hz hm=>?_) f (fun z hz=>Or.inl hz),G2.step j (fun z hz hm=>?_) f (fun z hz=>Or.inl hz),hd,hX' _ h.bX,hX' _ h.pX,fun z hz=>by rw[c];exact hlt z hz,y1,y2,h.lb,h.lp,h.lg,?_,h.bp_,h.gp,?_,h.wb,h.wp,hX' _ h.qX,?_,fun z hz=>hX' z (h.rX z hz)⟩
 ·have l:=h.bp.kept k (fun hm=>by have:=i _ hm;omega)
  simpa using(l.set_ 0 (.slice a1' n1' c1')).set_ 1 (.slice a2' n2' c2')
 ·have:=n z hz;rw[List.mem_singleton]at hm;omega
 ·have:=m z hz;rw[List.mem_singleton]at hm;omega
 ·rw[c];have:=h.le;have:=k.size;omega
 ·have p:=h.k0.size;have o:=h.le;exact((h.k0.fresh k (fun z hz=>by have:=i z hz;have:=h.wb;omega)).setCell (Or.inr (Nat.le_of_lt a)) _).setCell (Or.inr (Nat.le_of_lt a)) _
 ·exact(h.bq.kept k (fun hm=>by have:=i _ hm;omega)).kept j (by simp;omega)
theorem PfO.later2(h:PfO w wr b g po B X a1 n1 c1 a2 n2 c2 A C r)(k:Kept (obl (.slice a1 n1 c1)) wr w2)(t:∀z∈obl (.slice a1' n1' c1'),z∈obl (.slice a1 n1 c1)\/wr.heap.size<=z) :
  Grow bJ 1 55 B (X++obl (.slice a1' n1' c1')) w2 (.slice a2 n2 c2) C :=
 h.g2.step k (fun z hz hm=>h.dis z hm hz) (fun z hz _=>h.x1 z hz) fun z hz=>by
  rcases List.mem_append.1 hz with e|e
  ·exact Or.inl e
  ·rcases t z e with e|e
   ·exact Or.inl (h.x1 z e)
   ·exact Or.inr e
theorem PfO.now1(h:PfO w wr b g po B X a1 n1 c1 a2 n2 c2 A C r)(k:Kept [] wr w2):Grow aM 1 24 B X w2 (.slice a1 n1 c1) A:=h.g1.step k (by simp) (by simp) fun _ hz=>Or.inl hz
theorem PfO.order12(h:PfO w wr b g po B X a1 n1 c1 a2 n2 c2 A C r){u1 u2:World}{d:List Int}{e:List (List Int)}(ku1:Kept [] wr u1)(k1:Kept (obl (.slice a1 n1 c1)) u1 w2)
  (G1:Grow aM 1 24 B (X++obl (.slice a1' n1' c1')) w2 (.slice a1' n1' c1') (A++[d])) (t1:∀z∈obl (.slice a1' n1' c1'),z∈obl (.slice a1 n1 c1)\/z=u1.heap.size) (ku2:Kept [] w2 u2) (k2:Kept (obl (.slice a2 n2 c2)) u2 w3)
  (G2:Grow bJ 1 55 B ((X++obl (.slice a1' n1' c1'))++obl (.slice a2' n2' c2')) w3 (.slice a2' n2' c2') (C++[e])) (t2:∀z∈obl (.slice a2' n2' c2'),z∈obl (.slice a2 n2 c2)\/z=u2.heap.size) (m1:n1'=n1+1) (m2:n2'=n2+1) :
  ∃X',PfO w ((w3.setCell ⟨po,0,none⟩ (.slice a1' n1' c1')).setCell ⟨po,1,none⟩ (.slice a2' n2' c2')) b g po B X' a1' n1' c1' a2' n2' c2' (A++[d]) (C++[e]) r:=by
 have n:=ku1.size;have m:=k1.size;have l:=ku2.size;have k:=k2.size;have o:=h.ge1;have j:=h.ge2;have c:=G1.ge;have i:=G2.ge;have f:Kept (obl (.slice a2 n2 c2)) w2 w3:=(ku2.mono (by simp)).trans k2
 have a:∀z∈obl (.slice a1' n1' c1'),z∉obl (.slice a2 n2 c2):=fun z hz hm=>by
  rcases t1 z hz with e|e
  ·exact h.dis z e hm
  ·have:=j z hm;omega
 refine⟨(X++obl (.slice a1' n1' c1'))++obl (.slice a2' n2' c2'),h.push ?_ (G1.step f a (fun z hz _=>List.mem_append_left _ (h.x2 z hz)) fun z hz=>?_) G2 m1 m2 (fun z hz=>List.mem_append_left _ (List.mem_append_left _ hz)) (fun z hz=>?_) (fun z hz hm=>?_)
  (fun z hz=>List.mem_append_left _ (List.mem_append_right _ hz)) (fun z hz=>List.mem_append_right _ hz)⟩
 ·exact(((ku1.mono (by simp)).trans (k1.mono fun z _ hz=>List.mem_append_left _ hz)).trans (f.mono fun z _ hz=>List.mem_append_right _ hz))
 ·rcases List.mem_append.1 hz with e|e
  ·exact Or.inl e
  ·rcases t2 z e with e|e
   ·exact Or.inl (List.mem_append_left _ (h.x2 z e))
   ·exact Or.inr (by omega)
 ·rcases List.mem_append.1 hz with e|e
  ·rcases List.mem_append.1 e with e|e
   ·have:=h.hX z e;omega
   ·have:=c z e;omega
  ·exact(i z e).2
 ·rcases t2 z hm with e|e
  ·exact a z hz e
  ·have:=c z hz;omega
end
theorem rowN{Y:World}{n:Nat}(hn:Y.heap.size=n)(T:TypeId)(v:Value):Row (Y.alloc (.cells #[v] T)) 1 (.slice (some ⟨n,0,none⟩) 1 1) 1 [v] :=
 hn▸aH (Blk.new Y T #[v]) rfl (by omega)
theorem gP{U y:World}{S:List Nat}{n:Nat}{v:Value}(h:Row U 1 (.slice (some ⟨n,0,none⟩) 1 1) 1 [v])(k:Kept S U y)(hn:n∉S):Row y 1 (.slice (some ⟨n,0,none⟩) 1 1) 1 [v]:=by
 obtain⟨h1,h2,a,c,hv,hcc,hc⟩:=h;refine⟨h1,h2,a,c,hv,hcc,fun hp=>?_⟩;injection hv with ha _ _;subst ha;obtain⟨b,off,hb,hcell⟩:=hc hp;injection hb with hb;injection hb with hb ho;subst hb ho;refine⟨n,0,rfl,fun j u hj=>?_⟩;have:=hcell j u hj;exact(k.cell (World.block_lt_of_cell? U _ this) hn).trans this
structure After1 (wr u y:World) (B:Nat) (X:List Nat) (a1:Option Addr) (n1 c1:Nat) (p:Option Addr) (m q:Nat) (A:List (List Int)) (d:List Int):Prop where
 ku:Kept [] wr u
 k:Kept (obl (.slice a1 n1 c1)) u y
 hm:m=n1+1
 G:Grow aM 1 24 B (X++obl (.slice p m q)) y (.slice p m q) (A++[d])
 t:∀z∈obl (.slice p m q),z∈obl (.slice a1 n1 c1)\/z=u.heap.size
section
variable {w wr u y u2:World} {b g po B:Nat} {X:List Nat} {a1 a2 p:Option Addr} {n1 c1 n2 c2 m q:Nat} {A:List (List Int)} {C:List (List (List Int))} {r:Tp} {d:List Int} {e:List (List Int)}
theorem After1.ks(h:After1 wr u y B X a1 n1 c1 p m q A d):Kept (obl (.slice a1 n1 c1)) wr y:=(h.ku.mono (by simp)).trans h.k
theorem After1.t'(h:After1 wr u y B X a1 n1 c1 p m q A d):∀z∈obl (.slice p m q),z∈obl (.slice a1 n1 c1)\/wr.heap.size<=z:=fun z hz=>(h.t z hz).imp id fun e=>by have:=h.ku.size;omega
theorem nW{ops:Array Oper}{o:Oper}{a:Act}{K:Act->World->Prop}{Q:Exit->Act->World->Prop}{E:Prop}(O:PfO w wr b g po B X a1 n1 c1 a2 n2 c2 A C r)(hgd:o.guard=none)(s x:Operand)
  (ho:o.op=.call { callee:=.builtin .append,args:=#[s,x],argTypes:=#[55,55] })
  (hs:a.eval s=.slice a1 n1 c1) (v:Value) (hx:a.eval x=v) (el:Value) (hrow:Row u 1 v 1 [el]) (ku:Kept [] wr u) (hR:ae X (fun w=>aM w [el] d) wr) (h1:el.oneCell'=true) (hn:A.length<=1000000000)
  (h:∀p q y,After1 wr u y B X a1 n1 c1 p (A.length+1) q A d->K (a.put o.dst (.slice p (A.length+1) q)) y) :
  if Region.wanted o (yielded ops a.tmps)=true then Oper.wp Tryz.prog o a u K Q else E:=by
 obtain⟨i,l,f,e,c⟩:=info_parts nx;have j:=O.le;have:=ku.size;refine aO hgd s x 55 ho i () 24 Tryz.underlying55 l f e c rfl (by decide) (by decide) hs (O.now1 ku) v [el] d hx hrow (hR.step ku (by simp) (fun z hz=>Or.inl hz)) (by simpa using h1) hn (by omega) O.x1 ?_;intro p q y G k t;exact h p q y ⟨ku,k,by rw[O.e1],G,t⟩
theorem nV{ops:Array Oper}{o:Oper}{a:Act}{K:Act->World->Prop}{Q:Exit->Act->World->Prop}{E:Prop}(O:PfO w wr b g po B X a1 n1 c1 a2 n2 c2 A C r)(H:After1 wr u y B X a1 n1 c1 p m q A d)(hgd:o.guard=none)(s x:Operand)
  (ho:o.op=.call { callee:=.builtin .append,args:=#[s,x],argTypes:=#[131,131] })
  (hs:a.eval s=.slice a2 n2 c2) (v:Value) (hx:a.eval x=v) (el:Value) (hrow:Row u2 1 v 1 [el]) (ku:Kept [] y u2) (hR:ae X (fun w=>bJ w [el] e) wr) (h1:el.oneCell'=true) (hn:C.length<=1000000000)
  (h:∀p' q' y',Kept (obl (.slice a1 n1 c1)++obl (.slice a2 n2 c2)) wr y'->(∃X',PfO w ((y'.setCell ⟨po,0,none⟩ (.slice p m q)).setCell ⟨po,1,none⟩ (.slice p' (C.length+1) q')) b g po B X' p m q p' (C.length+1) q' (A++[d]) (C++[e]) r)->K (a.put o.dst (.slice p' (C.length+1) q')) y') :
  if Region.wanted o (yielded ops a.tmps)=true then Oper.wp Tryz.prog o a u2 K Q else E:=by
 obtain⟨i,D,j,f,c⟩:=info_parts wM;have n:=O.le;have J:=H.ku.size;have I:=H.k.size;have F:=ku.size;have l:Kept (obl (.slice a1 n1 c1)) wr u2:=H.ks.trans (ku.mono (by simp));refine aO hgd s x 131 ho i () 24 Tryz.underlying131 D j f c rfl (by decide) (by decide) hs (O.later2 l H.t') v [el] e hx hrow (hR.step l (fun z hz _=>O.x1 z hz) fun z hz=>?_) (by simpa using h1) hn (by omega) (fun z hz=>List.mem_append_left _ (O.x2 z hz)) ?_
 ·rcases List.mem_append.1 hz with e|e
  ·exact Or.inl e
  ·rcases H.t' z e with e|e
   ·exact Or.inl (O.x1 z e)
   ·exact Or.inr e
 ·intro p' q' y' G k t;refine h p' q' y' ((H.ks.mono fun z _ hz=>List.mem_append_left _ hz).trans ((ku.mono (by simp)).trans (k.mono fun z _ hz=>List.mem_append_right _ hz))) (O.order12 H.ku H.k H.G H.t ku k G t H.hm (by rw[O.e2]))
end
end Go.Proofs.YtcidfldeiklcjaaGreatDoor
