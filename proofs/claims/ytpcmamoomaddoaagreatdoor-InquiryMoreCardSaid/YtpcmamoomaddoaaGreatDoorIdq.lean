import Derived.Test.YtpcmamoomaddoaaGreatDoorSpr
set_option maxRecDepth 100000
set_option maxHeartbeats 32000000
namespace Go.Proofs.YtpcmamoomaddoaaGreatDoor
open Go.RowKit
open Go.Proofs.Tryz
open Lib(hid)
def MbR(w:World)(c:List Value)(m:Mb):Prop:=∃vb vt,c=[vb,vt,.int .i64 m.rev]/\aj dE 2 w vb m.binds/\Row w 1 vt m.tickets.length (ints m.tickets)
theorem MbR.kept{w w':World}{c:List Value}{m:Mb}(h:MbR w c m)(k:Kept [] w w'):MbR w' c m:=by
 obtain⟨vb,vt,h1,h2,h3⟩:=h;exact⟨vb,vt,h1,aj.kept h2 (fun _ _ x=>x) k,h3.kept k⟩
def SnR(_:World)(c:List Value)(x:Sn):Prop:=c=[.int .i64 x.q,.int .i64 x.win,.int .i64 x.asof,.int .i64 x.hold]
theorem yd{w:World}{b:Nat}{ds cs:List Value}{p q:Pd}(hb:Blk w b 46 ds.toArray)(hp:PdR w ds p)(hq:PdR w cs q) :
  Calls prog 140 #[.agg cs.toArray,.pointer (some ⟨b,0,none⟩)] w fun e w'=>e=.returned (.bool (cC p q))/\Kept [] w w':=by
 have a:=fun(w':World) (k:Kept [] w w')=>mH (sizeB p) p q ds cs w' (Nat.le_refl _) (PdR.kept k hp) (PdR.kept k hq);obtain⟨r,z⟩:∃r,cC p q=r:=⟨_,rfl⟩;rw[z]at a ⊢;obtain⟨D,C,A,E,x⟩:=p;obtain⟨F,y,rfl,_⟩:=hp.rows;obtain⟨m,l,i,o,v⟩:=q;obtain⟨s,f,rfl,_⟩:=hq.rows;obtain⟨B,h⟩:∃n,x.length=n:=⟨_,rfl⟩;obtain⟨j,g⟩:∃n,v.length=n:=⟨_,rfl⟩;rw[h,g]at a;rw[h]at hb;rw[g];clear hp hq h g z;obtain⟨W,u⟩:∃W,w.alloc (.cells #[.int .i64 m,.string ⟨l.toArray⟩,.string ⟨i.toArray⟩,.int .i64 o,.slice s j f] 46)=W:=⟨_,rfl⟩;have t:Kept [] w W:=u▸(Kept.refl _ _).alloc _;have d:Blk W w.heap.size 46 #[.int .i64 m,.string ⟨l.toArray⟩,.string ⟨i.toArray⟩,.int .i64 o,.slice s j f]:=u▸Blk.new _ _ _;have Q:W.cell? ⟨w.heap.size,0,none⟩=some (.int .i64 m):=d.cell 0;have P:W.cell? ⟨w.heap.size,1,none⟩=some (.string ⟨l.toArray⟩):=d.cell 1;have O:W.cell? ⟨w.heap.size,2,none⟩=some (.string ⟨i.toArray⟩):=d.cell 2;have N:W.cell? ⟨w.heap.size,3,none⟩=some (.int .i64 o):=d.cell 3;have M:W.cell? ⟨w.heap.size,4,none⟩=some (.slice s j f):=d.cell 4;have c:=hb.kept t (by simp);have Y:W.cell? ⟨b,0,none⟩=some (.int .i64 D):=c.cell 0;have X:W.cell? ⟨b,1,none⟩=some (.string ⟨C.toArray⟩):=c.cell 1;have V:W.cell? ⟨b,2,none⟩=some (.string ⟨A.toArray⟩):=c.cell 2;have U:W.cell? ⟨b,3,none⟩=some (.int .i64 E):=c.cell 3;have T:W.cell? ⟨b,4,none⟩=some (.slice F B y):=c.cell 4;have J:=hid (a W t)
 have I:=hid u;have L:=hid t;clear a u t d c hb
 show Calls _ _ #[.agg #[.int .i64 m,.string ⟨l.toArray⟩,.string ⟨i.toArray⟩,.int .i64 o,.slice s j f],.pointer (some ⟨b,0,none⟩)] _ _
 go_enter func140,ntmps140
 go_upto_region 1 with(fail);have hW':=I.out;rw[hW'];clear hW';go_wp2_with (go_at_call 141;refine J.out.mono ?_;rintro e R ⟨rfl,G⟩);go_ret;exact⟨rfl,L.out.trans G⟩
theorem si{cb:Nat}{w:World}{v:Value}{l:List Pd}(q:Pd->Bool)(h:aj PdR 5 w v l)
  (hq:∀a∈l,∀cs w',Kept [] w w'->PdR w' cs a->Calls prog 140 #[.agg cs.toArray,.pointer (some ⟨cb,0,none⟩)] w' fun e w2=>e=.returned (.bool (q a))/\Kept [] w' w2) :
  Calls prog 95 #[v,.func (.func 140) #[] #[.pointer (some ⟨cb,0,none⟩)]] w fun e w'=>e=.returned (.int .i64 (idxV (l.findIdx? q)))/\Kept [] w w':=by
 obtain⟨sa,sc,rfl,Q,_⟩:=h.form;have U:=hid hq;have y:=hid h;clear hq h
 go_enter func95,ntmps95
 go_wp2_with fail
 go_loopw [8] (fun v wr=>∃j:Nat,j<=l.length/\v=.int .i64 j/\Kept [] w wr/\∀a∈l.take j,q a=false) (fun v _=>l.length - (intOf v).toNat)
 case atStart=>exact⟨0,Nat.zero_le _,rfl,Kept.refl _ _,by simp⟩
 case round =>
  obtain⟨j,hj,rfl,f,m⟩:=hrel;have p:=hid f;have g:=hid m;clear m
  by_cases hlt:j < l.length
  ·have hlt':(j:Int) < (l.length:Int):=by omega
   have t:=y.out.kept (fun c a hR=>PdR.kept f hR) f;obtain⟨b,d,rfl,I⟩:=t.at_ (by omega);obtain⟨a,i⟩:∃a,l[j]?=some a:=⟨_,List.getElem?_eq_getElem hlt⟩;obtain⟨T,R,G,s⟩:=I j a i;have o:=U.out a (List.mem_of_getElem? i) T wr f G;obtain⟨r,F⟩:∃r,q a=r:=⟨_,rfl⟩;rw[F]at o;have B:=hid i;have u:=hid F;clear I t i F f;obtain⟨N,M,L,O,C⟩:=a;obtain⟨P,D,rfl,_⟩:=G.rows;have y0:wr.cell? ⟨b,d+j*5,none⟩=some (.int .i64 N):=s 0 _ (by decide) rfl;have Z:wr.cell? ⟨b,d+j*5+1,none⟩=some (.string ⟨M.toArray⟩):=s 1 _ (by decide) rfl;have Y:wr.cell? ⟨b,d+j*5+2,none⟩=some (.string ⟨L.toArray⟩):=s 2 _ (by decide) rfl;have X:wr.cell? ⟨b,d+j*5+3,none⟩=some (.int .i64 O):=s 3 _ (by decide) rfl;have V:wr.cell? ⟨b,d+j*5+4,none⟩=some (.slice P C.length D):=s 4 _ (by decide) rfl;have A:=hid o;clear R G s o
   cases r
   ·go_wp2_with (go_at_call 140;refine A.out.mono ?_;rintro e J ⟨rfl,E⟩)
    go_roundw
    case rel =>
     refine⟨j+1,by omega,by go_num,p.out.trans E,fun x n=>?_⟩;rw[List.take_add_one,B.out]at n
     rcases List.mem_append.1 n with n|n
     ·exact g.out x n
     ·simp at n;rw[n];exact u.out
    case measure=>simp[intOf];omega
   ·go_wp2_with (go_at_call 140;refine A.out.mono ?_;rintro e J ⟨rfl,E⟩);go_ret;exact⟨by rw[eL g.out B.out u.out];rfl,p.out.trans E⟩
  ·obtain rfl:j=l.length:=by omega
   have k:=eM (q:=q) (l:=l) (by rw[<-List.take_length (l:=l)];exact g.out);have z:=hid k;clear k;go_wp2_with fail;go_ret;exact⟨by rw[z.out];rfl,p.out⟩
theorem ym{w:World}{b:Nat}{ds cs:List Value}{t p:Pss}(hb:Blk w b 36 ds.toArray)(ht:PssR w ds t)(hp:PssR w cs p) :
  Calls prog 139 #[.agg cs.toArray,.pointer (some ⟨b,0,none⟩)] w fun e w'=>e=.returned (.bool (ig t p))/\Kept [] w w':=by
 obtain⟨X,G,rfl,g,_⟩:=ht;obtain⟨Y,x,rfl,i,_⟩:=hp;have d:=fun(w':World) (k:Kept [] w w')=>kK (i.kept k) (g.kept k);obtain⟨J,I,rfl,_,_⟩:=g.form;obtain⟨z,y,rfl,_,_⟩:=i.form
 unfold ig
 obtain⟨D,C,j,_⟩:=t;obtain⟨o,m,l,_⟩:=p
 dsimp only at d hb ⊢
 obtain⟨v,h⟩:∃n,l.length=n:=⟨_,rfl⟩;obtain⟨F,f⟩:∃n,j.length=n:=⟨_,rfl⟩;rw[h,f]at d;rw[f]at hb;rw[h];clear g i h f;obtain⟨W,s⟩:∃W,w.alloc (.cells #[.string ⟨o.toArray⟩,.int .i64 m,.slice z v y,x] 36)=W:=⟨_,rfl⟩;have q:Kept [] w W:=s▸(Kept.refl _ _).alloc _;have c:Blk W w.heap.size 36 #[.string ⟨o.toArray⟩,.int .i64 m,.slice z v y,x]:=s▸Blk.new _ _ _;have P:W.cell? ⟨w.heap.size,0,none⟩=some (.string ⟨o.toArray⟩):=c.cell 0;have O:W.cell? ⟨w.heap.size,1,none⟩=some (.int .i64 m):=c.cell 1;have N:W.cell? ⟨w.heap.size,2,none⟩=some (.slice z v y):=c.cell 2;have M:W.cell? ⟨w.heap.size,3,none⟩=some (x):=c.cell 3;have a:=hb.kept q (by simp);have V:W.cell? ⟨b,0,none⟩=some (.string ⟨D.toArray⟩):=a.cell 0;have U:W.cell? ⟨b,1,none⟩=some (.int .i64 C):=a.cell 1;have T:W.cell? ⟨b,2,none⟩=some (.slice J F I):=a.cell 2;have R:W.cell? ⟨b,3,none⟩=some (G):=a.cell 3;have u:=d W q;obtain⟨r,E⟩:∃r,decide (l=j)=r:=⟨_,rfl⟩;rw[E]at u ⊢;have u:=hid u;have A:=hid s;have B:=hid q;clear d s q c a hb E
 by_cases n1:o=D
 ·subst n1
  by_cases n2:m=C
  ·subst n2
   go_enter func139,ntmps139
   go_upto_region 1 with(fail);have hW':=A.out;rw[hW'];clear hW';go_wp2_with (go_at_call 83;refine u.out.mono ?_;rintro e Q ⟨rfl,L⟩);go_ret;exact⟨by simp,B.out.trans L⟩
  ·go_enter func139,ntmps139
   go_upto_region 1 with(fail);have hW':=A.out;rw[hW'];clear hW';go_wp2_with fail;go_ret;exact⟨by simp,B.out⟩
 ·go_enter func139,ntmps139
  go_upto_region 1 with(fail);have hW':=A.out;rw[hW'];clear hW';go_wp2_with fail;go_ret;exact⟨by simp,B.out⟩
theorem wR{cb:Nat}{w:World}{v:Value}{l:List Pss}(q:Pss->Bool)(h:aj PssR 4 w v l)
  (hq:∀a∈l,∀cs w',Kept [] w w'->PssR w' cs a->Calls prog 139 #[.agg cs.toArray,.pointer (some ⟨cb,0,none⟩)] w' fun e w2=>e=.returned (.bool (q a))/\Kept [] w' w2) :
  Calls prog 138 #[v,.func (.func 139) #[] #[.pointer (some ⟨cb,0,none⟩)]] w fun e w'=>e=.returned (.int .i64 (idxV (l.findIdx? q)))/\Kept [] w w':=by
 obtain⟨Z,Y,rfl,N,_⟩:=h.form;have Q:=hid hq;have y:=hid h;clear hq h
 go_enter func138,ntmps138
 go_wp2_with fail
 go_loopw [8] (fun v wr=>∃j:Nat,j<=l.length/\v=.int .i64 j/\Kept [] w wr/\∀a∈l.take j,q a=false) (fun v _=>l.length - (intOf v).toNat)
 case atStart=>exact⟨0,Nat.zero_le _,rfl,Kept.refl _ _,by simp⟩
 case round =>
  obtain⟨j,hj,rfl,d,m⟩:=hrel;have p:=hid d;have f:=hid m;clear m
  by_cases hlt:j < l.length
  ·have hlt':(j:Int) < (l.length:Int):=by omega
   have s:=y.out.kept (fun c a hR=>PssR.kept hR d) d;obtain⟨b,g,rfl,G⟩:=s.at_ (by omega);obtain⟨a,i⟩:∃a,l[j]?=some a:=⟨_,List.getElem?_eq_getElem hlt⟩;obtain⟨P,O,F,t⟩:=G j a i;have o:=Q.out a (List.mem_of_getElem? i) P wr d F;obtain⟨r,E⟩:∃r,q a=r:=⟨_,rfl⟩;rw[E]at o;have B:=hid i;have u:=hid E;clear G s i E d;have h2':=F;obtain⟨X,J,rfl,D,_⟩:=h2';obtain⟨M,L,rfl,_,_⟩:=D.form;have V:wr.cell? ⟨b,g+j*4,none⟩=some (.string ⟨a.name.toArray⟩):=t 0 _ (by decide) rfl;have U:wr.cell? ⟨b,g+j*4+1,none⟩=some (.int .i64 a.pub):=t 1 _ (by decide) rfl;have T:wr.cell? ⟨b,g+j*4+2,none⟩=some (.slice M a.attrs.length L):=t 2 _ (by decide) rfl;have R:wr.cell? ⟨b,g+j*4+3,none⟩=some (J):=t 3 _ (by decide) rfl;have A:=hid o;clear O F t o
   cases r
   ·go_wp2_with (go_at_call 139;refine A.out.mono ?_;rintro e I ⟨rfl,C⟩)
    go_roundw
    case rel =>
     refine⟨j+1,by omega,by go_num,p.out.trans C,fun x n=>?_⟩;rw[List.take_add_one,B.out]at n
     rcases List.mem_append.1 n with n|n
     ·exact f.out x n
     ·simp at n;rw[n];exact u.out
    case measure=>simp[intOf];omega
   ·go_wp2_with (go_at_call 139;refine A.out.mono ?_;rintro e I ⟨rfl,C⟩);go_ret;exact⟨by rw[eL f.out B.out u.out];rfl,p.out.trans C⟩
  ·obtain rfl:j=l.length:=by omega
   have k:=eM (q:=q) (l:=l) (by rw[<-List.take_length (l:=l)];exact f.out);have z:=hid k;clear k;go_wp2_with fail;go_ret;exact⟨by rw[z.out];rfl,p.out⟩
theorem xS{B:Nat}{w:World}{cs:List Value}{p:Pd}(hp:PdR w cs p)(hsh:ct p=true)(hE:EnvB B w) :
  Calls prog 53 #[.agg cs.toArray] w fun e w'=>e=.returned (.bool (!aP p))/\Kept [] w w':=by
 have l:=fun(w':World) (k:Kept [] w w')=>cA (PdR.kept k hp) hsh (hE.kept0 k);obtain⟨r,s⟩:∃r,aP p=r:=⟨_,rfl⟩;rw[s]at l ⊢;obtain⟨h,g,d,i,o⟩:=p;obtain⟨j,b,rfl,_⟩:=hp.rows;obtain⟨f,c⟩:∃n,o.length=n:=⟨_,rfl⟩;rw[c]at l ⊢;clear hp c s hsh hE;obtain⟨W,m⟩:∃W,w.alloc (.cells #[.int .i64 h,.string ⟨g.toArray⟩,.string ⟨d.toArray⟩,.int .i64 i,.slice j f b] 46)=W:=⟨_,rfl⟩;have q:Kept [] w W:=m▸(Kept.refl _ _).alloc _;have a:Blk W w.heap.size 46 #[.int .i64 h,.string ⟨g.toArray⟩,.string ⟨d.toArray⟩,.int .i64 i,.slice j f b]:=m▸Blk.new _ _ _;have D:W.cell? ⟨w.heap.size,0,none⟩=some (.int .i64 h):=a.cell 0;have C:W.cell? ⟨w.heap.size,1,none⟩=some (.string ⟨g.toArray⟩):=a.cell 1;have A:W.cell? ⟨w.heap.size,2,none⟩=some (.string ⟨d.toArray⟩):=a.cell 2;have z:W.cell? ⟨w.heap.size,3,none⟩=some (.int .i64 i):=a.cell 3;have y:W.cell? ⟨w.heap.size,4,none⟩=some (.slice j f b):=a.cell 4;have v:=hid (l W q);have u:=hid m;have x:=hid q;clear l m q a
 show Calls _ _ #[.agg #[.int .i64 h,.string ⟨g.toArray⟩,.string ⟨d.toArray⟩,.int .i64 i,.slice j f b]] _ _
 go_enter func53,ntmps53
 go_upto_region 1 with(fail);have hW':=u.out;rw[hW'];clear hW';go_wp2_with (go_at_call 33;refine v.out.mono ?_;rintro e E ⟨rfl,t⟩);go_ret;exact⟨rfl,x.out.trans t⟩
theorem xO{w:World}{v:Value}{l:List Pd}(q:Pd->Bool)(h:aj PdR 5 w v l)
  (hq:∀a∈l,∀cs w',Kept [] w w'->PdR w' cs a->Calls prog 53 #[.agg cs.toArray] w' fun e w2=>e=.returned (.bool (q a))/\Kept [] w' w2) :
  Calls prog 95 #[v,.func (.func 53) #[] #[]] w fun e w'=>e=.returned (.int .i64 (idxV (l.findIdx? q)))/\Kept [] w w':=by
 obtain⟨sa,sc,rfl,Q,_⟩:=h.form;have U:=hid hq;have y:=hid h;clear hq h
 go_enter func95,ntmps95
 go_wp2_with fail
 go_loopw [8] (fun v wr=>∃j:Nat,j<=l.length/\v=.int .i64 j/\Kept [] w wr/\∀a∈l.take j,q a=false) (fun v _=>l.length - (intOf v).toNat)
 case atStart=>exact⟨0,Nat.zero_le _,rfl,Kept.refl _ _,by simp⟩
 case round =>
  obtain⟨j,hj,rfl,f,m⟩:=hrel;have p:=hid f;have g:=hid m;clear m
  by_cases hlt:j < l.length
  ·have hlt':(j:Int) < (l.length:Int):=by omega
   have t:=y.out.kept (fun c a hR=>PdR.kept f hR) f;obtain⟨b,d,rfl,I⟩:=t.at_ (by omega);obtain⟨a,i⟩:∃a,l[j]?=some a:=⟨_,List.getElem?_eq_getElem hlt⟩;obtain⟨T,R,G,s⟩:=I j a i;have o:=U.out a (List.mem_of_getElem? i) T wr f G;obtain⟨r,F⟩:∃r,q a=r:=⟨_,rfl⟩;rw[F]at o;have B:=hid i;have u:=hid F;clear I t i F f;obtain⟨N,M,L,O,C⟩:=a;obtain⟨P,D,rfl,_⟩:=G.rows;have y0:wr.cell? ⟨b,d+j*5,none⟩=some (.int .i64 N):=s 0 _ (by decide) rfl;have Z:wr.cell? ⟨b,d+j*5+1,none⟩=some (.string ⟨M.toArray⟩):=s 1 _ (by decide) rfl;have Y:wr.cell? ⟨b,d+j*5+2,none⟩=some (.string ⟨L.toArray⟩):=s 2 _ (by decide) rfl;have X:wr.cell? ⟨b,d+j*5+3,none⟩=some (.int .i64 O):=s 3 _ (by decide) rfl;have V:wr.cell? ⟨b,d+j*5+4,none⟩=some (.slice P C.length D):=s 4 _ (by decide) rfl;have A:=hid o;clear R G s o
   cases r
   ·go_wp2_with (go_at_call 53;refine A.out.mono ?_;rintro e J ⟨rfl,E⟩)
    go_roundw
    case rel =>
     refine⟨j+1,by omega,by go_num,p.out.trans E,fun x n=>?_⟩;rw[List.take_add_one,B.out]at n
     rcases List.mem_append.1 n with n|n
     ·exact g.out x n
     ·simp at n;rw[n];exact u.out
    case measure=>simp[intOf];omega
   ·go_wp2_with (go_at_call 53;refine A.out.mono ?_;rintro e J ⟨rfl,E⟩);go_ret;exact⟨by rw[eL g.out B.out u.out];rfl,p.out.trans E⟩
  ·obtain rfl:j=l.length:=by omega
   have k:=eM (q:=q) (l:=l) (by rw[<-List.take_length (l:=l)];exact g.out);have z:=hid k;clear k;go_wp2_with fail;go_ret;exact⟨by rw[z.out];rfl,p.out⟩
theorem vO{w:World}{v:Value}{l:List Pd}(q:Pd->Bool)(h:aj PdR 5 w v l)
  (hq:∀a∈l,∀cs w',Kept [] w w'->PdR w' cs a->Calls prog 53 #[.agg cs.toArray] w' fun e w2=>e=.returned (.bool (q a))/\Kept [] w' w2) :
  Calls prog 52 #[v,.func (.func 53) #[] #[]] w fun e w'=>e=.returned (.bool (l.any q))/\Kept [] w w':=by
 have c:=hid (xO q h hq);rw[jy];obtain⟨g,f,rfl,k,_⟩:=h.form;clear h hq
 cases ho:l.findIdx? q with
 |none =>
  rw[ho]at c;have b:Hid (Calls prog 95 #[.slice g l.length f,.func (.func 53) #[] #[]] w fun e w'=>e=.returned (.int .i64 (-1))/\Kept [] w w'):=c;clear c ho
  go_enter func52,ntmps52
  go_wp2_with (go_at_call 95;refine b.out.mono ?_;rintro e j ⟨rfl,d⟩);go_ret;exact⟨rfl,d⟩
 |some i =>
  rw[ho]at c;have b:Hid (Calls prog 95 #[.slice g l.length f,.func (.func 53) #[] #[]] w fun e w'=>e=.returned (.int .i64 (i:Int))/\Kept [] w w'):=c
  have m:(0:Int)<=(i:Int):=by omega
  clear c ho
  go_enter func52,ntmps52
  go_wp2_with (go_at_call 95;refine b.out.mono ?_;rintro e j ⟨rfl,d⟩);go_ret;exact⟨rfl,d⟩
theorem xR{B:Nat}{w:World}{cs:List Value}{m:Mb}(hm:MbR w cs m)(hs:∀b∈m.binds,b.1.length<=10000000)(hl:m.binds.length<=100000)(hE:EnvB B w) :
  Calls prog 55 #[.agg cs.toArray] w fun e w'=>e=.returned (.bool (!memB m))/\Kept [] w w':=by
 obtain⟨M,L,rfl,u,t⟩:=hm;have c:=fun(w':World) (k:Kept [] w w')=>jp (m:=m) (aj.kept (w':=w') u (fun _ _ x=>x) k) (t.kept k) hs hl (hE.kept0 k);obtain⟨r,v⟩:∃r,memB m=r:=⟨_,rfl⟩;rw[v]at c ⊢;obtain⟨q,p,rfl,_,_⟩:=aj.form u;obtain⟨i,h,rfl,_,_⟩:=t.form;obtain⟨A,y,j⟩:=m
 dsimp only at c ⊢
 obtain⟨o,f⟩:∃n,A.length=n:=⟨_,rfl⟩;obtain⟨g,d⟩:∃n,y.length=n:=⟨_,rfl⟩;rw[f,d]at c ⊢;clear u t f d v hs hl hE;obtain⟨W,l⟩:∃W,w.alloc (.cells #[.slice q o p,.slice i g h,.int .i64 j] 74)=W:=⟨_,rfl⟩;have s:Kept [] w W:=l▸(Kept.refl _ _).alloc _;have a:Blk W w.heap.size 74 #[.slice q o p,.slice i g h,.int .i64 j]:=l▸Blk.new _ _ _;have I:W.cell? ⟨w.heap.size,0,none⟩=some (.slice q o p):=a.cell 0;have G:W.cell? ⟨w.heap.size,1,none⟩=some (.slice i g h):=a.cell 1;have F:W.cell? ⟨w.heap.size,2,none⟩=some (.int .i64 j):=a.cell 2;have D:=hid (c W s);have C:=hid l;have E:=hid s;clear c l s a
 show Calls _ _ #[.agg #[.slice q o p,.slice i g h,.int .i64 j]] _ _
 go_enter func55,ntmps55
 go_upto_region 1 with(fail);have hW':=C.out;rw[hW'];clear hW';go_wp2_with (go_at_call 56;refine D.out.mono ?_;rintro e J ⟨rfl,z⟩);go_ret;exact⟨rfl,E.out.trans z⟩
theorem xP{w:World}{v:Value}{l:List Mb}(q:Mb->Bool)(h:aj MbR 3 w v l)
  (hq:∀a∈l,∀cs w',Kept [] w w'->MbR w' cs a->Calls prog 55 #[.agg cs.toArray] w' fun e w2=>e=.returned (.bool (q a))/\Kept [] w' w2) :
  Calls prog 96 #[v,.func (.func 55) #[] #[]] w fun e w'=>e=.returned (.int .i64 (idxV (l.findIdx? q)))/\Kept [] w w':=by
 obtain⟨sa,sc,rfl,N,_⟩:=h.form;have T:=hid hq;have u:=hid h;clear hq h
 go_enter func96,ntmps96
 go_wp2_with fail
 go_loopw [8] (fun v wr=>∃j:Nat,j<=l.length/\v=.int .i64 j/\Kept [] w wr/\∀a∈l.take j,q a=false) (fun v _=>l.length - (intOf v).toNat)
 case atStart=>exact⟨0,Nat.zero_le _,rfl,Kept.refl _ _,by simp⟩
 case round =>
  obtain⟨j,hj,rfl,d,k⟩:=hrel;have p:=hid d;have f:=hid k;clear k
  by_cases hlt:j < l.length
  ·have hlt':(j:Int) < (l.length:Int):=by omega
   have s:=u.out.kept (fun c a hR=>MbR.kept hR d) d;obtain⟨b,m,rfl,I⟩:=s.at_ (by omega);obtain⟨a,g⟩:∃a,l[j]?=some a:=⟨_,List.getElem?_eq_getElem hlt⟩;obtain⟨P,O,G,B⟩:=I j a g;have o:=T.out a (List.mem_of_getElem? g) P wr d G;obtain⟨r,E⟩:∃r,q a=r:=⟨_,rfl⟩;rw[E]at o;have A:=hid g;have t:=hid E;clear I s g E d;have h2':=G;obtain⟨Z,Y,rfl,F,D⟩:=h2';obtain⟨R,Q,rfl,_,_⟩:=aj.form F;obtain⟨M,L,rfl,_,_⟩:=D.form;have X:wr.cell? ⟨b,m+j*3,none⟩=some (.slice R a.binds.length Q):=B 0 _ (by decide) rfl;have V:wr.cell? ⟨b,m+j*3+1,none⟩=some (.slice M a.tickets.length L):=B 1 _ (by decide) rfl;have U:wr.cell? ⟨b,m+j*3+2,none⟩=some (.int .i64 a.rev):=B 2 _ (by decide) rfl;have z:=hid o;clear O G B o
   cases r
   ·go_wp2_with (go_at_call 55;refine z.out.mono ?_;rintro e J ⟨rfl,C⟩)
    go_roundw
    case rel =>
     refine⟨j+1,by omega,by go_num,p.out.trans C,fun x n=>?_⟩;rw[List.take_add_one,A.out]at n
     rcases List.mem_append.1 n with n|n
     ·exact f.out x n
     ·simp at n;rw[n];exact t.out
    case measure=>simp[intOf];omega
   ·go_wp2_with (go_at_call 55;refine z.out.mono ?_;rintro e J ⟨rfl,C⟩);go_ret;exact⟨by rw[eL f.out A.out t.out];rfl,p.out.trans C⟩
  ·obtain rfl:j=l.length:=by omega
   have i:=eM (q:=q) (l:=l) (by rw[<-List.take_length (l:=l)];exact f.out);have y:=hid i;clear i;go_wp2_with fail;go_ret;exact⟨by rw[y.out];rfl,p.out⟩
theorem vP{w:World}{v:Value}{l:List Mb}(q:Mb->Bool)(h:aj MbR 3 w v l)
  (hq:∀a∈l,∀cs w',Kept [] w w'->MbR w' cs a->Calls prog 55 #[.agg cs.toArray] w' fun e w2=>e=.returned (.bool (q a))/\Kept [] w' w2) :
  Calls prog 54 #[v,.func (.func 55) #[] #[]] w fun e w'=>e=.returned (.bool (l.any q))/\Kept [] w w':=by
 have c:=hid (xP q h hq);rw[jy];obtain⟨g,f,rfl,k,_⟩:=h.form;clear h hq
 cases ho:l.findIdx? q with
 |none =>
  rw[ho]at c;have b:Hid (Calls prog 96 #[.slice g l.length f,.func (.func 55) #[] #[]] w fun e w'=>e=.returned (.int .i64 (-1))/\Kept [] w w'):=c;clear c ho
  go_enter func54,ntmps54
  go_wp2_with (go_at_call 96;refine b.out.mono ?_;rintro e j ⟨rfl,d⟩);go_ret;exact⟨rfl,d⟩
 |some i =>
  rw[ho]at c;have b:Hid (Calls prog 96 #[.slice g l.length f,.func (.func 55) #[] #[]] w fun e w'=>e=.returned (.int .i64 (i:Int))/\Kept [] w w'):=c
  have m:(0:Int)<=(i:Int):=by omega
  clear c ho
  go_enter func54,ntmps54
  go_wp2_with (go_at_call 96;refine b.out.mono ?_;rintro e j ⟨rfl,d⟩);go_ret;exact⟨rfl,d⟩
theorem xQ{w:World}{b:Nat}{nq nm nu qc mc uc:Nat}{qa ma ua:Option Addr}{cs:List Value}{x:Sn}(hb:Blk w b 67 #[.slice qa nq qc,.slice ma nm mc,.slice ua nu uc])(hx:SnR w cs x)(hq:nq<=1000000)(hm:nm<=1000000) :
  Calls prog 58 #[.agg cs.toArray,.pointer (some ⟨b,0,none⟩)] w fun e w'=>e=.returned (.bool (!useB nq nm x))/\Kept [] w w':=by
 unfold SnR at hx
 subst hx;have i:=fun(w':World)=>mE nq nm nu qc mc uc qa ma ua x w' hq hm;obtain⟨r,l⟩:∃r,useB nq nm x=r:=⟨_,rfl⟩;rw[l]at i ⊢;obtain⟨h,g,f,d⟩:=x
 dsimp only at i ⊢
 clear hq hm l;obtain⟨W,j⟩:∃W,w.alloc (.cells #[.int .i64 h,.int .i64 g,.int .i64 f,.int .i64 d] 84)=W:=⟨_,rfl⟩;have k:Kept [] w W:=j▸(Kept.refl _ _).alloc _;have a:Blk W w.heap.size 84 #[.int .i64 h,.int .i64 g,.int .i64 f,.int .i64 d]:=j▸Blk.new _ _ _;have u:W.cell? ⟨w.heap.size,0,none⟩=some (.int .i64 h):=a.cell 0;have t:W.cell? ⟨w.heap.size,1,none⟩=some (.int .i64 g):=a.cell 1;have s:W.cell? ⟨w.heap.size,2,none⟩=some (.int .i64 f):=a.cell 2;have q:W.cell? ⟨w.heap.size,3,none⟩=some (.int .i64 d):=a.cell 3;have c:=hb.kept k (by simp);have A:W.cell? ⟨b,0,none⟩=some (.slice qa nq qc):=c.cell 0;have z:W.cell? ⟨b,1,none⟩=some (.slice ma nm mc):=c.cell 1;have y:W.cell? ⟨b,2,none⟩=some (.slice ua nu uc):=c.cell 2;have o:=hid (i W);have n:=hid j;have p:=hid k;clear i j k a c hb
 show Calls _ _ #[.agg #[.int .i64 h,.int .i64 g,.int .i64 f,.int .i64 d],.pointer (some ⟨b,0,none⟩)] _ _
 go_enter func58,ntmps58
 go_upto_region 1 with(fail);have hW':=n.out;rw[hW'];clear hW';go_wp2_with (go_at_call 59;refine o.out.mono ?_;rintro e v ⟨rfl,m⟩);go_ret;exact⟨rfl,p.out.trans m⟩
theorem xN{cb:Nat}{w:World}{v:Value}{l:List Sn}(q:Sn->Bool)(h:aj SnR 4 w v l)
  (hq:∀a∈l,∀cs w',Kept [] w w'->SnR w' cs a->Calls prog 58 #[.agg cs.toArray,.pointer (some ⟨cb,0,none⟩)] w' fun e w2=>e=.returned (.bool (q a))/\Kept [] w' w2) :
  Calls prog 101 #[v,.func (.func 58) #[] #[.pointer (some ⟨cb,0,none⟩)]] w fun e w'=>e=.returned (.int .i64 (idxV (l.findIdx? q)))/\Kept [] w w':=by
 obtain⟨T,R,rfl,I,_⟩:=h.form;have M:=hid hq;have y:=hid h;clear hq h
 go_enter func101,ntmps101
 go_wp2_with fail
 go_loopw [8] (fun v wr=>∃j:Nat,j<=l.length/\v=.int .i64 j/\Kept [] w wr/\∀a∈l.take j,q a=false) (fun v _=>l.length - (intOf v).toNat)
 case atStart=>exact⟨0,Nat.zero_le _,rfl,Kept.refl _ _,by simp⟩
 case round =>
  obtain⟨j,U,rfl,g,m⟩:=hrel;have p:=hid g;have d:=hid m;clear m
  by_cases hlt:j < l.length
  ·have hlt':(j:Int) < (l.length:Int):=by omega
   have s:=y.out.kept (fun c a hR=>(show SnR wr c a from hR)) g;obtain⟨b,f,rfl,F⟩:=s.at_ (by omega);obtain⟨a,i⟩:∃a,l[j]?=some a:=⟨_,List.getElem?_eq_getElem hlt⟩;obtain⟨L,J,E,t⟩:=F j a i;have o:=M.out a (List.mem_of_getElem? i) L wr g E;obtain⟨r,D⟩:∃r,q a=r:=⟨_,rfl⟩;rw[D]at o;have B:=hid i;have u:=hid D;clear F s i D g;have h2':=E
   unfold SnR at h2'
   subst h2';have Q:wr.cell? ⟨b,f+j*4,none⟩=some (.int .i64 a.q):=t 0 _ (by decide) rfl;have P:wr.cell? ⟨b,f+j*4+1,none⟩=some (.int .i64 a.win):=t 1 _ (by decide) rfl;have O:wr.cell? ⟨b,f+j*4+2,none⟩=some (.int .i64 a.asof):=t 2 _ (by decide) rfl;have N:wr.cell? ⟨b,f+j*4+3,none⟩=some (.int .i64 a.hold):=t 3 _ (by decide) rfl;have A:=hid o;clear J E t o
   cases r
   ·go_wp2_with (go_at_call 58;refine A.out.mono ?_;rintro e G ⟨rfl,C⟩)
    go_roundw
    case rel =>
     refine⟨j+1,by omega,by go_num,p.out.trans C,fun x n=>?_⟩;rw[List.take_add_one,B.out]at n
     rcases List.mem_append.1 n with n|n
     ·exact d.out x n
     ·simp at n;rw[n];exact u.out
    case measure=>simp[intOf];omega
   ·go_wp2_with (go_at_call 58;refine A.out.mono ?_;rintro e G ⟨rfl,C⟩);go_ret;exact⟨by rw[eL d.out B.out u.out];rfl,p.out.trans C⟩
  ·obtain rfl:j=l.length:=by omega
   have k:=eM (q:=q) (l:=l) (by rw[<-List.take_length (l:=l)];exact d.out);have z:=hid k;clear k;go_wp2_with fail;go_ret;exact⟨by rw[z.out];rfl,p.out⟩
theorem vN{cb:Nat}{w:World}{v:Value}{l:List Sn}(q:Sn->Bool)(h:aj SnR 4 w v l)
  (hq:∀a∈l,∀cs w',Kept [] w w'->SnR w' cs a->Calls prog 58 #[.agg cs.toArray,.pointer (some ⟨cb,0,none⟩)] w' fun e w2=>e=.returned (.bool (q a))/\Kept [] w' w2) :
  Calls prog 57 #[v,.func (.func 58) #[] #[.pointer (some ⟨cb,0,none⟩)]] w fun e w'=>e=.returned (.bool (l.any q))/\Kept [] w w':=by
 have c:=hid (xN q h hq);rw[jy];obtain⟨g,f,rfl,k,_⟩:=h.form;clear h hq
 cases ho:l.findIdx? q with
 |none =>
  rw[ho]at c;have b:Hid (Calls prog 101 #[.slice g l.length f,.func (.func 58) #[] #[.pointer (some ⟨cb,0,none⟩)]] w fun e w'=>e=.returned (.int .i64 (-1))/\Kept [] w w'):=c;clear c ho
  go_enter func57,ntmps57
  go_wp2_with (go_at_call 101;refine b.out.mono ?_;rintro e j ⟨rfl,d⟩);go_ret;exact⟨rfl,d⟩
 |some i =>
  rw[ho]at c;have b:Hid (Calls prog 101 #[.slice g l.length f,.func (.func 58) #[] #[.pointer (some ⟨cb,0,none⟩)]] w fun e w'=>e=.returned (.int .i64 (i:Int))/\Kept [] w w'):=c
  have m:(0:Int)<=(i:Int):=by omega
  clear c ho
  go_enter func57,ntmps57
  go_wp2_with (go_at_call 101;refine b.out.mono ?_;rintro e j ⟨rfl,d⟩);go_ret;exact⟨rfl,d⟩
end Go.Proofs.YtpcmamoomaddoaaGreatDoor
