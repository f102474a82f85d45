import Derived.Test.YtcidfldeiklcjaaGreatDoorInp
set_option maxRecDepth 100000
set_option maxHeartbeats 32000000
namespace Go.Proofs.YtcidfldeiklcjaaGreatDoor
open Go.RowKit Tm
open Go.Proofs.Tryz
open Lib(hid)
theorem pP(va vb:Value)(a b:Ent)(w:World)(ha:EntA w va a)(hb:EntA w vb b)(ia:EntI a)(ib:EntI b) :
  Calls prog 66 #[va,vb] w fun en w'=>en=.returned (.bool (ltB a b))/\Kept [] w w':=by
 have ha':=ha;have hb':=hb;obtain⟨O,rfl,o⟩:=ha;obtain⟨N,rfl,n⟩:=hb;obtain⟨k,j,rfl,_,_⟩:=o.form;obtain⟨i,h,rfl,_,_⟩:=n.form;obtain⟨W,p⟩:=nm ((w.alloc (.cells #[a.gate,a.no,a.time,a.kind,.slice k a.nums.length j,a.text,a.c,a.s] 52)).alloc (.cells #[b.gate,b.no,b.time,b.kind,.slice i b.nums.length h,b.text,b.c,b.s] 52));have B:Blk W w.heap.size 52 #[a.gate,a.no,a.time,a.kind,.slice k a.nums.length j,a.text,a.c,a.s]:=p▸(Blk.new _ _ _).alloc _
 have A:Blk W (w.heap.size+1) 52 #[b.gate,b.no,b.time,b.kind,.slice i b.nums.length h,b.text,b.c,b.s]:=by
  have:=Blk.new (w.alloc (.cells #[a.gate,a.no,a.time,a.kind,.slice k a.nums.length j,a.text,a.c,a.s] 52)) 52 #[b.gate,b.no,b.time,b.kind,.slice i b.nums.length h,b.text,b.c,b.s];rw[p,World.size_alloc]at this;exact this
 have e:Kept [] w W:=p▸(kr.alloc _).alloc _
 have r:Hid (∀x:KW W,Calls prog 104 #[.agg #[a.gate,a.no,a.time,a.kind,.slice k a.nums.length j,a.text,a.c,a.s]] x.val fun en w2=>en=.returned (.string ⟨(encE a).toArray⟩)/\Kept [] x.val w2) :=
  fun x=>dY _ a x.val (ha'.kept (e.trans x.property)) ia
 have q:Hid (∀x:KW W,Calls prog 104 #[.agg #[b.gate,b.no,b.time,b.kind,.slice i b.nums.length h,b.text,b.c,b.s]] x.val fun en w2=>en=.returned (.string ⟨(encE b).toArray⟩)/\Kept [] x.val w2) :=
  fun x=>dY _ b x.val (hb'.kept (e.trans x.property)) ib
 obtain⟨I,G,p2,p3,p4,p5,p6,p7⟩:=bx8 B rfl;obtain⟨F,E,Z,Y,X,V,U,T⟩:=bx8 A rfl;have L:=hid p;have g:=hid e;have f:Hid (ltB a b=if a.gate=b.gate then(if a.no=b.no then Op.bytesLess (encE a) (encE b)else decide (a.no < b.no))else decide (a.gate < b.gate)):=rfl
 generalize J:ltB a b=R at f ⊢
 obtain⟨Q,m⟩:=nm (encE a);obtain⟨P,l⟩:=nm (encE b);rw[m]at r f;rw[l]at q f;clear p B A e o n ha' hb' ia ib J m l
 show Calls _ _ #[.agg #[a.gate,a.no,a.time,a.kind,.slice k a.nums.length j,a.text,a.c,a.s],.agg #[b.gate,b.no,b.time,b.kind,.slice i b.nums.length h,b.text,b.c,b.s]] _ _
 go_enter func66,ntmps66
 go_upto_region 1 with(fail);have hW':(w.alloc (.cells #[a.gate,a.no,a.time,a.kind,.slice k a.nums.length j,a.text,a.c,a.s] 52)).alloc (.cells #[b.gate,b.no,b.time,b.kind,.slice i b.nums.length h,b.text,b.c,b.s] 52)=W:=L.out;rw[hW'];clear hW';have y:=I ⟨W,kr⟩;have v:=G ⟨W,kr⟩;have u:=F ⟨W,kr⟩;have t:=E ⟨W,kr⟩
 by_cases hg:a.gate=b.gate
 ·have D:(a.gate != b.gate)=false:=by simpa using hg
  have d:=f.out;rw[if_pos hg]at d
  by_cases hn:a.no=b.no
  ·have C:(a.no != b.no)=false:=by simpa using hn
   rw[if_pos hn]at d;subst d;clear hg hn f;go_wp2_with fail;clear y v u t D C;refine ax W kr (by kernel_rfl) (by kernel_rfl) ?_
   repeat (go_big_quiet_step (first|(go_at_call 104;with_reducible exact aA (r.out _))|(go_at_call 104;with_reducible exact aA (q.out _))))
   refine wpQuiet_nil ?_;rintro M ⟨⟨_,z⟩,rfl⟩;go_wp2_with fail;go_ret;exact⟨rfl,g.trans z⟩
  ·have C:(a.no != b.no)=true:=by simpa using hn
   rw[if_neg hn]at d;subst d;clear hg hn f r q;go_wp2_with fail;go_ret;exact⟨rfl,g⟩
 ·have D:(a.gate != b.gate)=true:=by simpa using hg
  have d:=f.out;rw[if_neg hg]at d;subst d;clear hg f r q;go_wp2_with fail;go_ret;exact⟨rfl,g⟩
theorem lj(va vb:Value)(a b:Ent)(w:World)(ha:EntA w va a)(hb:EntA w vb b)(ia:EntI a)(ib:EntI b) :
  Calls prog 67 #[va,vb] w fun en w'=>en=.returned (.bool (decide (encE a=encE b)))/\Kept [] w w':=by
 have ha':=ha;have hb':=hb;obtain⟨C,rfl,m⟩:=ha;obtain⟨B,rfl,l⟩:=hb;obtain⟨i,g,rfl,_,_⟩:=m.form;obtain⟨f,e,rfl,_,_⟩:=l.form;obtain⟨W,n⟩:=nm ((w.alloc (.cells #[a.gate,a.no,a.time,a.kind,.slice i a.nums.length g,a.text,a.c,a.s] 52)).alloc (.cells #[b.gate,b.no,b.time,b.kind,.slice f b.nums.length e,b.text,b.c,b.s] 52));have r:Blk W w.heap.size 52 #[a.gate,a.no,a.time,a.kind,.slice i a.nums.length g,a.text,a.c,a.s]:=n▸(Blk.new _ _ _).alloc _
 have q:Blk W (w.heap.size+1) 52 #[b.gate,b.no,b.time,b.kind,.slice f b.nums.length e,b.text,b.c,b.s]:=by
  have:=Blk.new (w.alloc (.cells #[a.gate,a.no,a.time,a.kind,.slice i a.nums.length g,a.text,a.c,a.s] 52)) 52 #[b.gate,b.no,b.time,b.kind,.slice f b.nums.length e,b.text,b.c,b.s];rw[n,World.size_alloc]at this;exact this
 have d:Kept [] w W:=n▸(kr.alloc _).alloc _
 have u:Hid (∀x:KW W,Calls prog 104 #[.agg #[a.gate,a.no,a.time,a.kind,.slice i a.nums.length g,a.text,a.c,a.s]] x.val fun en w2=>en=.returned (.string ⟨(encE a).toArray⟩)/\Kept [] x.val w2) :=
  fun x=>dY _ a x.val (ha'.kept (d.trans x.property)) ia
 have t:Hid (∀x:KW W,Calls prog 104 #[.agg #[b.gate,b.no,b.time,b.kind,.slice f b.nums.length e,b.text,b.c,b.s]] x.val fun en w2=>en=.returned (.string ⟨(encE b).toArray⟩)/\Kept [] x.val w2) :=
  fun x=>dY _ b x.val (hb'.kept (d.trans x.property)) ib
 obtain⟨V,U,T,R,Q,P,O,N⟩:=bx8 r rfl;obtain⟨M,L,J,I,G,F,E,D⟩:=bx8 q rfl;have z:=hid n;have p:=hid d;obtain⟨y,k⟩:=nm (encE a);obtain⟨v,j⟩:=nm (encE b);rw[k]at u ⊢;rw[j]at t ⊢;clear n r q d m l ha' hb' ia ib k j
 show Calls _ _ #[.agg #[a.gate,a.no,a.time,a.kind,.slice i a.nums.length g,a.text,a.c,a.s],.agg #[b.gate,b.no,b.time,b.kind,.slice f b.nums.length e,b.text,b.c,b.s]] _ _
 go_enter func67,ntmps67
 go_upto_region 1 with(fail);have hW':(w.alloc (.cells #[a.gate,a.no,a.time,a.kind,.slice i a.nums.length g,a.text,a.c,a.s] 52)).alloc (.cells #[b.gate,b.no,b.time,b.kind,.slice f b.nums.length e,b.text,b.c,b.s] 52)=W:=z.out;rw[hW'];clear hW';refine ax W kr (by kernel_rfl) (by kernel_rfl) ?_
 repeat (go_big_quiet_step (first|(go_at_call 104;with_reducible exact aA (u.out _))|(go_at_call 104;with_reducible exact aA (t.out _))))
 refine wpQuiet_nil ?_;rintro A ⟨⟨_,o⟩,rfl⟩;go_wp2_with fail;go_ret;refine⟨?_,p.trans o⟩
 by_cases h:y=v
 ·subst h;simp
 ·simp[h]
end Go.Proofs.YtcidfldeiklcjaaGreatDoor
namespace Go.Proofs.YtcidfldeiklcjaaGreatDoor.Bf
variable {G:Gf} {n:Nat}
def jP(G:Gf)(n:Nat)(M:Gf)(a b m:Nat)(x:Int):Prop:=(x=far/\∀y,y < m->¬(M a y < far/\G y b < far)) \/
 (x < far/\(∃y,y < n/\M a y < far/\G y b < far/\M a y+G y b=x)/\∀y,y < m->M a y < far->G y b < far->x<=M a y+G y b)
theorem rF(M:Gf)(a b:Nat):jP G n M a b 0 far:=Or.inl ⟨rfl,fun y hy=>by omega⟩
theorem np{M:Gf}{a b m:Nat}{x:Int}(h:jP G n M a b m x)(hs:¬(M a m < far/\G m b < far)):jP G n M a b (m+1) x:=by
 rcases h with⟨h1,h2⟩|⟨h1,h2,h3⟩
 ·refine Or.inl ⟨h1,fun y hy=>?_⟩
  by_cases e:y=m
  ·subst e;exact hs
  ·exact h2 y (by omega)
 ·refine Or.inr ⟨h1,h2,fun y hy g1 g2=>?_⟩
  by_cases e:y=m
  ·subst e;exact absurd ⟨g1,g2⟩ hs
  ·exact h3 y (by omega) g1 g2
theorem ud{M:Gf}{a b m:Nat}{x:Int}(h:jP G n M a b m x)(hm:m < n)(g1:M a m < far)(g2:G m b < far)(hs:M a m+G m b < far):jP G n M a b (m+1) (min x (M a m+G m b)):=by
 rcases h with⟨h1,h2⟩|⟨h1,⟨z,z1,z2,z3,z4⟩,h3⟩
 ·subst h1;refine Or.inr ⟨by omega,⟨m,hm,g1,g2,by omega⟩,fun y hy p1 p2=>?_⟩
  by_cases e:y=m
  ·subst e;omega
  ·exact absurd ⟨p1,p2⟩ (h2 y (by omega))
 ·refine Or.inr ⟨by omega,?_,fun y hy p1 p2=>?_⟩
  ·by_cases hc:x<=M a m+G m b
   ·exact⟨z,z1,z2,z3,by omega⟩
   ·exact⟨m,hm,g1,g2,by omega⟩
  ·by_cases e:y=m
   ·subst e;omega
   ·have:=h3 y (by omega) p1 p2;omega
theorem sY{a b k:Nat}{l:List Nat}(h:Walk G n a b l)(hl:l.length=k+2):∃y r,y < n/\Walk G n a y r/\r.length=k+1/\G y b < far/\wt G l=wt G r+G y b:=by
 obtain⟨m,rfl⟩:=List.getLast?_eq_some_iff.1 h.last
 have hm:m.length=k+1:=by simp at hl;omega
 have hne:m≠[]:=by intro e;subst e;simp at hm
 obtain⟨m',u,rfl⟩:∃m' u,m=m'++[u]:=⟨m.dropLast,m.getLast hne,(List.dropLast_concat_getLast hne).symm⟩
 have e1:m'++[u]++[b]=m'++u::[b]:=by simp
 rw[e1]at h ⊢;obtain⟨h1,h2,h3⟩:=eA h;obtain⟨_,_,he,_,hw⟩:=bW h2;refine⟨u,m'++[u],h1.lt u (by simp),h1,hm,he,?_⟩;rw[h3,hw]
 simp[wt]
theorem ue{k:Nat}{M N:Gf}(hM:Back G n k M)(h:∀a b,a < n->b < n->jP G n M a b n (N a b)):Back G n (k+1) N:=by
 intro a b m p
 have f:∀l,Walk G n a b l->l.length=k+2->∃y,y < n/\M a y < far/\G y b < far/\M a y+G y b<=wt G l:=fun l hl hk=>by
  obtain⟨y,r,i,j,c,v,C⟩:=sY hl hk
  rcases hM a y m i with⟨_,g⟩|⟨d,_,e⟩
  ·exact absurd c (g r j)
  ·have:=e r j c;exact⟨y,i,d,v,by omega⟩
 rcases h a b m p with⟨o,x⟩|⟨o,⟨y,s,B,q,A⟩,w⟩
 ·refine Or.inl ⟨o,fun l hl hk=>?_⟩;obtain⟨y,i,d,e,_⟩:=f l hl hk;exact x y i ⟨d,e⟩
 ·refine Or.inr ⟨o,?_,fun l hl hk=>?_⟩
  ·rcases hM a y m s with⟨g,_⟩|⟨_,⟨r,j,c,u⟩,_⟩
   ·omega
   ·obtain⟨d,e⟩:=eB j p q;exact⟨_,d,by rw[List.length_append,c];rfl,by omega⟩
  ·obtain⟨z,t,d,e,D⟩:=f l hl hk;have:=w z t d e;omega
theorem uB{c d:List Nat}(h1:dV G n c)(h2:dV G n d):c=d:=by
 rcases h2 with⟨rfl,h2⟩|⟨h3,h4,h5,h6⟩
 ·rcases h1 with⟨h1,_⟩|⟨h1,_⟩
  ·exact h1
  ·obtain⟨a,t,rfl,hn⟩:=dP h1;exact absurd hn (h2 _ _ (by simp))
 ·exact qC h1 h3 h4 h5 h6
end Go.Proofs.YtcidfldeiklcjaaGreatDoor.Bf
namespace Go.Proofs.YtcidfldeiklcjaaGreatDoor
open Go.RowKit Bf
theorem ju{a b n:Nat}(ha:a < n)(hb:b < n):a*n+b < n*n:=by
 have h:(a+1)*n<=n*n:=Nat.mul_le_mul_right n ha;rw[Nat.succ_mul]at h;omega
theorem sJ{a b a' b' n:Nat}(hb:b < n)(hb':b' < n)(h:a*n+b=a'*n+b'):a=a'/\b=b':=by
 have h1:(a*n+b) / n=a:=by rw[Nat.mul_comm,Nat.mul_add_div (by omega),Nat.div_eq_of_lt hb];rfl
 have h2:(a'*n+b') / n=a':=by rw[Nat.mul_comm,Nat.mul_add_div (by omega),Nat.div_eq_of_lt hb'];rfl
 have e:a=a':=by rw[<-h1,<-h2,h]
 subst e;exact⟨rfl,by omega⟩
structure FlW (w:World) (gp wb n c:Nat) (G:Gf):Prop where
 n0:w.cell? ⟨gp,0,none⟩=some (.int .i64 n)
 w0:w.cell? ⟨gp,1,none⟩=some (.slice (some ⟨wb,0,none⟩) (n*n) c)
 cc:n*n<=c
 cell:∀a b,a < n->b < n->w.cell? ⟨wb,a*n+b,none⟩=some (.int .i64 (G a b))
 fz:∀k,w.frozen? ⟨wb,k,none⟩=false
 ne:gp≠wb
 lt:wb < w.heap.size
section
variable {w w':World} {gp wb n c:Nat} {G H:Gf}
theorem FlW.kept(h:FlW w gp wb n c G)(k:Kept [] w w'):FlW w' gp wb n c G := ⟨Kept.cellOf h.n0 _ k,Kept.cellOf h.w0 _ k,h.cc,fun a b ha hb=>Kept.cellOf (h.cell a b ha hb) _ k,fun j=>by
  rw[World.frozen?_of_block (k.block wb h.lt (by simp))]
  exact h.fz j,h.ne,Nat.lt_of_lt_of_le h.lt k.size⟩
theorem FlW.congr(h:FlW w gp wb n c G)(e:∀a b,a < n->b < n->G a b=H a b):FlW w gp wb n c H := ⟨h.n0,h.w0,h.cc,fun a b ha hb=>by rw[<-e a b ha hb];exact h.cell a b ha hb,h.fz,h.ne,h.lt⟩
theorem FlW.set_(h:FlW w gp wb n c G){a b:Nat}(ha:a < n)(hb:b < n)(x:Int):FlW (w.setCell ⟨wb,a*n+b,none⟩ x) gp wb n c fun i j=>if i=a/\j=b then x else G i j:=by
 have d:∀(p:Addr),p≠⟨wb,a*n+b,none⟩->(w.setCell ⟨wb,a*n+b,none⟩ x).cell? p=w.cell? p:=fun p hp=>World.cell?_setCell_other _ _ _ _ (fun e=>hp e.symm);refine⟨?_,?_,h.cc,fun i j hi hj=>?_,fun k=>?_,h.ne,?_⟩
 ·rw[d _ (fun e=>h.ne (by injection e))];exact h.n0
 ·rw[d _ (fun e=>h.ne (by injection e))];exact h.w0
 ·by_cases e:i=a/\j=b
  ·rw[if_pos e,e.1,e.2];exact World.cell?_setCell_same _ _ _ (h.cell a b ha hb)
  ·rw[if_neg e,d _ (fun e2=>e (sJ hj hb (by injection e2)))];exact h.cell i j hi hj
 ·have:=h.fz k
  simpa using this
 ·have:=h.lt
  simpa using this
end
theorem wP(gp wb n c:Nat)(es:List Tm.Edge)(a b:Nat)(x:Int)(w:World)(h:FlW w gp wb n c (Tm.gOf es))(ha:a < n)(hb:b < n)(hn:n<=100) :
  Calls Tryz.prog 62 #[.pointer (some ⟨gp,0,none⟩),a,b,x] w fun e w'=>e=.returned (.tuple #[])/\FlW w' gp wb n c (Tm.gOf (es++[(a,b,x)]))/\Kept [wb] w w':=by
 have y:=Lib.hid h;have D:=h.n0;have t:=h.w0;have p:=h.cell a b ha hb;have l:=ju ha hb;have m:=h.cc;obtain⟨u,k⟩:=nm (n*n);obtain⟨f,d⟩:=nm (a*n)
 have s:f<=10000:=by rw[<-d];exact Nat.le_trans (Nat.mul_le_mul (by omega:a<=100) hn) (by omega)
 have q:(a:Int)*(n:Int)=(f:Int):=by rw[<-d];simp
 have A:IntKind.i64.wrap (f:Int)=(f:Int):=by rw[IntKind.wrap_i64];omega
 have B:IntKind.i64.wrap ((f:Int)+(b:Int))=(f:Int)+(b:Int):=by rw[IntKind.wrap_i64];omega
 have F:(0:Int)<=(f:Int)+(b:Int):=by omega
 rw[k]at t l m;rw[d]at p l
 have C:((f:Int)+(b:Int)).toNat=f+b:=by omega
 have E:(f:Int)+(b:Int) < (u:Int):=by omega
 have z:=h.fz (f+b)
 generalize r:Tm.gOf es a b=g at p
 have v:=Lib.hid r;have o:=Lib.hid d;clear h r d k
 go_enter Tryz.func62,Tryz.ntmps62
 go_wp2_with fail
 go_still_tail 29,(by kernel_rfl)
 change wpList _ _ _ _ _ w.drew
 go_wp2_with fail
 go_end0
 refine⟨rfl,?_,(kr.setCell (by simp) _).drew⟩;have H:=y.set_ ha hb (min g x);rw[o.out]at H;refine FlW.kept (FlW.congr H fun i j _ _=>?_) kr.drew;rw[Tm.gOf_snoc]
 simp only
 by_cases e:i=a/\j=b
 ·rw[if_pos e,if_pos ⟨e.1.symm,e.2.symm⟩,e.1,e.2,v.out]
 ·rw[if_neg e,if_neg fun h=>e ⟨h.1.symm,h.2.symm⟩]
open Go.Proofs.Tryz
theorem tG(n:Int)(w:World)(h0:0<=n)(h1:n<=1152921504606846976) :
  Calls prog 64 #[n] w fun e w'=>e=.returned (.int .i64 (n / 1000))/\Kept [] w w':=by
 have t0:n.tdiv 1000=n / 1000:=Int.tdiv_eq_ediv_of_nonneg h0
 have t1:IntKind.i64.wrap (n / 1000)=n / 1000:=by rw[IntKind.wrap_i64];omega
 go_enter func64,ntmps64
 go_wp2_with fail;go_ret;exact⟨rfl,kr⟩
theorem yf(n:Int)(w:World)(h0:0<=n)(h1:n<=1152921504606846976) :
  Calls prog 63 #[n] w fun e w'=>e=.returned (.int .i64 ((n+999) / 1000))/\Kept [] w w':=by
 have t2:IntKind.i64.wrap (n+999)=n+999:=by rw[IntKind.wrap_i64];omega
 have t0:(n+999).tdiv 1000=(n+999) / 1000:=Int.tdiv_eq_ediv_of_nonneg (by omega)
 have t1:IntKind.i64.wrap ((n+999) / 1000)=(n+999) / 1000:=by rw[IntKind.wrap_i64];omega
 go_enter func63,ntmps63
 go_wp2_with fail;go_ret;exact⟨rfl,kr⟩
end Go.Proofs.YtcidfldeiklcjaaGreatDoor
namespace Go.Proofs.YtcidfldeiklcjaaGreatDoor
open Go.RowKit Bf Tm
open Lib(hid)
structure GoL (w0:World) (gp n k:Nat) (v:Value) (wr:World):Prop where
 n0:wr.cell? ⟨gp,0,none⟩=some (.int .i64 n)
 v0:wr.cell? ⟨gp,1,none⟩=some v
 f1:∀j,wr.frozen? ⟨gp,j,none⟩=false
 own:wr.ownsRow (gp+1) 3 1 v k (ints (List.replicate k 1152921504606846976))
 kept:Kept [] w0 wr
 lt:gp < wr.heap.size
 ge:w0.heap.size<=gp
section
variable {w0 wr w':World} {gp n k:Nat} {v:Value}
theorem GoL.start(w0:World)(T:TypeId)(n:Nat):GoL w0 w0.heap.size n 0 () (w0.alloc (.cells #[n,()] T)):=by
 have hb:=Blk.new w0 T #[n,()];exact⟨hb.cell 0,hb.cell 1,hb.frozen,World.ownsRow_nil _ _ _ _,kr.alloc _,hb.lt,Nat.le_refl _⟩
theorem GoL.next{a:Option Addr}{c:Nat}(h:GoL w0 gp n k v wr)(o:w'.ownsRow (gp+1) 3 1 (.slice a (k+1) c) (k+1) (ints (List.replicate k 1152921504606846976++[1152921504606846976])))(hk:Kept (obl v) (wr.alloc (.cells #[.int .i64 1152921504606846976] 3)) w') :
  GoL w0 gp n (k+1) (.slice a (k+1) c) (w'.setCell ⟨gp,1,none⟩ (.slice a (k+1) c)):=by
 have b:gp∉obl v:=fun hm=>by have:=(ak h.own gp hm).1;omega
 have f:∀z∈obl v,w0.heap.size<=z:=fun z hz=>by have:=(ak h.own z hz).1;have:=h.ge;omega
 have d:gp < (wr.alloc (.cells #[.int .i64 1152921504606846976] 3)).heap.size:=by have:=h.lt;simp;omega
 have kb:=hk.block gp d b
 have l:w'.cell? ⟨gp,0,none⟩=some (.int .i64 n):=by
  rw[World.cell?_of_block kb];exact Kept.cellOf h.n0 _ (kr.alloc _)
 have i:w'.cell? ⟨gp,1,none⟩=some v:=by
  rw[World.cell?_of_block kb];exact Kept.cellOf h.v0 _ (kr.alloc _)
 refine⟨?_,World.cell?_setCell_same _ _ _ i,fun j=>?_,?_,?_,?_,h.ge⟩
 ·rw[World.cell?_setCell_other _ _ _ _ (by simp)];exact l
 ·have e:(wr.alloc (.cells #[.int .i64 1152921504606846976] 3)).frozen? ⟨gp,j,none⟩=false:=by
   rw[World.frozen?_of_block (((Kept.refl [] wr).alloc _).block gp h.lt (by simp))];exact h.f1 j
  have g:w'.frozen? ⟨gp,j,none⟩=false:=by rw[World.frozen?_of_block kb];exact e
  simpa using g
 ·rw[show List.replicate (k+1) (1152921504606846976:Int)=List.replicate k 1152921504606846976++[1152921504606846976]from List.replicate_succ'];exact ownsRow_setCell_below o (by simp) _
 ·exact((h.kept.alloc _).fresh hk f).setCell (Or.inr h.ge) _
 ·have:=h.lt;have:=hk.size;simp only[World.size_alloc,World.size_setCell]at *;omega
theorem GoL.mid(h:GoL w0 gp n k v wr)(hk:Kept (obl v) (wr.alloc (.cells #[.int .i64 1152921504606846976] 3)) w'):w'.cell? ⟨gp,1,none⟩=some v/\w'.frozen? ⟨gp,1,none⟩=false:=by
 have hne:gp∉obl v:=fun hm=>by have:=(ak h.own gp hm).1;omega
 have hlt:gp < (wr.alloc (.cells #[.int .i64 1152921504606846976] 3)).heap.size:=by have:=h.lt;simp;omega
 have kb:=hk.block gp hlt hne;refine⟨by rw[World.cell?_of_block kb];exact Kept.cellOf h.v0 _ (kr.alloc _),?_⟩;rw[World.frozen?_of_block kb,World.frozen?_of_block (((Kept.refl [] wr).alloc _).block gp h.lt (by simp))];exact h.f1 1
theorem GoL.done(h:GoL w0 gp n (n*n) v wr)(hn:0 < n*n):∃wb c,FlW wr gp wb n c (gOf [])/\w0.heap.size<=wb:=by
 obtain⟨wb,c,rfl,_,_⟩:=h.own.form hn;have hl:=h.own.lt wb rfl;refine⟨wb,c,⟨h.n0,h.v0,?_,fun a b ha hb=>?_,fun j=>h.own.frozenAt j,by omega,hl.2⟩,by have:=h.ge;omega⟩
 ·have:=h.own.2
  rcases this with⟨h0,_⟩|⟨g',cap,cur,hv,hle,_⟩
  ·cases h0
  ·injection hv with _ _ e3;omega
 ·rw[h.own.cellAt _ (by have:=ju ha hb;omega)];have:=ju ha hb
  simp[ints,this,gOf,far]
end
structure GoP (w:World) (gp wb n c:Nat) (es:List Tm.Edge) (wr:World):Prop where
 flw:FlW wr gp wb n c (gOf es)
 kept:Kept [] w wr
 ge:w.heap.size<=wb
section
variable {w wr:World} {gp wb n c:Nat} {es:List Tm.Edge}
theorem GoP.keep{w':World}(h:GoP w gp wb n c es wr)(k:Kept [] wr w'):GoP w gp wb n c es w':=⟨h.flw.kept k,h.kept.trans k,h.ge⟩
theorem GoP.call(h:GoP w gp wb n c es wr)(a b:Nat)(x:Int)(ha:a < n)(hb:b < n)(hn:n<=100) :
  Calls Tryz.prog 62 #[.pointer (some ⟨gp,0,none⟩),a,b,x] wr fun e w'=>e=.returned (.tuple #[])/\GoP w gp wb n c (es++[(a,b,x)]) w' :=
 (wP gp wb n c es a b x wr h.flw ha hb hn).mono fun _ _ ⟨h1,h2,h3⟩=>⟨h1,h2,h.kept.fresh h3 (by intro z hz;obtain rfl:=ms hz;exact h.ge),h.ge⟩
end
theorem rf{l:List Ent}{y x:Ent}{i j:Nat}(hj:l[j]?=some x)(h:iG y x=true):cD l y i (j+1)=cD l y i j++[(i,j,0)]:=by
 unfold cD;rw[List.range_succ,List.filter_append,List.map_append];simp[hj,h]
theorem mP{l:List Ent}{y x:Ent}{i j:Nat}(hj:l[j]?=some x)(h:iG y x=false):cD l y i (j+1)=cD l y i j:=by
 unfold cD;rw[List.range_succ,List.filter_append,List.map_append];simp[hj,h]
theorem tD{y x:Ent}{a b:Int}(h:y.nums=[a,b]):iG y x=(decide (x.gate=a)&&decide (x.no=b)):=by unfold iG;rw[h];rfl
theorem fC(v:Value)(l:List Ent)(dr:Int)(w:World)(h:aU w v l)(hw:∀x∈l,WF x)(h0:0<=dr)(h1:dr<=1000)(hl:l.length<=15) :
  Calls Tryz.prog 30 #[v,dr] w fun e w'=>∃gp wb c,e=.returned (.pointer (some ⟨gp,0,none⟩))/\FlW w' gp wb (l.length+1) c (gOf (edges l dr l.length))/\Kept [] w w'/\w.heap.size<=gp/\w.heap.size<=wb:=by
 obtain⟨va,vc,rfl,_,bo⟩:=ag.form h;have HV:=hid h;have HW:=hid hw
 generalize hL:l.length=L at bo ⊢
 have HL:=hid hL;rw[hL]at hl;clear h hw hL
 have wl:IntKind.i64.wrap ((L:Int)+1)=(L:Int)+1:=by rw[IntKind.wrap_i64];omega
 obtain⟨n,hn⟩:=nm (L+1)
 have bq:(L:Int)+1=(n:Int):=by omega
 rw[bq]at wl;have bl:n*n<=256:=Nat.mul_le_mul (by omega:n<=16) (by omega:n<=16);have ad:0 < n*n:=Nat.mul_pos (by omega) (by omega);obtain⟨q,hq⟩:=nm (n*n)
 have cu:(n:Int)*(n:Int)=(q:Int):=by rw[<-hq];simp
 have wq:IntKind.i64.wrap (q:Int)=(q:Int):=by rw[IntKind.wrap_i64];omega
 have HQ:=hid hq;rw[hq]at bl ad;clear hq
 go_enter Tryz.func30,Tryz.ntmps30
 go_wp2_with fail;have S0:=GoL.start w 68 n
 go_loopw [6] (fun i wr=>∃(k:Nat) (v:Value),k<=q/\i=k/\GoL w w.heap.size n k v wr) (fun i _=>q - (intOf i).toNat)
 case atStart=>exact⟨0,_,Nat.zero_le _,rfl,S0⟩
 case round =>
  obtain⟨k,v,U,rfl,hS⟩:=hrel;have HS:=hid hS;have y0:=hS.n0;have y1:=hS.v0;have y2:=hS.f1 1;clear hS S0
  by_cases hkq:k < q
  ·have hkq':decide ((k:Int) < (q:Int))=true:=by simpa using hkq
   go_wp2_with fail
   go_quiet (fail)
   have cs:w.heap.size+1<=wr.heap.size:=HS.lt;have b9:GoL w w.heap.size n k v (wr.drewN nq):=⟨y0,y1,HS.out.f1,af HS.out.own ((Kept.refl [] _).drewN nq) (by simp),HS.out.kept.drewN nq,HS.out.lt,Nat.le_refl _⟩;have a9:=hid b9;clear b9;go_wp2_with (at_builtin;refine aE rfl _ _ rfl (w.heap.size+1) v k (List.replicate k 1152921504606846976) rfl (af a9.out.own ((Kept.refl [] _).alloc _) (by simp)) (.slice (some ⟨wr.heap.size,0,none⟩) 1 1) 1 [1152921504606846976] rfl (by exact Row.lit (wr.drewN nq) [1152921504606846976] (by simp)) (by omega) (by simp;omega) ?_);intro a' c' w' ho hk' _;have HN:=hid (a9.next ho hk');obtain⟨z1,z2⟩:=a9.mid hk';clear ho hk';go_wp2_with fail
   go_roundw
   case rel=>exact⟨k+1,_,by omega,by go_num,HN.out⟩
   case measure=>simp[intOf];omega
  ·have hkq':decide ((k:Int) < (q:Int))=false:=by simpa using hkq
   have b0:q=k:=by omega
   have a6:=HS.out;rw[show k=n*n by rw[HQ.out];omega]at a6;obtain⟨wb,c,hF,ao⟩:=a6.done (by rw[HQ.out];exact ad);have HF:=hid hF;have bv:=HS.kept;clear hF a6 HS;subst b0;go_wp2_with fail
   go_quiet (fail)
   go_wp2_with fail
   go_loopw [8] (fun i wr2=>∃m:Nat,m<=L/\i=m/\GoP w w.heap.size wb n c (edges l dr m) wr2) (fun i _=>L - (intOf i).toNat)
   case atStart=>exact⟨0,Nat.zero_le _,rfl,HF.kept ((Kept.refl [] _).drewN _),bv.drewN _,ao⟩
   case round =>
    obtain⟨m,hm,rfl,a0⟩:=hrel;have ab:=hid a0;clear a0
    by_cases hml:m < L
    ·have D:m < l.length:=by have:=HL.out;omega
     have hml':decide ((m:Int) < (L:Int))=true:=by simpa using hml
     obtain⟨lb,lo,lc,bm,_,F⟩:=HV.out.at_ (by omega);obtain⟨u,f,a5⟩:=F m D
     generalize hy:l[m]=y at f a5
     obtain⟨ua,uc,rfl,_,_⟩:=f.form;injection bm with hv1 hv2 hv3;subst hv1;subst hv3;have HY:=hid hy;have HR:=hid f;have HC:=hid F;have P:=hid a5;have Q:=hid (ab.out.call L m 2147483648 (by omega) (by omega) (by omega));clear a5 F hy f hv2;go_wp2_with (go_at_call 62;refine Q.out.mono ?_);rintro e w2 ⟨rfl,bh⟩;clear Q;have C2:=hid (bh.call m L 0 (by omega) (by omega) (by omega));clear bh;go_wp2_with (go_at_call 62;refine C2.out.mono ?_);rintro e w3 ⟨rfl,bd⟩;have N:=hid bd;clear C2 bd
     generalize b5:edges l dr m++[(L,m,2147483648)]++[(m,L,0)]=es at N
     have co:=hid b5;clear b5
     go_upto_if 56 with(fail)
     go_cut [] (fun wx=>GoP w w.heap.size wb n c (es++ef l dr m) wx)
     case first =>
      by_cases hm0:0 < m
      ·obtain⟨p,hp⟩:∃p,m=p+1:=⟨m - 1,by omega⟩
       have cy:(m:Int) - 1=(p:Int):=by omega
       have cx:max (p:Int) 0=(p:Int):=by omega
       have a2:p < l.length:=by omega
       have d0:p < L:=by omega
       obtain⟨x,hx⟩:=nm (l[p]);obtain⟨v,I,C⟩:=HC p a2;rw[hx]at C I;obtain⟨va,vd,rfl,_,_⟩:=I.form;clear I;have HX:=hid hx;have d5:=hid C;have hcx':=C.kept N.kept;have x0:=hcx'.c0;have x1:=hcx'.c1;have x2:=hcx'.c2;have x3:=hcx'.c3;have x4:=hcx'.c4;have x5:=hcx'.c5;have x6:=hcx'.c6;have x7:=hcx'.c7
       have c9:decide ((m:Int) > 0)=true:=by simp;omega
       clear hx C hcx';go_upto_region 14 with(fail);have V:GoP w w.heap.size wb n c es (w3.alloc (.cells (entC x (.slice va x.nums.length vd)).toArray 52)):=N.keep (kr.alloc _);have hB:Cells8 (w3.alloc (.cells (entC x (.slice va x.nums.length vd)).toArray 52)) w3.heap.size 0 x (.slice va x.nums.length vd):=Cells8.of_blk (Blk.new _ _ _)
       generalize b7:w3.alloc (.cells (entC x (.slice va x.nums.length vd)).toArray 52)=W1 at V hB
       have hW':w3.alloc (.cells #[x.gate,x.no,x.time,x.kind,.slice va x.nums.length vd,x.text,x.c,x.s] 52)=W1:=b7;rw[hW']
       generalize cb:w3.heap.size=eb at hB ⊢
       have o:=P.kept V.kept;clear x0 x1 x2 x3 x4 x5 x6 x7;have x0:=hB.c0;have x1:=hB.c1;have x2:=hB.c2;have y0:=o.c0;have y1:=o.c1;have y2:=o.c2;have Z:=hid V;have am:=(HW.out x (HX.out▸List.getElem_mem a2)).time;have ah:=(HW.out y (HY.out▸List.getElem_mem D)).time;obtain⟨d,hd⟩:=nm (y.time - x.time)
       have d2:-2147483648<=d/\d<=2147483648:=by unfold Tm.mt at am ah;omega
       have cc:IntKind.i64.wrap (y.time - x.time)=d:=by rw[hd,IntKind.wrap_i64];omega
       have g:ef l dr m=if near x y=true then[(p,m,upW d dr),(m,p,jM d dr)]else[]:=by
        unfold ef
        rw[List.getElem?_eq_getElem D,show m - 1=p by omega,List.getElem?_eq_getElem a2,HY.out,HX.out]
        simp only
        by_cases hn:near x y=true
        ·rw[if_pos ⟨hm0,hn⟩,if_pos hn,hd]
        ·rw[if_neg (fun h=>hn h.2),if_neg hn]
       have al:x.time<=y.time↔0<=d:=by omega
       have d4:=hid hp;clear V hB o b7 hW' cb am ah hp
       go_quiet (fail)
       obtain⟨nq',hnq'⟩:∃z,nq=z:=⟨_,rfl⟩;rw[hnq'];clear hnq';clear cc hd
       by_cases e0:x.gate=y.gate
       ·have e0':(x.gate==y.gate)=true:=by simpa using e0
        by_cases e1:x.no=y.no
        ·have e1':(x.no != y.no)=false:=by simpa using e1
         rw[if_neg (by unfold near;simp[e1])]at g;have R:=hid g;clear g;go_upto_region 15 with(fail)
         go_quiet (fail)
         go_wp2_with fail
         go_meet
         case rel=>rw[R.out,List.append_nil];exact Z.out.keep (by first|exact(Kept.refl [] _).drewN _|exact((Kept.refl [] _).drewN _).drewN _)
        ·have e1':(x.no != y.no)=true:=by simpa using e1
         by_cases e2:0<=d
         ·have e2':decide (d >= 0)=true:=by simpa using e2
          rw[if_pos (by unfold near;simp[e0,e1,al.2 e2])]at g;have R:=hid g;clear g;go_upto_region 15 with(fail)
          go_quiet (fail)
          have bc:=Z.out.keep (show Kept [] W1 _ by first|exact(Kept.refl [] _).drewN (nq'+nq)|exact((Kept.refl [] _).drewN nq').drewN nq);have A:=hid bc;clear bc;have u0:0<=d*(1000+dr):=Int.mul_nonneg e2 (by omega);have u1:d*(1000+dr)<=4294967296000:=Int.le_trans (Int.mul_le_mul_of_nonneg_left (show 1000+dr<=2000 by omega) e2) (by omega);have v0:0<=d*(1000 - dr):=Int.mul_nonneg e2 (by omega);have v1:d*(1000 - dr)<=4294967296000:=Int.le_trans (Int.mul_le_mul_of_nonneg_left (show 1000 - dr<=1000 by omega) e2) (by omega);obtain⟨pp,av⟩:=nm (d*(1000+dr));obtain⟨rr,ap⟩:=nm (d*(1000 - dr));obtain⟨eu,a3⟩:=nm ((pp+999) / 1000);obtain⟨ed,a4⟩:=nm (rr / 1000);rw[av]at u0 u1;rw[ap]at v0 v1
          have t1:upW d dr=eu:=by rw[<-a3,<-av];rfl
          have t2:jM d dr=-ed:=by rw[<-a4,<-ap];rfl
          rw[t1,t2]at R
          have b2:0<=ed/\ed<=8589934592:=by omega
          have cv:IntKind.i64.wrap pp=pp:=by rw[IntKind.wrap_i64];omega
          have ct:IntKind.i64.wrap rr=rr:=by rw[IntKind.wrap_i64];omega
          have ca:wrap64 (-ed)=-ed:=by unfold wrap64;omega
          have bk:IntKind.i64.wrap (-ed)=-ed:=by rw[IntKind.wrap_i64];omega
          have U1:=hid (fun W=>a3▸yf pp W u0 (by omega));have U2:=hid (fun W=>a4▸tG rr W v0 (by omega));clear t1 t2 b2 a3 a4 x0 x1 x2 y0 y1 y2;go_wp2_with (go_at_call 63;refine(U1.out _).mono ?_);rintro e w5 ⟨rfl,b3⟩;have t:=hid (A.keep b3);clear b3 A;have Q:=hid (t.out.call p m eu (by omega) (by omega) (by omega));go_wp2_with (go_at_call 62;refine Q.out.mono ?_);rintro e w6 ⟨rfl,J⟩;have Y:=hid J;clear Q t J;go_wp2_with (go_at_call 64;refine(U2.out _).mono ?_);rintro e w7 ⟨rfl,b1⟩;have X:=hid (Y.keep b1);clear b1 Y;have C2:=hid (X.out.call m p (-ed) (by omega) (by omega) (by omega));go_wp2_with (go_at_call 62;refine C2.out.mono ?_);rintro e w8 ⟨rfl,ba⟩;have cd:=hid ba;clear C2 X ba;go_wp2_with fail
          go_meet
          case rel=>rw[R.out];have:=cd.out;rw[List.append_assoc]at this;exact this
         ·have e2':decide (d >= 0)=false:=by simpa using e2
          rw[if_neg (by unfold near;simp[al,e2])]at g;have R:=hid g;clear g;go_upto_region 15 with(fail)
          go_quiet (fail)
          go_wp2_with fail
          go_meet
          case rel=>rw[R.out,List.append_nil];exact Z.out.keep (by first|exact(Kept.refl [] _).drewN _|exact((Kept.refl [] _).drewN _).drewN _)
       ·have e0':(x.gate==y.gate)=false:=by simpa using e0
        rw[if_neg (by unfold near;simp[e0])]at g;have R:=hid g;clear g;go_upto_region 15 with(fail)
        go_quiet (fail)
        go_wp2_with fail
        go_meet
        case rel=>rw[R.out,List.append_nil];exact Z.out.keep (by first|exact(Kept.refl [] _).drewN _|exact((Kept.refl [] _).drewN _).drewN _)
      ·have c9:decide ((m:Int) > 0)=false:=by simp;omega
       have he:ef l dr m=[]:=by
        unfold ef
        split
        ·rw[if_neg (by omega)]
        ·rfl
       have R:=hid he;clear he;go_wp2_with fail
       go_meet
       case rel=>rw[R.out,List.append_nil];exact N.out
     case rest =>
      have A:=hid hcut;clear hcut N
      generalize a1:es++ef l dr m=es2 at A
      have O:Hid (es2++dz l m=edges l dr (m+1)):=by
       rw[<-a1,<-co.out,me,gf,iL,HL.out];simp only[List.append_assoc,List.cons_append,List.nil_append]
       rfl
      clear a1;have o:=P.kept A.kept;have y3:=o.c3;have y4:=o.c4;clear o
      by_cases k1:y.kind=1
      ·obtain⟨a,b,r,d3,bt,b6⟩:=(HW.out y (HY.out▸List.getElem_mem D)).sync k1
       have k1':(y.kind==1)=true:=by simpa using k1
       have k2':(y.kind==2)=false:=by rw[k1];rfl
       have U:dz l m=[(L,m,b),(m,L,-a)]:=by
        unfold dz
        rw[List.getElem?_eq_getElem D,HY.out]
        simp only
        rw[if_pos k1,HL.out,r]
        rfl
       have HK:=hid U;have f:=HR.out
       have B:y.nums.length=2:=by rw[r];rfl
       unfold Tm.mt at b6
       obtain⟨ub,uo,T,E⟩:=Row.at_ f (by omega);have c0:w.cell? ⟨ub,uo,none⟩=some (.int .i64 a):=E 0 a (by rw[r];rfl);have c1:=E 1 b (by rw[r];rfl);have n0:=Kept.cellOf c0 _ A.kept;have n1:=Kept.cellOf c1 _ A.kept
       have d1:IntKind.i64.wrap (-a)=-a:=by rw[IntKind.wrap_i64];omega
       have cq:wrap64 (-a)=-a:=by unfold wrap64;omega
       have Q:=hid (A.out.call L m b (by omega) (by omega) (by omega))
       have l0:(0:Nat) < y.nums.length:=by omega
       have l1:(1:Nat) < y.nums.length:=by omega
       have cl:=hid B;rw[T]at y4;have aa:=hid c0;clear c0 c1 k1;clear U E f B r bt b6;go_wp2_with (go_at_call 62;refine Q.out.mono ?_);rintro e w5 ⟨rfl,G⟩;clear Q;have C2:=hid (G.call m L (-a) (by omega) (by omega) (by omega));have n0':=Kept.cellOf aa _ G.kept;have o:=P.kept G.kept;have y4':=o.c4;rw[T]at y4';clear n0 n1 G y3 y4 o;go_wp2_with (go_at_call 62;refine C2.out.mono ?_);rintro e w6 ⟨rfl,J⟩;have Y:=hid J;have y3:=(P.kept J.kept).c3;clear C2 J n0' y4';have M:=O.out;rw[HK.out]at M;have cm:=hid M;clear M;go_wp2_with fail
       go_roundw
       case rel =>
        refine⟨m+1,by omega,by go_num,?_⟩;have:=Y.out;rw[List.append_assoc,List.cons_append,List.nil_append,cm.out]at this;exact this
       case measure=>simp[intOf];omega
      ·have k1':(y.kind==1)=false:=by simpa using k1
       by_cases k2:y.kind=2
       ·have k2':(y.kind==2)=true:=by simpa using k2
        obtain⟨a,b,r⟩:=(HW.out y (HY.out▸List.getElem_mem D)).hear k2
        have U:dz l m=cD l y m L:=by
         unfold dz
         rw[List.getElem?_eq_getElem D,HY.out]
         simp only
         rw[if_neg k1,if_pos k2,HL.out]
        have HK:=hid U;have f:=HR.out
        have B:y.nums.length=2:=by rw[r];rfl
        obtain⟨ub,uo,T,E⟩:=Row.at_ f (by omega);have aa:Hid (w.cell? ⟨ub,uo,none⟩=some (.int .i64 a)):=hid (E 0 a (by rw[r];rfl));have cg:=hid (E 1 b (by rw[r];rfl));have cp:=hid r
        have l0:(0:Nat) < y.nums.length:=by omega
        have l1:(1:Nat) < y.nums.length:=by omega
        have cl:=hid B;clear U E f B r y4;go_wp2_with fail;clear y3 k1 k2 k1' k2'
        go_loopw [11] (fun i w7=>∃j:Nat,j<=L/\i=j/\GoP w w.heap.size wb n c (es2++cD l y m j) w7) (fun i _=>L - (intOf i).toNat)
        case atStart=>exact⟨0,Nat.zero_le _,rfl,by rw[show cD l y m 0=[]from rfl,List.append_nil];exact A.out⟩
        case round =>
         obtain⟨j,hj,rfl,G⟩:=hrel;have t:=hid G;clear G
         by_cases hjl:j < L
         ·have hjl':decide ((j:Int) < (L:Int))=true:=by simpa using hjl
          have b4:j < l.length:=by have:=HL.out;omega
          obtain⟨x,hx⟩:=nm (l[j]);obtain⟨v,I,C⟩:=HC j b4;rw[hx]at C I;have hcx':=C.kept t.kept;have x0:=hcx'.c0;have x1:=hcx'.c1;have y4:=(P.kept t.kept).c4;rw[T]at y4;have n0:=Kept.cellOf aa _ t.kept;have n1:=Kept.cellOf cg _ t.kept
          have an:l[j]?=some x:=by rw[List.getElem?_eq_getElem b4,hx]
          have a7:=hid an;have ac:=hid (tD (x:=x) cp);clear hx C hcx' I an;go_upto_region 25 with(fail)
          by_cases e0:x.gate=a
          ·have e0':(x.gate==a)=true:=by simpa using e0
           by_cases e1:x.no=b
           ·have e1':(x.no==b)=true:=by simpa using e1
            go_quiet (fail)
            have Q:=hid ((t.out.keep ((Kept.refl [] _).drewN nq)).call m j 0 (by omega) (by omega) (by omega));clear x0 x1 y4 n0 n1;go_wp2_with (go_at_call 62;refine Q.out.mono ?_);rintro e w8 ⟨rfl,bb⟩;have X:=hid bb;clear Q bb;go_wp2_with fail
            go_roundw
            case rel =>
             refine⟨j+1,by omega,by go_num,?_⟩;rw[rf a7.out (by rw[ac.out,e0,e1];simp),<-List.append_assoc];exact X
            case measure=>simp[intOf];omega
           ·have e1':(x.no==b)=false:=by simpa using e1
            go_quiet (fail)
            go_wp2_with fail
            go_roundw
            case rel =>
             refine⟨j+1,by omega,by go_num,?_⟩;rw[mP a7.out (by rw[ac.out,e0];simp[e1])];exact t.keep ((Kept.refl [] _).drewN _)
            case measure=>simp[intOf];omega
          ·have e0':(x.gate==a)=false:=by simpa using e0
           go_quiet (fail)
           go_wp2_with fail
           go_roundw
           case rel =>
            refine⟨j+1,by omega,by go_num,?_⟩;rw[mP a7.out (by rw[ac.out];simp[e0])];exact t.keep ((Kept.refl [] _).drewN _)
           case measure=>simp[intOf];omega
         ·have hjl':decide ((j:Int) < (L:Int))=false:=by simpa using hjl
          have bx:Hid (j=L):=hid (by omega);go_wp2_with fail
          go_roundw
          case rel =>
           refine⟨m+1,by omega,by go_num,?_⟩;have:=t.out;rw[bx.out,<-HK.out,O.out]at this;exact this
          case measure=>simp[intOf];omega
       ·have k2':(y.kind==2)=false:=by simpa using k2
        have U:dz l m=[]:=by
         unfold dz
         rw[List.getElem?_eq_getElem D,HY.out]
         simp only
         rw[if_neg k1,if_neg k2]
        have HK:=hid U;clear U;go_wp2_with fail
        go_roundw
        case rel =>
         refine⟨m+1,by omega,by go_num,?_⟩;have:=A.out;have hf:=O.out;rw[HK.out,List.append_nil]at hf;rw[hf]at this;exact this
        case measure=>simp[intOf];omega
    ·have bs:m=L:=by omega
     subst bs
     have hml':decide ((m:Int) < (m:Int))=false:=by simp
     go_wp2_with fail;go_ret;exact⟨w.heap.size,wb,c,rfl,by rw[hn];exact ab.out.flw,ab.out.kept,Nat.le_refl _,ao⟩
end Go.Proofs.YtcidfldeiklcjaaGreatDoor
