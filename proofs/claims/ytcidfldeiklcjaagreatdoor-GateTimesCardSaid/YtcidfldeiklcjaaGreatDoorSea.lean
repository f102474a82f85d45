import Derived.Test.YtcidfldeiklcjaaGreatDoorJn
set_option maxRecDepth 100000
set_option maxHeartbeats 32000000
namespace Go.Proofs.YtcidfldeiklcjaaGreatDoor
open Go.RowKit Tm
open Go.Proofs.Tryz
open Lib(hid)
def dW(s:Stp)(x:Int)(e:Ent):Int:=((numN s.Q.toNat (Wire.intE x++aF e):Nat):Int)
def bQ(s:Stp)(x:Int)(e:Ent):Ent:={ e with c:=(dx s x (dW s x e) (aF e)).1,s:=(dx s x (dW s x e) (aF e)).2.1 }
def sealOk(s:Stp)(x:Int)(e:Ent):Bool:=aS s e&&inB x 1 (s.Q - 1)
def SeaE(s:Stp)(x:Int)(e:Ent)(w:World)(en:Ending)(w':World):Prop:=Kept [] w w' /\
 ((sealOk s x e=false/\en=.returned (.tuple #[.agg #[.int .i64 0,.int .i64 0,.int .i64 0,.int .i64 0,(),.string ⟨#[]⟩,.int .i64 0,.int .i64 0],.bool false])) \/
  (sealOk s x e=true/\∃a c,en=.returned (.tuple #[.agg #[e.gate,e.no,e.time,e.kind,.slice a e.nums.length c,e.text,.int .i64 (bQ s x e).c,.int .i64 (bQ s x e).s],.bool true]) /\
   ∀X:List Nat,(∀z∈X,z < w.heap.size)->ae X (fun w=>Row w 1 (.slice a e.nums.length c) e.nums.length (ints e.nums)) w'))
theorem gO(vs ve:Value)(s:Stp)(x:Int)(e:Ent)(w:World)(hs:StpV w vs s)(he:EntA w ve e)(hi:EntI e)(hx:Wire.I64 x)(hE:Env2 w) :
  Calls prog 24 #[vs,x,ve] w (SeaE s x e w):=by
 have hs':=hs;have he':=he;obtain⟨⟨ad,cc,rfl,b5⟩,ip,iq,ig,ib,il⟩:=hs';obtain⟨u,rfl,ac⟩:=he';obtain⟨t,r,rfl,_,_⟩:=ac.form;obtain⟨W,hW⟩:=nm (((w.alloc (.cells #[s.P,s.Q,s.G,.slice ad s.bases.length cc,s.blind] 26)).alloc (.cells #[e.gate,e.no,e.time,e.kind,.slice t e.nums.length r,e.text,e.c,e.s] 52)).alloc (.cells #[.int .i64 0,.int .i64 0,.int .i64 0,.int .i64 0,(),.string ⟨#[]⟩,.int .i64 0,.int .i64 0] 52));have hb:Blk W w.heap.size 26 #[s.P,s.Q,s.G,.slice ad s.bases.length cc,s.blind]:=hW▸((Blk.new _ _ _).alloc _).alloc _
 have d:Blk W (w.heap.size+1) 52 #[e.gate,e.no,e.time,e.kind,.slice t e.nums.length r,e.text,e.c,e.s]:=by
  have:=(Blk.new (w.alloc (.cells #[s.P,s.Q,s.G,.slice ad s.bases.length cc,s.blind] 26)) 52 #[e.gate,e.no,e.time,e.kind,.slice t e.nums.length r,e.text,e.c,e.s]).alloc (.cells #[.int .i64 0,.int .i64 0,.int .i64 0,.int .i64 0,(),.string ⟨#[]⟩,.int .i64 0,.int .i64 0] 52);rw[hW,World.size_alloc]at this;exact this
 have hr:Blk W (w.heap.size+1+1) 52 #[.int .i64 0,.int .i64 0,.int .i64 0,.int .i64 0,(),.string ⟨#[]⟩,.int .i64 0,.int .i64 0]:=by
  have:=Blk.new ((w.alloc (.cells #[s.P,s.Q,s.G,.slice ad s.bases.length cc,s.blind] 26)).alloc (.cells #[e.gate,e.no,e.time,e.kind,.slice t e.nums.length r,e.text,e.c,e.s] 52)) 52 #[.int .i64 0,.int .i64 0,.int .i64 0,.int .i64 0,(),.string ⟨#[]⟩,.int .i64 0,.int .i64 0];rw[hW,World.size_alloc,World.size_alloc]at this;exact this
 have g:Kept [] w W:=hW▸((kr.alloc _).alloc _).alloc _
 have Y:W.heap.size=w.heap.size+3:=by rw[<-hW];simp
 have FO:Hid (Calls prog 52 #[.agg #[s.P,s.Q,s.G,.slice ad s.bases.length cc,s.blind],.agg #[e.gate,e.no,e.time,e.kind,.slice t e.nums.length r,e.text,e.c,e.s]] W fun f i=>f=.returned (.bool (aS s e))/\Kept [] W i) :=
  lV _ _ s e W (hs.kept g) (he.kept g) hi (hE.kept0 g)
 have WI:Hid (∀w',Calls prog 37 #[x,.int .i64 1,.int .i64 (s.Q - 1)] w' fun f i=>f=.returned (.bool (inB x 1 (s.Q - 1)))/\Kept [] w' i):=fun w' =>
  (aV x 1 (s.Q - 1) w').mono fun f i ⟨h1,h2⟩=>⟨h1,h2▸kr⟩
 have a2:Hid (sealOk s x e=(aS s e&&inB x 1 (s.Q - 1))):=rfl
 have av:Hid (aS s e=true->∃q:Nat,s.Q=q/\5<=q/\q < 1152921504606846976):=fun h=>by
  obtain⟨q,o,_⟩:=bS (dS h).2.1;exact⟨q,o.hQ,o.h5,o.hq⟩
 have BO:Hid (∀w',Kept [] W w'->Calls prog 53 #[.agg #[e.gate,e.no,e.time,e.kind,.slice t e.nums.length r,e.text,e.c,e.s]] w' fun f i=>f=.returned (.string ⟨(aF e).toArray⟩)/\Kept [] w' i):=fun w' k =>
  mj _ e w' (he.kept (g.trans k)) hi (hE.kept0 (g.trans k)).toEnv
 have CL:Hid (∀w',Kept [] W w'->Calls prog 54 #[.slice t e.nums.length r] w' (ClnE e.nums w')):=fun w' k =>
  mg e.nums t r w' (ac.kept (g.trans k)) (by have:=hi.l4;omega)
 have NU:Hid (0<=x->∀w',Kept [w.heap.size+1] W w'->Calls prog 57 #[x] w' fun f i=>f=.returned (.string ⟨(Wire.intE x).toArray⟩)/\Kept [] w' i):=fun h0 w' k =>
  sw x w' hx h0 (hE.kept0 (g.fresh k (by simp))).toEnv
 have NB:Hid (∀q:Nat,s.Q=q->5<=q->q < 1152921504606846976->∀w',Calls prog 56 #[.string ⟨(Wire.intE x++aF e).toArray⟩,s.Q] w' fun f i=>f=.returned (.int .i64 (dW s x e))/\Kept [] w' i):=fun q h1 h2 h3 w'=>by
  unfold dW
  rw[h1]
  exact lL q _ w' (by omega) (by omega) (by
   have:=cj e hi;have:=eL x hx
   rw[List.length_append];omega)
 have SG:Hid (∀q:Nat,s.Q=q->5<=q->q < 1152921504606846976->∀w',Kept [w.heap.size+1] W w'->Calls prog 55 #[.agg #[s.P,s.Q,s.G,.slice ad s.bases.length cc,s.blind],x,.int .i64 (dW s x e),.string ⟨(aF e).toArray⟩] w' fun f i=>f=.returned (.tuple #[.agg #[.int .i64 (dx s x (dW s x e) (aF e)).1,.int .i64 (dx s x (dW s x e) (aF e)).2.1],.bool (dx s x (dW s x e) (aF e)).2.2])/\Kept [] w' i):=fun q h1 h2 h3 w' k =>
  vp _ s x _ (aF e) w' (hs.kept (g.fresh k (by simp))) hx (by
   have:numN q (Wire.intE x++aF e) < q:=eZ _ _ _ (by omega)
   unfold dW
   rw[h1];have e1:((q:Int)).toNat=q:=rfl;rw[e1]
   exact⟨by omega,by omega⟩) (by have:=cj e hi;omega) (hE.kept0 (g.fresh k (by simp)))
 have bh:Hid ((Wire.intE x).length<=21):=eL x hx;have bd:Hid ((aF e).length<=6000000):=cj e hi;have I:Hid ((bQ s x e).c=(dx s x (dW s x e) (aF e)).1/\(bQ s x e).s=(dx s x (dW s x e) (aF e)).2.1):=⟨rfl,rfl⟩;obtain⟨N,an⟩:=nm ((bQ s x e).c);obtain⟨M,am⟩:=nm ((bQ s x e).s);rw[an,am]at I;have bc:=hid an;have bb:=hid am
 generalize hK:dW s x e=K at NB SG I
 obtain⟨G3,b7⟩:=nm ((dx s x K (aF e)).2.2);rw[<-I.out.1,<-I.out.2,b7]at SG;obtain⟨A,hA⟩:=nm (Wire.intE x);obtain⟨B,hB⟩:=nm (aF e);rw[hA]at NU NB bh;rw[hB]at BO NB SG bd;clear I an am hK b7 hA hB;obtain⟨b1,al⟩:=nm (aS s e);obtain⟨b2,ah⟩:=nm (inB x 1 (s.Q - 1));obtain⟨ok,o⟩:=nm (sealOk s x e)
 have bk:Hid (inB x 1 (s.Q - 1)=true->0<=x):=fun h=>by have:=((ci _ _ _).1 h).1;omega
 rw[o,al,ah]at a2;have a0:=hid o;rw[al]at FO av;rw[ah]at WI bk;clear o al ah;obtain⟨s0,s1,s2,s3,s4⟩:=bc5 hb rfl;obtain⟨x0,x1,x2,x3,O,x5,x6,x7⟩:=bc8 d rfl;have HB:=hid hb;have HZ:=hid d;have HR:=hid hr;have HW:=hid hW;have a3:=hid g;have ba:=hid Y;clear hW hb d hr b5 g hs he ac hi hE ib Y hx
 show Calls _ _ #[.agg #[s.P,s.Q,s.G,.slice ad s.bases.length cc,s.blind],_,.agg #[e.gate,e.no,e.time,e.kind,.slice t e.nums.length r,e.text,e.c,e.s]] _ _
 go_enter func24,ntmps24
 go_upto_region 1 with(fail);have hW':((w.alloc (.cells #[s.P,s.Q,s.G,.slice ad s.bases.length cc,s.blind] 26)).alloc (.cells #[e.gate,e.no,e.time,e.kind,.slice t e.nums.length r,e.text,e.c,e.s] 52)).alloc (.cells #[.int .i64 0,.int .i64 0,.int .i64 0,.int .i64 0,(),.string ⟨#[]⟩,.int .i64 0,.int .i64 0] 52)=W:=HW.out;rw[hW'];clear hW';go_wp2_with (go_at_call 52;with_reducible refine FO.out.mono ?_)
 first|(rintro f R rfl k3)|(rintro f R ⟨rfl,k3⟩)
 clear s0 s1 s2 s3 s4 x0 x1 x2 x3 O x5 x6 x7 FO;have K3:=hid k3;clear k3
 cases b1
 ·have hR:ok=false:=a2.out;subst hR;have b:=HR.out.kept K3.out (by simp);obtain⟨z0,z1,z2,z3,z4,z5,z6,z7⟩:=bc8 b rfl;have y0:R.frozen? ⟨w.heap.size+1+1,0,none⟩=false:=b.frozen 0;have y1:R.frozen? ⟨w.heap.size+1+1,1,none⟩=false:=b.frozen 1;have y2:R.frozen? ⟨w.heap.size+1+1,2,none⟩=false:=b.frozen 2;have y3:R.frozen? ⟨w.heap.size+1+1,3,none⟩=false:=b.frozen 3;have y4:R.frozen? ⟨w.heap.size+1+1,4,none⟩=false:=b.frozen 4;have y5:R.frozen? ⟨w.heap.size+1+1,5,none⟩=false:=b.frozen 5;have y6:R.frozen? ⟨w.heap.size+1+1,6,none⟩=false:=b.frozen 6;have y7:R.frozen? ⟨w.heap.size+1+1,7,none⟩=false:=b.frozen 7;clear b;go_wp2_with fail;refine bodyPost_ret (v:=.tuple #[.agg #[.int .i64 0,.int .i64 0,.int .i64 0,.int .i64 0,(),.string ⟨#[]⟩,.int .i64 0,.int .i64 0],.bool false]) (by simp[results,results24,go_sem,z0,z1,z2,z3,z4,z5,z6,z7]) rfl ?_
  unfold SeaE
  refine⟨?_,Or.inl ⟨a0,rfl⟩⟩;refine(a3.out.trans K3.out).fresh (show Kept [w.heap.size+1+1] _ _ from ?_) (by simp;omega)
  repeat (refine Kept.setCell ?_ (Or.inl (by simp)) _)
  exact kr
 obtain⟨q,ab,aa,a9⟩:=av (by trivial)
 have bq:-9223372036854775808<=s.Q - 1/\s.Q - 1<=9223372036854775807:=by omega
 have wq:IntKind.i64.wrap (s.Q - 1)=s.Q - 1:=by rw[IntKind.wrap_i64];omega
 have bv:=hid (NB q ab aa a9);have bs:=hid (SG q ab aa a9);clear av ab aa a9 NB SG bq;have b6:=HB.out.kept K3.out (by simp);obtain⟨s0,s1,s2,s3,s4⟩:=bc5 b6 rfl;clear b6;go_wp2_with (go_at_call 37;with_reducible refine(WI.out _).mono ?_)
 first|(rintro f L rfl k4)|(rintro f L ⟨rfl,k4⟩)
 have K4:=hid (K3.trans k4);clear k4 wq s0 s1 s2 s3 s4
 cases b2
 ·have hR:ok=false:=a2.out;subst hR;have b:=HR.out.kept K4.out (by simp);obtain⟨z0,z1,z2,z3,z4,z5,z6,z7⟩:=bc8 b rfl;have y0:L.frozen? ⟨w.heap.size+1+1,0,none⟩=false:=b.frozen 0;have y1:L.frozen? ⟨w.heap.size+1+1,1,none⟩=false:=b.frozen 1;have y2:L.frozen? ⟨w.heap.size+1+1,2,none⟩=false:=b.frozen 2;have y3:L.frozen? ⟨w.heap.size+1+1,3,none⟩=false:=b.frozen 3;have y4:L.frozen? ⟨w.heap.size+1+1,4,none⟩=false:=b.frozen 4;have y5:L.frozen? ⟨w.heap.size+1+1,5,none⟩=false:=b.frozen 5;have y6:L.frozen? ⟨w.heap.size+1+1,6,none⟩=false:=b.frozen 6;have y7:L.frozen? ⟨w.heap.size+1+1,7,none⟩=false:=b.frozen 7;clear b;go_wp2_with fail;refine bodyPost_ret (v:=.tuple #[.agg #[.int .i64 0,.int .i64 0,.int .i64 0,.int .i64 0,(),.string ⟨#[]⟩,.int .i64 0,.int .i64 0],.bool false]) (by simp[results,results24,go_sem,z0,z1,z2,z3,z4,z5,z6,z7]) rfl ?_
  unfold SeaE
  refine⟨?_,Or.inl ⟨a0,rfl⟩⟩;refine(a3.out.trans K4.out).fresh (show Kept [w.heap.size+1+1] _ _ from ?_) (by simp;omega)
  repeat (refine Kept.setCell ?_ (Or.inl (by simp)) _)
  exact kr
 have hR:ok=true:=a2.out;subst hR;have bt:=hid (NU (bk (by trivial)));clear NU;have b4:=HZ.out.kept K4.out (by simp);obtain⟨x0,x1,x2,x3,O,x5,x6,x7⟩:=bc8 b4 rfl;clear b4;have bm:=hid (BO L K4);go_wp2_with (go_at_call 53;with_reducible refine bm.out.mono ?_)
 first|(rintro f w5 rfl k5)|(rintro f w5 ⟨rfl,k5⟩)
 have K5:=hid (K4.trans k5);clear k5 BO bm x0 x1 x2 x3 O x5 x6 x7;have b3:=HZ.out.kept K5.out (by simp);have O:w5.cell? ⟨w.heap.size+1,4,none⟩=some (.slice t e.nums.length r):=b3.cell 4;clear b3;have bl:=hid (CL w5 K5);clear CL;go_wp2_with (go_at_call 54;with_reducible refine bl.out.mono ?_);rintro f w6 ⟨E,D,rfl,b0,k6⟩;clear O;have K6:=hid (K5.trans k6);have a7:=HZ.out.kept K6.out (by simp);have y4:w6.frozen? ⟨w.heap.size+1,4,none⟩=false:=a7.frozen 4;have O:w6.cell? ⟨w.heap.size+1,4,none⟩=some (.slice t e.nums.length r):=a7.cell 4;have p:=hid b0;clear k6 b0 a7 bl;go_upto_region 5 with(fail);obtain⟨m,Z⟩:=nm (w6.setCell ⟨w.heap.size+1,4,none⟩ (.slice E e.nums.length D));rw[Z];have a6:Kept [w.heap.size+1] w6 m:=Z▸kr.setCell (Or.inl (by simp)) _
 have ap:Hid (Blk m (w.heap.size+1) 52 #[e.gate,e.no,e.time,e.kind,.slice E e.nums.length D,e.text,e.c,e.s]):=by
  have:=(HZ.out.kept K6.out (by simp)).set_ 4 (.slice E e.nums.length D);rw[Z]at this;exact this
 have b9:=hid a6;have l:Hid (Kept [w.heap.size+1] W m):=(K6.out.mono (by simp)).trans a6;clear Z a6 y4 O;have s0:∀w',Kept [] m w'->w'.cell? ⟨w.heap.size,0,none⟩=some (.int .i64 s.P):=fun w' k=>((HB.out.kept l.out (by simp)).kept k (by simp)).cell 0;have s1:∀w',Kept [] m w'->w'.cell? ⟨w.heap.size,1,none⟩=some (.int .i64 s.Q):=fun w' k=>((HB.out.kept l.out (by simp)).kept k (by simp)).cell 1;have s2:∀w',Kept [] m w'->w'.cell? ⟨w.heap.size,2,none⟩=some (.int .i64 s.G):=fun w' k=>((HB.out.kept l.out (by simp)).kept k (by simp)).cell 2;have s3:∀w',Kept [] m w'->w'.cell? ⟨w.heap.size,3,none⟩=some (.slice ad s.bases.length cc):=fun w' k=>((HB.out.kept l.out (by simp)).kept k (by simp)).cell 3;have s4:∀w',Kept [] m w'->w'.cell? ⟨w.heap.size,4,none⟩=some (.int .i64 s.blind):=fun w' k=>((HB.out.kept l.out (by simp)).kept k (by simp)).cell 4
 have bx:¬9223372036854775807 < A.length+B.length:=by have:=bh.out;have:=bd.out;omega
 refine aJ [16] (fun w'=>Kept [] m w') (by kernel_rfl) kr.drew (fun hH=>?_);refine tk [11,12,13,14,15,16] 0 rfl hH ?_;simp only[Act.put,sA,s0_,s1_];refine tk [11,12,13,14,15,16] 1 rfl hH ?_;simp only[Act.put,sA,s0_,s1_];refine tk [3,5,9,11,12,13,14,15,16] 2 rfl hH ?_;simp only[Act.put,sA,s0_,s1_];refine tk [5,9,11,12,13,14,15,16] 4 rfl hH ?_;simp only[Act.put,sA,s0_,s1_];refine tk [7,8,9,11,12,13,14,15,16] 6 rfl hH ?_;simp only[Act.put,sA,s0_,s1_];refine tk [8,9,11,12,13,14,15,16] 7 rfl hH ?_;simp only[Act.put,sA,s0_,s1_];refine tk [9,11,12,13,14,15,16] 8 rfl hH ?_;simp only[Act.put,sA,s0_,s1_];refine tk [11,12,13,14,15,16] 10 rfl hH ?_;simp only[Act.put,sA,s0_,s1_];refine r1 3 rfl fun K hK=>?_;go_simp;refine(bt.out _ (l.out.trans (((Kept.refl [] m).drew).mono (by simp)))).mono ?_
 first|(rintro f wA rfl kA)|(rintro f wA ⟨rfl,kA⟩)
 have a5:Kept [] m wA:=(Kept.refl [] m).drew.trans kA;refine hK.out _ _ a5 (fun hH=>?_);clear hK K
 (try simp only[Act.put,sA,s0_,s1_])
 refine tk [9,11,12,13,14,15,16] 5 rfl hH ?_;simp only[Act.put,sA,s0_,s1_];refine r1 9 rfl fun K hK=>?_;go_simp;refine(bv _).mono ?_
 first|(rintro f wB rfl kB)|(rintro f wB ⟨rfl,kB⟩)
 have U:Kept [] m wB:=a5.trans kB;refine hK.out _ _ U (fun hH=>?_);clear hK K
 (try simp only[Act.put,sA,s0_,s1_])
 refine r1 11 rfl fun K hK=>?_;go_simp;refine(bs.out _ (l.out.trans (U.mono (by simp)))).mono ?_
 first|(rintro f J rfl kC)|(rintro f J ⟨rfl,kC⟩)
 have T:Kept [] m J:=U.trans kC;refine hK.out _ _ T (fun hH=>?_);clear hK K
 (try simp only[Act.put,sA,s0_,s1_])
 refine tk [13,14,15,16] 12 rfl hH ?_;simp only[Act.put,sA,s0_,s1_];refine tk [15,16] 13 rfl hH ?_;simp only[Act.put,sA,s0_,s1_];refine tk [16] 15 rfl hH ?_;simp only[Act.put,sA,s0_,s1_];have V:=ap.out.kept T (by simp);have x6':J.cell? ⟨w.heap.size+1,6,none⟩=some (.int .i64 e.c):=V.cell 6;have x7':J.cell? ⟨w.heap.size+1,7,none⟩=some (.int .i64 e.s):=V.cell 7;have y6:J.frozen? ⟨w.heap.size+1,6,none⟩=false:=V.frozen 6;have y7:J.frozen? ⟨w.heap.size+1,7,none⟩=false:=V.frozen 7;have KC:=hid T;clear s0 s1 s2 s3 s4 kA kB kC a5 U T;refine cN (rs:=[14,16]) (by kernel_rfl) (by simp) ?_;refine aI.cons rfl (fun K hK=>?_) (aI.last rfl (by kernel_rfl) (fun K hK=>?_))
 ·go_simp;refine hK.out _ _ KC (fun hH=>?_);clear hK K
  (try simp only[Act.put,sA,s0_,s1_])
  refine r2 16 rfl fun K hK=>?_;go_simp;refine hK.out _ _ ?_;clear hK K
  (try simp only[Act.put,sA,s0_,s1_])
  refine aD (by kernel_rfl) ?_ _;obtain⟨WF,j⟩:=nm ((J.setCell ⟨w.heap.size+1,6,none⟩ N).setCell ⟨w.heap.size+1,7,none⟩ M);rw[j]
  have y:Blk WF (w.heap.size+1) 52 #[e.gate,e.no,e.time,e.kind,.slice E e.nums.length D,e.text,N,M]:=by
   have:=((ap.out.kept KC.out (by simp)).set_ 6 N).set_ 7 M;rw[j]at this;exact this
  have kF:Kept [w.heap.size+1] J WF:=j▸(kr.setCell (Or.inl (by simp)) _).setCell (Or.inl (by simp)) _;have n:Kept [w.heap.size+1] m WF:=(KC.out.mono (by simp)).trans kF;have F:=hid (l.trans n);have a:=HR.out.kept F.out (by simp);obtain⟨x0,x1,x2,x3,O,x5,x6,x7⟩:=bc8 y rfl;obtain⟨z0,z1,z2,z3,z4,z5,z6,z7⟩:=bc8 a rfl;have v0:WF.frozen? ⟨w.heap.size+1+1,0,none⟩=false:=a.frozen 0;have v1:WF.frozen? ⟨w.heap.size+1+1,1,none⟩=false:=a.frozen 1;have v2:WF.frozen? ⟨w.heap.size+1+1,2,none⟩=false:=a.frozen 2;have v3:WF.frozen? ⟨w.heap.size+1+1,3,none⟩=false:=a.frozen 3;have v4:WF.frozen? ⟨w.heap.size+1+1,4,none⟩=false:=a.frozen 4;have v5:WF.frozen? ⟨w.heap.size+1+1,5,none⟩=false:=a.frozen 5;have v6:WF.frozen? ⟨w.heap.size+1+1,6,none⟩=false:=a.frozen 6;have v7:WF.frozen? ⟨w.heap.size+1+1,7,none⟩=false:=a.frozen 7;have ao:=hid (b9.trans n);clear j y kF n a x6' x7' y6 y7;go_wp2_with fail;refine bodyPost_ret (v:=.tuple #[.agg #[e.gate,e.no,e.time,e.kind,.slice E e.nums.length D,e.text,N,M],.bool true]) (by simp[results,results24,go_sem,z0,z1,z2,z3,z4,z5,z6,z7]) rfl ?_
  unfold SeaE
  rw[bc.out,bb.out];obtain⟨i,C⟩:=nm ((((((((WF.setCell ⟨w.heap.size+1+1,0,none⟩ e.gate).setCell ⟨w.heap.size+1+1,1,none⟩ e.no).setCell ⟨w.heap.size+1+1,2,none⟩ e.time).setCell ⟨w.heap.size+1+1,3,none⟩ e.kind).setCell ⟨w.heap.size+1+1,4,none⟩ (.slice E e.nums.length D)).setCell ⟨w.heap.size+1+1,5,none⟩ e.text).setCell ⟨w.heap.size+1+1,6,none⟩ N).setCell ⟨w.heap.size+1+1,7,none⟩ M);rw[C]
  have k2:Kept [w.heap.size+1+1] WF i:=by
   rw[<-C]
   repeat (refine Kept.setCell ?_ (Or.inl (by simp)) _)
   exact kr
  have kk:Kept [w.heap.size+1,w.heap.size+1+1] W i:=(F.out.mono (fun z _ d=>by obtain rfl:=ms d;simp)).trans (k2.mono (fun z _ d=>by obtain rfl:=ms d;simp));have a4:Kept [w.heap.size+1,w.heap.size+1+1] w6 i:=(ao.out.mono (fun z _ d=>by obtain rfl:=ms d;simp)).trans (k2.mono (fun z _ d=>by obtain rfl:=ms d;simp));have bo:=K5.size;have Y:=ba.out;refine⟨a3.out.fresh kk (fun z d=>by simp only[List.mem_cons,List.not_mem_nil,or_false]at d;rcases d with rfl|rfl <;> omega),Or.inr ⟨a0.out,E,D,rfl,fun X hX=>?_⟩⟩
  have ho:=af p a4 (fun z d hm=>by
   have h1:=ak p z d;simp only[List.mem_cons,List.not_mem_nil,or_false]at hm
   rcases hm with rfl|rfl <;> omega)
  exact ae.row ho (fun z d hm=>by have h1:=ak p.out z d;have:=hX z hm;omega) (by omega)
 ·go_simp;refine hK.out _ _ ?_;clear hK K
  (try simp only[Act.put,sA,s0_,s1_])
  refine r2 14 rfl fun K hK=>?_;go_simp;refine hK.out _ _ ?_;clear hK K
  (try simp only[Act.put,sA,s0_,s1_])
  refine aD (by kernel_rfl) ?_ _;obtain⟨WF,j⟩:=nm ((J.setCell ⟨w.heap.size+1,6,none⟩ N).setCell ⟨w.heap.size+1,7,none⟩ M);rw[j]
  have y:Blk WF (w.heap.size+1) 52 #[e.gate,e.no,e.time,e.kind,.slice E e.nums.length D,e.text,N,M]:=by
   have:=((ap.out.kept KC.out (by simp)).set_ 6 N).set_ 7 M;rw[j]at this;exact this
  have kF:Kept [w.heap.size+1] J WF:=j▸(kr.setCell (Or.inl (by simp)) _).setCell (Or.inl (by simp)) _;have n:Kept [w.heap.size+1] m WF:=(KC.out.mono (by simp)).trans kF;have F:=hid (l.trans n);have a:=HR.out.kept F.out (by simp);obtain⟨x0,x1,x2,x3,O,x5,x6,x7⟩:=bc8 y rfl;obtain⟨z0,z1,z2,z3,z4,z5,z6,z7⟩:=bc8 a rfl;have v0:WF.frozen? ⟨w.heap.size+1+1,0,none⟩=false:=a.frozen 0;have v1:WF.frozen? ⟨w.heap.size+1+1,1,none⟩=false:=a.frozen 1;have v2:WF.frozen? ⟨w.heap.size+1+1,2,none⟩=false:=a.frozen 2;have v3:WF.frozen? ⟨w.heap.size+1+1,3,none⟩=false:=a.frozen 3;have v4:WF.frozen? ⟨w.heap.size+1+1,4,none⟩=false:=a.frozen 4;have v5:WF.frozen? ⟨w.heap.size+1+1,5,none⟩=false:=a.frozen 5;have v6:WF.frozen? ⟨w.heap.size+1+1,6,none⟩=false:=a.frozen 6;have v7:WF.frozen? ⟨w.heap.size+1+1,7,none⟩=false:=a.frozen 7;have ao:=hid (b9.trans n);clear j y kF n a x6' x7' y6 y7;go_wp2_with fail;refine bodyPost_ret (v:=.tuple #[.agg #[e.gate,e.no,e.time,e.kind,.slice E e.nums.length D,e.text,N,M],.bool true]) (by simp[results,results24,go_sem,z0,z1,z2,z3,z4,z5,z6,z7]) rfl ?_
  unfold SeaE
  rw[bc.out,bb.out];obtain⟨i,C⟩:=nm ((((((((WF.setCell ⟨w.heap.size+1+1,0,none⟩ e.gate).setCell ⟨w.heap.size+1+1,1,none⟩ e.no).setCell ⟨w.heap.size+1+1,2,none⟩ e.time).setCell ⟨w.heap.size+1+1,3,none⟩ e.kind).setCell ⟨w.heap.size+1+1,4,none⟩ (.slice E e.nums.length D)).setCell ⟨w.heap.size+1+1,5,none⟩ e.text).setCell ⟨w.heap.size+1+1,6,none⟩ N).setCell ⟨w.heap.size+1+1,7,none⟩ M);rw[C]
  have k2:Kept [w.heap.size+1+1] WF i:=by
   rw[<-C]
   repeat (refine Kept.setCell ?_ (Or.inl (by simp)) _)
   exact kr
  have kk:Kept [w.heap.size+1,w.heap.size+1+1] W i:=(F.out.mono (fun z _ d=>by obtain rfl:=ms d;simp)).trans (k2.mono (fun z _ d=>by obtain rfl:=ms d;simp));have a4:Kept [w.heap.size+1,w.heap.size+1+1] w6 i:=(ao.out.mono (fun z _ d=>by obtain rfl:=ms d;simp)).trans (k2.mono (fun z _ d=>by obtain rfl:=ms d;simp));have bo:=K5.size;have Y:=ba.out;refine⟨a3.out.fresh kk (fun z d=>by simp only[List.mem_cons,List.not_mem_nil,or_false]at d;rcases d with rfl|rfl <;> omega),Or.inr ⟨a0.out,E,D,rfl,fun X hX=>?_⟩⟩
  have ho:=af p a4 (fun z d hm=>by
   have h1:=ak p z d;simp only[List.mem_cons,List.not_mem_nil,or_false]at hm
   rcases hm with rfl|rfl <;> omega)
  exact ae.row ho (fun z d hm=>by have h1:=ak p.out z d;have:=hX z hm;omega) (by omega)
end Go.Proofs.YtcidfldeiklcjaaGreatDoor
