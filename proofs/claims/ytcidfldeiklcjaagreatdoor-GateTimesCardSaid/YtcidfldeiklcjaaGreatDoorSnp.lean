import Derived.Test.YtcidfldeiklcjaaGreatDoorTmd
import Derived.Test.YtcidfldeiklcjaaGreatDoorSea
set_option maxRecDepth 100000
set_option maxHeartbeats 32000000
namespace Go.Proofs.YtcidfldeiklcjaaGreatDoor
open Go.RowKit Tm Bf
open Go.Proofs.Tryz
open Lib(hid)
def Gl(l:List Ent)(dr:Int):Gf:=gOf (edges l dr l.length)
theorem nz(l:List Ent)(dr:Int)(h0:0<=dr)(h1:dr<=1000)(hw:∀x∈l,WF x):GBd (l.length+1) (Gl l dr):=fun a b _ _=>by
 rcases Int.lt_or_le (Gl l dr a b) far with h|h
 ·obtain⟨e,he,_,_,h4⟩:=sN h;have h5:=xe l dr h0 h1 hw _ (Nat.le_refl _) e he;exact Or.inr ⟨by unfold Gl;rw[h4];exact h5.2.2.1,by unfold Gl;rw[h4];exact h5.2.2.2⟩
 ·exact Or.inl (Int.le_antisymm (yC _ _ _) h)
theorem sj{n:Nat}{G:Gf}(h:GBd n G):GBd n (turn G):=fun a b ha hb=>h b a hb ha
theorem qy{l:List Ent}{dr:Int}{i:Nat}{e:Tm.Edge}(hi:i < l.length)(h:e∈iL l i):e∈edges l dr l.length:=by
 unfold edges
 rw[List.mem_flatMap];exact⟨i,List.mem_range.2 hi,by unfold gf;exact List.mem_append_left _ h⟩
theorem oF(l:List Ent)(dr:Int):∀b,b < l.length+1->b≠l.length->Gl l dr l.length b < far:=fun b hb hne=>by
 have h1:=rK (qy (l:=l) (dr:=dr) (i:=b) (by omega) (show(l.length,b,Tm.mt)∈iL l b by simp[iL]));have:Gl l dr l.length b<=Tm.mt:=h1
 have h3:Tm.mt < far:=by decide
 omega
theorem sL(l:List Ent)(dr:Int):∀b,b < l.length+1->b≠l.length->turn (Gl l dr) l.length b < far:=fun b hb hne=>by
 have h1:=rK (qy (l:=l) (dr:=dr) (i:=b) (by omega) (show(b,l.length,0)∈iL l b by simp[iL]));have:turn (Gl l dr) l.length b<=0:=h1
 have h3:(0:Int) < far:=by decide
 omega
def BndR(_:World)(c:List Value)(b:Int × Int):Prop:=c=[.int .i64 b.1,.int .i64 b.2]
def bndL(lo up:Nat->Int)(k:Nat):List (Int × Int):=(List.range k).map fun i=>(-lo i,up i)
theorem nL(lo up:Nat->Int)(k:Nat):bndL lo up (k+1)=bndL lo up k++[(-lo k,up k)]:=by unfold bndL;rw[List.range_succ,List.map_append];rfl
theorem cO(lo up:Nat->Int)(k:Nat):(bndL lo up k).length=k:=by simp[bndL]
theorem sI:(prog.info? 42).map (fun i=>(i.zero,i.size,i.bytes))=some (some (.agg #[.int .i64 0,.int .i64 0]),2,16):=by kernel_rfl
def BdsE(s:Stp)(keys:List Int)(l:List Ent)(dr:Int)(w:World)(e:Ending)(w':World):Prop:=Kept [] w w' /\
 (((aw s&&inB dr 0 1000)=false/\e=.returned (.tuple #[(),.int .i64 1])) \/
  ((aw s&&inB dr 0 1000)=true/\∃o:List Ent,bA (aN s keys) l o/\o.length<=12/\(∀x∈o,WF x)/\0<=dr/\dr<=1000 /\
   ((∃v up lo,e=.returned (.tuple #[v,.int .i64 0])/\Top (Gl o dr) (o.length+1) o.length up/\Top (turn (Gl o dr)) (o.length+1) o.length lo/\ag BndR 2 w' v (bndL lo up o.length)) \/
   (e=.returned (.tuple #[(),.int .i64 13])/\∀t,¬Feas (Gl o dr) (o.length+1) t))))
structure Bo (w wr:World) (l:List (Int × Int)) (X:List Nat) (v:Value):Prop where
 gr:Grow BndR 2 42 w.heap.size X wr v l
 vX:∀z∈obl v,z∈X
 hX:∀z∈X,z < wr.heap.size
 kb:Kept [] w wr
theorem Bo.push{w wr wu:World}{l:List (Int × Int)}{X:List Nat}{v:Value}{b:Int × Int}{p:Option Addr}{q:Nat}(h:Bo w wr l X v)(k1:Kept (obl v) wr wu)
  (G:Grow BndR 2 42 w.heap.size (X++obl (.slice p (l.length+1) q)) wu (.slice p (l.length+1) q) (l++[b])):Bo w wu (l++[b]) (X++obl (.slice p (l.length+1) q)) (.slice p (l.length+1) q) := ⟨G,fun z hz=>List.mem_append_right _ hz,fun z hz=>by
  rcases List.mem_append.1 hz with e|e
  ·exact Nat.lt_of_lt_of_le (h.hX z e) k1.size
  ·exact(G.ge z e).2,h.kb.fresh k1 (fun z hz=>(h.gr.ge z hz).1)⟩
theorem gI(vs vk va:Value)(s:Stp)(keys:List Int)(l:List Ent)(dr:Int)(w:World)(hs:StpV w vs s)(hk:Row w 1 vk keys.length (ints keys))(ha:aU w va l)(hl:l.length<=12)(hI:∀e∈l,EntI e)(hki:∀x∈keys,Wire.I64 x)(hE:Env2 w) :
  Calls prog 10 #[vs,vk,va,dr] w (BdsE s keys l dr w):=by
 have hs':=hs;obtain⟨⟨ad,cc,rfl,a4⟩,ip,iq,ig,ib,il⟩:=hs';obtain⟨aa,ca,rfl,_,_⟩:=ag.form ha;obtain⟨ka,kc,rfl,_,_⟩:=hk.form;obtain⟨W,hW⟩:=nm (w.alloc (.cells (stpA s (.slice ad s.bases.length cc)) 26));have hb:Blk W w.heap.size 26 (stpA s (.slice ad s.bases.length cc)):=hW▸Blk.new _ _ _;have d:Kept [] w W:=hW▸kr.alloc _
 have TM:Hid (Calls prog 25 #[.agg #[s.P,s.Q,s.G,.slice ad s.bases.length cc,s.blind],.slice ka keys.length kc,.slice aa l.length ca,dr] W (TmE s keys l dr W)) :=
  jf _ _ _ s keys l dr W (hs.kept d) (hk.kept d) (ha.kept d) hl hI hki (hE.kept0 d)
 obtain⟨s0,s1,s2,s3,s4⟩:=bc5 hb rfl;have HW:=hid hW;have ao:=hid d;obtain⟨i0,hi,b3,b2,b1⟩:=info_parts sI
 unfold BdsE
 clear hW hb a4 d hs hk ha hki hE ib hI
 show Calls _ _ #[.agg #[s.P,s.Q,s.G,.slice ad s.bases.length cc,s.blind],_,_,_] _ _
 go_enter func10,ntmps10
 go_upto_region 1 with(fail);have hW':w.alloc (.cells #[s.P,s.Q,s.G,.slice ad s.bases.length cc,s.blind] 26)=W:=HW.out;rw[hW'];clear hW';go_wp2_with (go_at_call 25;with_reducible refine TM.out.mono ?_);rintro e w1 ⟨k1,⟨a5,rfl⟩|⟨J,o,gb,a6,Y,R,a1,a0,rfl,hm⟩⟩
 ·have b9:=hid a5;have K1:=hid k1;clear s0 s1 s2 s3 s4 a5 k1;go_wp2_with fail
  go_ret2
  exact⟨ao.trans K1,Or.inl ⟨b9,rfl⟩⟩
 have M:=hid J;have K1:=hid (ao.trans k1);have ap:=hid a6;have am:=hid R;have HD:=hid (And.intro a1 a0);have u:=hid (nz o dr a1 a0 R);have a2:=hid (oF o dr);have I:=hid (sL o dr);have j:MatV w1 (.slice (some ⟨gb,0,none⟩) (o.length+1) (o.length+1)) (o.length+1) (Gl o dr):=hm;obtain⟨G,hG⟩:=nm (Gl o dr);have a3:=hid hG;rw[hG]at j u a2 I;obtain⟨n,hn⟩:=nm o.length;have HN:=hid hn;rw[hn]at j u a2 I Y ⊢;have HM:=hid j;have F1:=hid (lU _ (n+1) n G w1 j (by omega) (by omega) u.out a2.out);clear s0 s1 s2 s3 s4 J k1 a6 R a1 a0 hm j hG hn;go_wp2_with (go_at_call 26;with_reducible refine F1.out.mono ?_);rintro e w2 ⟨k2,ac⟩;have TR:=hid (qM _ (n+1) G w2 (HM.out.kept k2) (by omega) (by omega));have b0:=hid ac
 rcases ac with⟨ub,f,rfl,a,E,b4,a7⟩|⟨rfl,C⟩
 rotate_left
 ·clear b0;have an:=hid C;have K2:=hid (K1.trans k2);clear C k2;go_wp2_with (go_at_call 27;with_reducible refine TR.out.mono ?_);rintro e w3 ⟨vt,rfl,g,k3⟩;have F:=hid g;obtain⟨tb,tc,rt,ct,rfl,_,_⟩:=g;have F2:=hid (lU _ (n+1) n (turn G) w3 F.out (by omega) (by omega) (sj u.out) I.out);have K3:=hid (K2.trans k3);clear k3;go_wp2_with (go_at_call 26;with_reducible refine F2.out.mono ?_);rintro e B ⟨k4,⟨lb,c,rfl,a,_⟩|⟨rfl,_⟩⟩
  ·exact absurd (jx.1 a.feas) (an _)
  ·have K4:=hid (K3.trans k4);clear k4;go_wp2_with fail
   go_ret2
   exact⟨K4.out,Or.inr ⟨M.out,o,ap.out,by rw[HN.out];exact Y,am.out,HD.out.1,HD.out.2,Or.inr ⟨rfl,by rw[HN.out,a3.out];exact an.out⟩⟩⟩
 have N:=hid a;have av:=hid a7;have K2:=hid (K1.trans k2);clear b0 a7 a E b4 k2;go_wp2_with (go_at_call 27;with_reducible refine TR.out.mono ?_);rintro e w3 ⟨vt,rfl,g,k3⟩;have F:=hid g;obtain⟨tb,tc,rt,ct,rfl,_,_⟩:=g;have F2:=hid (lU _ (n+1) n (turn G) w3 F.out (by omega) (by omega) (sj u.out) I.out);have K3:=hid k3;clear k3;go_wp2_with (go_at_call 26;with_reducible refine F2.out.mono ?_);rintro e B ⟨k4,⟨lb,c,rfl,a,E,_,a9⟩|⟨rfl,C⟩⟩
 rotate_left
 ·exact absurd (jx.2 (by simpa using N.feas)) (C fun v=>-f v)
 have O:=K3.trans k4;have U:Hid (∀(i:Nat),i < n->∀w',Kept [] B w'->w'.cell? ⟨ub,i,none⟩=some (.int .i64 (f i))):=fun i hi=>Kept.cellOf (Kept.cellOf (av.out.cell (by omega)) _ O);have L:Hid (∀(i:Nat),i < n->∀w',Kept [] B w'->w'.cell? ⟨lb,i,none⟩=some (.int .i64 (c i))):=fun i hi=>Kept.cellOf (a9.cell (by omega))
 have bb:Hid (∀i,i < n->-1125899906842624<=c i/\c i<=1125899906842624):=fun i hi=>by
  rcases E i (by omega)with h|h
  ·have:=a.all i (by omega);omega
  ·exact h
 have b6:=hid a;have K4:=hid (K2.trans O);clear k4 O a9 E a av F HM F1 F2 TR K3 HW;have B0:Hid (Bo B B (bndL c f 0) [] ()):=⟨Grow.nil_ _ _ _ _ _ _,(fun z hz=>by have:=cZ hz;cases this),by simp,kr⟩;go_wp2_with fail
 go_loopw [17,18,52] (fun vj _ vi wr=>∃(k:Nat) (X:List Nat),k<=n/\vi=k/\Hid (Bo B wr (bndL c f k) X vj)) (fun _ _ vi _=>n - (intOf vi).toNat)
 case atStart=>exact⟨0,[],by omega,rfl,B0⟩
 case round =>
  obtain⟨k,X,bc,rfl,A⟩:=hrel;obtain⟨ja,jc,rfl⟩:=A.out.gr.form (by decide);rw[cO]
  by_cases hkn:k < n
  ·have r:=A.kb;have D:=A.gr.ge;rw[cO]at D;have uk:=U.out k hkn _ kr;have lk:=L.out k hkn _ kr;have V:=World.block_lt_of_cell? _ _ uk;have Z:=World.block_lt_of_cell? _ _ lk;have u0:∀w',Kept (obl (.slice ja k jc)) wr w'->w'.cell? ⟨ub,k,none⟩=some (.int .i64 (f k)):=fun w' kk=>(kk.cell (p:=⟨ub,k,none⟩) (Nat.lt_of_lt_of_le V r.size) (fun hm=>by have:=(D _ hm).1;have T:ub < B.heap.size:=V;exact absurd this (by simpa using T))).trans (U.out k hkn _ r);have l0:∀w',Kept (obl (.slice ja k jc)) wr w'->w'.cell? ⟨lb,k,none⟩=some (.int .i64 (c k)):=fun w' kk=>(kk.cell (p:=⟨lb,k,none⟩) (Nat.lt_of_lt_of_le Z r.size) (fun hm=>by have:=(D _ hm).1;have T:lb < B.heap.size:=Z;exact absurd this (by simpa using T))).trans (L.out k hkn _ r);have al:=bb k hkn;have HS:=hid (nL c f k);have b5:Hid (B.heap.size<=wr.heap.size):=A.out.kb.size;have m:=cO c f k;obtain⟨x,hx⟩:=nm (c k);obtain⟨y,hy⟩:=nm (f k);rw[hx]at l0 al HS;rw[hy]at u0 HS
   have wx:IntKind.i64.wrap (-x)=-x:=by rw[IntKind.wrap_i64];omega
   obtain⟨bl,ah⟩:=nm (bndL c f k);rw[ah]at A HS m;rw[m]at A;clear hx hy al ah r D uk lk V Z;go_upto_region 13 with(fail)
   have bm:k < n+1:=by omega
   have bk:(0:Int)<=(k:Int):=by omega
   have bh:(k:Int) < ((n+1:Nat):Int):=by omega
   have bd:(k:Int) < (n:Int)+1:=by omega
   go_region_held3 (fun w'=>Kept (obl (.slice ja k jc)) wr w') (repeat (first|(with_reducible assumption)|(with_reducible exact kr)|(with_reducible refine Kept.drew ?_)|(with_reducible refine Kept.alloc ?_ _)|(refine Kept.trans ?_ ab)))
    (first
     |(refine aO rfl _ _ 32 rfl i0 (.agg #[.int .i64 0,.int .i64 0]) 16 underlying32 hi b3 b2 b1 rfl (by decide) (by decide) rfl (A.out.gr.step (S:=[]) (X':=X) (by(repeat (first|(with_reducible assumption)|(with_reducible exact kr)|(with_reducible refine Kept.drew ?_)|(with_reducible refine Kept.alloc ?_ _)))) (by simp) (by simp) (fun z hz=>Or.inl hz)) _ [.int .i64 (-x),y] (-x,y) rfl (rowS rfl _ _ _ rfl) (fun _ _ _ _=>rfl) (by simp[Value.oneCell']) (by omega) (Nat.le_trans b5.out (Kept.size (S:=[]) (by(repeat (first|(with_reducible assumption)|(with_reducible exact kr)|(with_reducible refine Kept.drew ?_)|(with_reducible refine Kept.alloc ?_ _)))))) A.out.vX ?_;intro p9 q9 y9 G9 ab t9)
     |fail)
   rename_i t
   have ba:Hid (Bo B y9 (bndL c f (k+1)) (X++obl (.slice p9 (k+1) q9)) (.slice p9 (k+1) q9)):=by
    rw[HS.out];have h:=A.push (p:=p9) (q:=q9) (b:=(-x,y)) t G9;rw[m]at h;exact h
   clear t G9 ab t9 u0 l0;go_wp2_with fail
   go_roundw
   case rel=>exact⟨k+1,_,by omega,by go_num,ba⟩
   case measure=>simp[intOf];omega
  ·obtain rfl:k=n:=by omega
   have b7:Hid (ag BndR 2 wr (.slice ja k jc) (bndL c f k)):=by
    have h:=A.out.gr.row (by rw[cO];omega);rw[cO]at h;exact h
   have KE:=hid (K4.trans A.kb);go_wp2_with fail
   go_ret2
   refine⟨KE.out,Or.inr ⟨M.out,o,ap.out,by rw[HN.out];exact Y,am.out,HD.out.1,HD.out.2,Or.inl ⟨_,f,c,rfl,?_,?_,?_⟩⟩⟩
   ·rw[HN.out,a3.out];exact N.out
   ·rw[HN.out,a3.out];exact b6.out
   ·rw[HN.out];exact b7.out
end Go.Proofs.YtcidfldeiklcjaaGreatDoor
namespace Go.Proofs.YtcidfldeiklcjaaGreatDoor.Bf
variable {g:Gf} {n s:Nat}
theorem rC{o t:Nat->Int}(h:Top (turn g) n s o)(hf:Feas g n t)(ht:t s=0):∀v,v < n->-o v<=t v:=fun v hv=>by
 have h1:Feas (turn g) n fun v=>-t v:=jx.2 (by simpa using hf);have:=h.greatest h1 (by simp[ht]) hv;omega
theorem pY{j x:Nat}(h:Neg g n j x)(t:Nat->Int):¬Feas g n t:=fun hf=>by
 obtain⟨l,h1,_,h3⟩:=h;have:=fL hf _ _ _ h1;omega
def dV(g:Gf)(n:Nat)(c:List Nat):Prop :=
 (c=[]/\∀j x,1<=j->¬Neg g n j x) \/
 (ey g n c/\c.Nodup/\(∀j x,1<=j->j < c.length->¬Neg g n j x)/\∀d,ey g n d->d.length=c.length->d=c\/∃p x y q r,c=p++x::q/\d=p++y::r/\x < y)
def Acc(g:Gf)(n:Nat)(c:List Nat):Prop:=ey g n c/\c.Nodup
theorem rR{c d:List Nat}(h:dV g n c)(hd:Acc g n d):c≠[]/\c.length<=d.length/\(d.length=c.length->d=c\/∃p x y q r,c=p++x::q/\d=p++y::r/\x < y):=by
 obtain⟨a,t,hdl,h1⟩:=dP hd.1
 rcases h with h|⟨h2,_,h3,h4⟩
 ·exact absurd h1 (h.2 _ _ (by rw[hdl];simp))
 ·obtain⟨a',t',hc,_⟩:=h2;refine⟨by rw[hc];simp,Nat.not_lt.1 fun hl=>h3 _ _ (by rw[hdl];simp) hl h1,h4 d hd.1⟩
theorem qC{c d:List Nat}(h:dV g n c)(hd:ey g n d)(hdn:d.Nodup)(hmin:∀j x,1<=j->j < d.length->¬Neg g n j x)
  (hl:∀b,ey g n b->b.length=d.length->b=d\/∃p x y q r,d=p++x::q/\b=p++y::r/\x < y):c=d:=by
 obtain⟨m,w,l⟩:=rR h ⟨hd,hdn⟩
 rcases h with h|⟨f,_,v,u⟩
 ·exact absurd h.1 m
 obtain⟨a,t,s,i⟩:=dP f
 have e:d.length=c.length:=by
  have:¬c.length < d.length:=fun hlt=>hmin _ _ (by rw[s];simp) hlt i;omega
 rcases l e with D|⟨p,x,y,q,r,F,E,k⟩
 ·exact D.symm
 ·rcases hl c f e.symm with C|⟨p',x',y',q',r',B,A,hxy'⟩
  ·exact C
  ·exfalso
   rw[F]at A;rw[E]at B
   have o:∀(p p' q q' r r':List Nat) (x y x' y':Nat),p++x::q=p'++y'::r'->p++y::r=p'++x'::q'->x < y->x' < y'->False:=by
    intro p
    induction p with
    |nil =>
     intro p' q q' r r' x y x' y' i f v u
     cases p' with
     |nil=>simp at i f;omega
     |cons z p'=>simp at i f;omega
    |cons z p ih =>
     intro p' q q' r r' x y x' y' i f v u
     cases p' with
     |nil=>simp at i f;omega
     |cons z' p' =>
      simp only[List.cons_append,List.cons.injEq]at i f;exact ih p' q q' r r' x y x' y' i.2 f.2 v u
   exact o p p' q q' r r' x y x' y' A B k hxy'
end Go.Proofs.YtcidfldeiklcjaaGreatDoor.Bf
namespace Go.Proofs.YtcidfldeiklcjaaGreatDoor.Tm
open Bf
section
variable {l:List Ent} {dr:Int}
end
end Go.Proofs.YtcidfldeiklcjaaGreatDoor.Tm
namespace Go.Proofs.YtcidfldeiklcjaaGreatDoor.Bf
def bj(f:Nat->Int):Nat->Int
 |0=>0
 |k+1=>bj f k+f k
theorem jD(f:Nat->Int):∀k,bj f (k+1)=f 0+bj (fun j=>f (j+1)) k
 |0=>by simp[bj]
 |k+1=>by rw[bj,jD f k,bj];omega
theorem jE{f h:Nat->Int}:∀k,(∀j,j < k->f j=h j)->bj f k=bj h k
 |0,_=>rfl
 |k+1,e=>by rw[bj,bj,jE k fun j hj=>e j (by omega),e k (by omega)]
variable {g:Gf} {n:Nat}
theorem uJ:∀l:List Nat,wt g l=bj (fun j=>g (l.getD j 0) (l.getD (j+1) 0)) (l.length - 1)
 | []=>rfl
 | [_]=>rfl
 |a::b::l=>by
  have ih:=uJ (b::l);rw[wt,ih]
  show _=bj _ (l.length+1)
  rw[jD]
  rfl
theorem mM:∀l:List Nat,du g l↔∀j,j+1 < l.length->g (l.getD j 0) (l.getD (j+1) 0) < far
 | []=>by simp[du]
 | [_]=>by simp[du]
 |a::b::l=>by
  have ih:=mM (b::l);rw[du,ih]
  constructor
  ·rintro⟨h1,h2⟩ j hj
   cases j with
   |zero=>exact h1
   |succ j=>exact h2 j (by simpa using hj)
  ·intro h;exact⟨h 0 (by simp),fun j hj=>h (j+1) (by simpa using hj)⟩
def natI(o:List Nat):List Int:=o.map fun x:Nat=>(x:Int)
theorem eH(o:List Nat):(natI o).length=o.length:=by simp[natI]
theorem nh(o:List Nat)(b:Nat):natI (o++[b])=natI o++[(b:Int)]:=by simp[natI]
theorem pZ(o:List Nat)(j:Nat):((natI o).getD j 0).toNat=o.getD j 0:=by
 unfold natI
 rw[List.getD_eq_getElem?_getD,List.getD_eq_getElem?_getD,List.getElem?_map]
 cases o[j]? <;> rfl
def cw(g:Gf)(cyc:List Int)(j:Nat):Int:=g (cyc.getD j 0).toNat (cyc.getD ((j+1) % cyc.length) 0).toNat
theorem tC{c:List Nat}{a:Nat}{t:List Nat}(hc:c=a::t){j:Nat}(hj:j < c.length):(c++[a]).getD j 0=c.getD j 0/\(c++[a]).getD (j+1) 0=c.getD ((j+1) % c.length) 0:=by
 rw[List.getD_eq_getElem?_getD,List.getD_eq_getElem?_getD,List.getD_eq_getElem?_getD,List.getD_eq_getElem?_getD,List.getElem?_append_left hj];refine⟨rfl,?_⟩
 by_cases h:j+1 < c.length
 ·rw[List.getElem?_append_left h,Nat.mod_eq_of_lt h]
 ·have e:j+1=c.length:=by omega
  rw[e,Nat.mod_self,List.getElem?_append_right (Nat.le_refl _)];subst hc
  simp
theorem oU(cyc:List Int):(∃c,cyc=natI c/\Acc g n c)↔0 < cyc.length/\(∀j,j < cyc.length->0<=cyc.getD j 0/\cyc.getD j 0 < n)/\cyc.Nodup/\(∀j,j < cyc.length->cw g cyc j < far)/\bj (cw g cyc) cyc.length < 0:=by
 have k:∀c:List Nat,∀a t,c=a::t->wt g (c++[a])=bj (cw g (natI c)) c.length/\(du g (c++[a])↔∀j,j < c.length->cw g (natI c) j < far):=by
  intro c a t q
  have e:∀j,j < c.length->g ((c++[a]).getD j 0) ((c++[a]).getD (j+1) 0)=cw g (natI c) j:=fun j b=>by
   obtain⟨f,d⟩:=tC q b
   unfold cw
   rw[f,d,pZ,eH,pZ]
  refine⟨?_,?_⟩
  ·rw[uJ,show(c++[a]).length - 1=c.length by simp];exact jE _ e
  ·rw[mM]
   constructor
   ·intro h j b;rw[<-e j b];exact h j (by simp;omega)
   ·intro h j b
    have hj':j < c.length:=by simpa using b
    rw[e j hj'];exact h j hj'
 constructor
 ·rintro⟨c,rfl,⟨a,t,q,y,m⟩,o⟩;obtain⟨w,v⟩:=k c a t q;rw[eH];refine⟨by rw[q];simp,fun j b=>?_,?_,v.1 y.steps,by rw[<-w];exact m⟩
  ·have f:c[j] < n:=y.lt _ (List.mem_append_left _ (List.getElem_mem b))
   unfold natI
   rw[List.getD_eq_getElem?_getD,List.getElem?_map,List.getElem?_eq_getElem b]
   simp
   exact f
  ·unfold natI
   unfold List.Nodup at o ⊢
   rw[List.pairwise_map];exact o.imp fun h e=>h (by have e':((_:Nat):Int)=((_:Nat):Int):=e;exact Int.ofNat.inj e')
 ·rintro⟨f,d,u,s,r⟩
  have e:cyc=natI (cyc.map Int.toNat):=by
   unfold natI
   rw[List.map_map]
   apply List.ext_getElem
   ·simp
   ·intro i p A;have:=d i p;rw[List.getD_eq_getElem?_getD,List.getElem?_eq_getElem p]at this;simp at this ⊢;omega
  generalize B:cyc.map Int.toNat=c at e
  subst e;refine⟨c,rfl,?_,?_⟩
  ·rw[eH]at f d s r
   match c,f,d,s,r with
   |a::t,f,d,s,r =>
    obtain⟨w,v⟩:=k (a::t) a t rfl;refine⟨a,t,rfl,⟨rfl,by rw[List.getLast?_append];simp,fun x l=>?_,v.2 s⟩,by rw[w];exact r⟩
    have z:x∈a::t:=by
     rcases List.mem_append.1 l with l|l
     ·exact l
     ·rw[List.mem_singleton.1 l];exact List.mem_cons_self
    obtain⟨i,p,rfl⟩:=List.getElem_of_mem z;have:=d i p
    unfold natI at this
    rw[List.getD_eq_getElem?_getD,List.getElem?_map,List.getElem?_eq_getElem p]at this;simp at this;exact this
  ·unfold natI at u
   unfold List.Nodup at u ⊢
   rw[List.pairwise_map]at u;exact u.imp fun h e=>h (congrArg (fun x:Nat=>(x:Int)) e)
end Go.Proofs.YtcidfldeiklcjaaGreatDoor.Bf
namespace Go.Proofs.YtcidfldeiklcjaaGreatDoor
open Go.RowKit
def AnsB(P:Prop)(w:World)(e:Ending)(w':World):Prop:=Kept [] w w'/\∃b,e=.returned (.bool b)/\(b=true↔P)
section
variable {P Q:Prop} {w w':World}
theorem AnsB.no(k:Kept [] w w')(h:¬P):AnsB P w (.returned (.bool false)) w':=⟨k,false,rfl,⟨fun h=>(by cases h),fun hp=>absurd hp h⟩⟩
theorem AnsB.of{b:Bool}(k:Kept [] w w')(h:b=true↔P):AnsB P w (.returned (.bool b)) w':=⟨k,b,rfl,h⟩
end
open Bf Go.Proofs.Tryz Tm
open Lib(hid)
def ImpP(s:Stp)(keys:List Int)(l:List Ent)(dr:Int)(cyc:List Int):Prop :=
 (aw s&&inB dr 0 1000)=true/\∃o,bA (aN s keys) l o/\∃c,cyc=natI c/\Acc (Gl o dr) (o.length+1) c
def ImpR(G:Gf)(n:Nat)(cyc:List Int):Prop:=0 < cyc.length/\(∀j,j < cyc.length->0<=cyc.getD j 0/\cyc.getD j 0 < ((n+1:Nat):Int))/\cyc.Nodup/\(∀j,j < cyc.length->cw G cyc j < far)/\bj (cw G cyc) cyc.length < 0
theorem iF{s:Stp}{keys:List Int}{l o:List Ent}{dr:Int}(cyc:List Int)(h:(aw s&&inB dr 0 1000)=true)(hj:bA (aN s keys) l o):ImpP s keys l dr cyc↔ImpR (Gl o dr) o.length cyc:=by
 unfold ImpR
 rw[<-oU]
 constructor
 ·rintro⟨_,o',h1,h2⟩;rw[eK h1 hj]at h2;exact h2
 ·exact fun h2=>⟨h,o,hj,h2⟩
theorem dR(vs vk va vc:Value)(s:Stp)(keys:List Int)(l:List Ent)(dr:Int)(cyc:List Int)(w:World)(hs:StpV w vs s)(hk:Row w 1 vk keys.length (ints keys))(ha:aU w va l)(hl:l.length<=12)(hI:∀e∈l,EntI e)(hki:∀x∈keys,Wire.I64 x)
  (hc:Row w 1 vc cyc.length (ints cyc)) (hcl:cyc.length<=100) (hci:∀x∈cyc,Wire.I64 x) (hE:Env2 w) :
  Calls prog 15 #[vs,vk,va,dr,vc] w (AnsB (ImpP s keys l dr cyc) w):=by
 have hs':=hs;obtain⟨⟨ad,cc,rfl,q⟩,ip,iq,ig,ib,il⟩:=hs';obtain⟨aa,ca,rfl,_,_⟩:=ag.form ha;obtain⟨ka,kc,rfl,_,_⟩:=hk.form;obtain⟨ya,yc,rfl,_,b0⟩:=hc.form;obtain⟨W,hW⟩:=nm (w.alloc (.cells (stpA s (.slice ad s.bases.length cc)) 26));have hb:Blk W w.heap.size 26 (stpA s (.slice ad s.bases.length cc)):=hW▸Blk.new _ _ _;have p:Kept [] w W:=hW▸kr.alloc _
 have TM:Hid (Calls prog 25 #[.agg #[s.P,s.Q,s.G,.slice ad s.bases.length cc,s.blind],.slice ka keys.length kc,.slice aa l.length ca,dr] W (TmE s keys l dr W)) :=
  jf _ _ _ s keys l dr W (hs.kept p) (hk.kept p) (ha.kept p) hl hI hki (hE.kept0 p)
 obtain⟨s0,s1,s2,s3,s4⟩:=bc5 hb rfl;have HW:=hid hW;have ap:=hid p;have HY:=hid (hc.kept p);have bx:=hid hci;clear hW hb q p hs hk ha hki hE ib hI hc hci
 show Calls _ _ #[.agg #[s.P,s.Q,s.G,.slice ad s.bases.length cc,s.blind],_,_,_,_] _ _
 go_enter func15,ntmps15
 go_upto_region 1 with(fail);have hW':w.alloc (.cells #[s.P,s.Q,s.G,.slice ad s.bases.length cc,s.blind] 26)=W:=HW.out;rw[hW'];clear hW';go_wp2_with (go_at_call 25;with_reducible refine TM.out.mono ?_);rintro e w1 ⟨k1,⟨N,rfl⟩|⟨I,o,gb,a6,b5,a5,ab,a9,rfl,R⟩⟩
 ·have bb:Hid (¬ImpP s keys l dr cyc):=fun h=>by rw[h.1]at N;cases N
  have Y:=hid k1;clear s0 s1 s2 s3 s4 N k1;go_wp2_with fail;go_ret;exact AnsB.no (ap.trans Y) bb
 have f:=hid (iF cyc I a6);have Y:=hid (ap.trans k1);have a2:=hid (nz o dr ab a9 a5);have O:MatV w1 (.slice (some ⟨gb,0,none⟩) (o.length+1) (o.length+1)) (o.length+1) (Gl o dr):=R;have an:=hid (HY.kept k1)
 generalize hG:Gl o dr=G at O a2 f
 generalize hn:o.length=n at O a2 f b5 ⊢
 obtain⟨gb',gc',rb,cp,b7,bs,i⟩:=O;injection b7 with d _ h3;injection d with d;injection d with d;subst d h3;have HM:=hid i
 generalize hP:ImpP s keys l dr cyc=P at f
 have B:=hid hP;obtain⟨L,hL⟩:=nm cyc.length;have r:=hid hL;rw[hL]at b0 hcl an ⊢;clear s0 s1 s2 s3 s4 I k1 a6 a5 ab a9 R i hG hn TM HY hP hL
 have bm:((n+1:Nat):Int) - 1=(n:Int):=by omega
 go_wp2_with fail
 go_loopw [13,14,15,16,29] (fun vsum _ _ _ vi wr=>∃k:Nat,k<=L/\vi=k/\vsum=.int .i64 (bj (cw G cyc) k)/\Hid (∀j,j < k->0<=cyc.getD j 0/\cyc.getD j 0 < ((n+1:Nat):Int))/\Hid ((cyc.take k).Nodup)/\Hid (∀j,j < k->cw G cyc j < far)/\-(8589934592*(k:Int))<=bj (cw G cyc) k/\bj (cw G cyc) k<=8589934592*(k:Int)/\Hid (Kept [] w1 wr)) (fun _ _ _ _ vi _=>L - (intOf vi).toNat)
 case atStart=>exact⟨0,by omega,rfl,rfl,fun j hj=>by omega,by simp[Hid],fun j hj=>by omega,by simp[bj],by simp[bj],kr⟩
 case round =>
  obtain⟨k,bq,rfl,rfl,HA,HN,HF,b3,b2,D⟩:=hrel
  generalize hS:bj (cw G cyc) k=S at b3 b2 ⊢
  have a0:=hid hS;clear hS
  by_cases hkn:k < L
  ·have A:k < cyc.length:=by have:=r.out;omega
   obtain⟨yb,yo,rfl,c⟩:=(an.out.kept D.out).at_ (by omega);have b1:=c k _ (aL A);obtain⟨m,R⟩:=nm ((k+1) % L)
   have bo:m < L:=by rw[<-R];exact Nat.mod_lt _ (by omega)
   have i:m < cyc.length:=by have:=r.out;omega
   have av:=c m _ (aL i)
   have J:((k:Int)+1) % (L:Int)=(m:Int):=by rw[<-R];simp
   have b4:Int.tmod ((k:Int)+1) (L:Int)=(m:Int):=by rw[Int.tmod_eq_emod_of_nonneg (by omega)];exact J
   have a7:cyc.getD k 0=cyc[k]:=by rw[List.getD_eq_getElem?_getD,List.getElem?_eq_getElem A];rfl
   have T:cyc.getD m 0=cyc[m]:=by rw[List.getD_eq_getElem?_getD,List.getElem?_eq_getElem i];rfl
   have HX:Hid (cyc.getD k 0=cyc[k]/\cyc.getD ((k+1) % cyc.length) 0=cyc[m]):=⟨a7,by rw[r.out,R];exact T⟩;have ao:Hid (∃j,j < cyc.length/\cyc.getD j 0=cyc[m]):=⟨m,i,T⟩
   have CT:Hid (∀w2 c2,Kept [] wr w2->Calls prog 38 #[.slice (some ⟨yb,yo,none⟩) k c2,.int .i64 cyc[k]] w2 fun e w3=>e=.returned (.bool (decide (cyc[k]∈cyc.take k)))/\w2=w3):=fun w2 c2 k2 =>
    ff yb yo k c2 cyc k cyc[k] w2 (by omega) (by have:=r.out;omega) (fun j u hu=>Kept.cellOf (c j u hu) _ k2) rfl
   have Z:Hid (cyc.take (k+1)=cyc.take k++[cyc[k]]):=List.take_succ_eq_append_getElem A;obtain⟨x,hx⟩:=nm (cyc[k]);obtain⟨y,hy⟩:=nm (cyc[m]);rw[hx]at b1 HX CT Z;rw[hy]at av HX ao;clear c R a7 T hx hy i J;have WX:Hid (∀w',Calls prog 37 #[x,.int .i64 0,.int .i64 (n:Int)] w' fun e w2=>e=.returned (.bool (inB x 0 n))/\w'=w2):=fun w'=>aV x 0 n w';have WY:Hid (∀w',Calls prog 37 #[y,.int .i64 0,.int .i64 (n:Int)] w' fun e w2=>e=.returned (.bool (inB y 0 n))/\w'=w2):=fun w'=>aV y 0 n w';obtain⟨t1,z⟩:=nm (inB x 0 n);obtain⟨t2,v⟩:=nm (inB y 0 n);rw[z]at WX;rw[v]at WY
   have am:Hid (t1=false->¬P):=fun h hp=>by
    have d:=(f.1 hp).2.1 k A;rw[HX.out.1]at d;have U:inB x 0 n=true:=(ci _ _ _).2 ⟨d.1,by omega⟩
    rw[z,h]at U;cases U
   have al:Hid (t2=false->¬P):=fun h hp=>by
    obtain⟨j,hj,b6⟩:=ao.out;have d:=(f.1 hp).2.1 j hj;rw[b6]at d;have U:inB y 0 n=true:=(ci _ _ _).2 ⟨d.1,by omega⟩
    rw[v,h]at U;cases U
   have ah:Hid (t1=true->∃C:Nat,x=C/\C < n+1):=fun h=>by
    rw[h]at z;obtain⟨d,U⟩:=(ci _ _ _).1 z;exact⟨x.toNat,by omega,by omega⟩
   have ac:Hid (t2=true->∃F:Nat,y=F/\F < n+1):=fun h=>by
    rw[h]at v;obtain⟨d,U⟩:=(ci _ _ _).1 v;exact⟨y.toNat,by omega,by omega⟩
   clear z v;go_upto_region 9 with(fail)
   cases t1
   ·have X:=hid (am rfl);go_wp2_with (go_at_call 37;refine(WX _).mono ?_;rintro e t ⟨rfl,rfl⟩);go_ret;exact AnsB.no (Y.out.trans D.out) (by rw[B.out];exact X.out)
   cases t2
   ·have X:=hid (al rfl);go_wp2_with (go_at_call 37;first|((with_reducible refine(WX.out _).mono ?_);rintro e t ⟨rfl,rfl⟩)|((with_reducible refine(WY.out _).mono ?_);rintro e t ⟨rfl,rfl⟩));go_ret;exact AnsB.no (Y.out.trans D.out) (by rw[B.out];exact X.out)
   obtain⟨C,rfl,a4⟩:=ah rfl;obtain⟨F,rfl,a3⟩:=ac rfl;clear am al ah ac
   by_cases hd:(C:Int)∈cyc.take k
   ·have X:Hid (¬P):=fun hp=>by
     have d:=(f.1 hp).2.2.1.sublist (List.take_sublist (k+1) cyc);rw[Z.out,List.nodup_append]at d;exact d.2.2 _ hd _ (List.mem_singleton.2 rfl) rfl
    rw[decide_eq_true hd]at CT;clear hd;go_wp2_with (first|(go_at_call 37;first|((with_reducible refine(WX.out _).mono ?_);rintro e t ⟨rfl,rfl⟩)|((with_reducible refine(WY.out _).mono ?_);rintro e t ⟨rfl,rfl⟩))|(go_at_call 38;refine(CT.out _ _ kr).mono ?_;rintro e t ⟨rfl,rfl⟩));go_ret;exact AnsB.no (Y.out.trans D.out) (by rw[B.out];exact X.out)
   have bc:Hid ((cyc.take (k+1)).Nodup):=by
    rw[Z.out,List.nodup_append];exact⟨HN.out,by simp,fun a ha b hb=>by rw[List.mem_singleton.1 hb];exact fun e=>hd (e▸ha)⟩
   rw[decide_eq_false hd]at CT;obtain⟨bv,q,M⟩:=HM C a4;have g0:=Kept.cellOf q _ D;have g1:=Kept.cellOf (M F a3) _ D;have V:=a2 C F a4 a3
   have E:Hid (cw G cyc k=G C F):=by unfold cw;rw[HX.out.1,HX.out.2];rfl
   generalize hg:G C F=g at g1 V E
   have b9:g=1152921504606846976\/(-8589934592<=g/\g<=8589934592):=V
   have bl:(0:Int)<=(C:Int):=by omega
   have bk:(0:Int)<=(F:Int):=by omega
   clear hd q M V hg
   by_cases c1:g < 1152921504606846976
   ·have bt:-8589934592<=g/\g<=8589934592:=by omega
    have wS:IntKind.i64.wrap (S+g)=S+g:=by rw[IntKind.wrap_i64];omega
    have a1:Hid (bj (cw G cyc) (k+1)=S+g):=by
     show _=_
     rw[bj,a0.out,E.out]
    have bh:Hid (∀j,j < k+1->0<=cyc.getD j 0/\cyc.getD j 0 < ((n+1:Nat):Int)):=fun j hj=>by
     rcases Nat.lt_or_ge j k with h|h
     ·exact HA j h
     ·obtain rfl:j=k:=by omega
      rw[HX.out.1];omega
    have bd:Hid (∀j,j < k+1->cw G cyc j < far):=fun j hj=>by
     rcases Nat.lt_or_ge j k with h|h
     ·exact HF j h
     ·obtain rfl:j=k:=by omega
      rw[E.out];exact c1
    clear b9;go_wp2_with (first|(go_at_call 37;first|((with_reducible refine(WX.out _).mono ?_);rintro e t ⟨rfl,rfl⟩)|((with_reducible refine(WY.out _).mono ?_);rintro e t ⟨rfl,rfl⟩))|(go_at_call 38;refine(CT.out _ _ kr).mono ?_;rintro e t ⟨rfl,rfl⟩))
    go_roundw
    case rel=>exact⟨k+1,by omega,by go_num,by rw[a1.out],bh,bc,bd,by rw[a1.out];omega,by rw[a1.out];omega,D⟩
    case measure=>simp[intOf];omega
   ·have X:Hid (¬P):=fun hp=>by
     have d:=(f.1 hp).2.2.2.1 k A;rw[E.out]at d;exact c1 d
    go_wp2_with (first|(go_at_call 37;first|((with_reducible refine(WX.out _).mono ?_);rintro e t ⟨rfl,rfl⟩)|((with_reducible refine(WY.out _).mono ?_);rintro e t ⟨rfl,rfl⟩))|(go_at_call 38;refine(CT.out _ _ kr).mono ?_;rintro e t ⟨rfl,rfl⟩));go_ret;exact AnsB.no (Y.out.trans D.out) (by rw[B.out];exact X.out)
  ·obtain rfl:k=L:=by omega
   have ba:Hid (decide (S < 0)=true↔P):=by
    rw[f.out]
    unfold ImpR
    rw[r.out,a0.out]
    constructor
    ·intro h
     have hS:S < 0:=by simpa using h
     refine⟨?_,HA,?_,HF,hS⟩
     ·rcases Nat.eq_zero_or_pos k with h0|h0
      ·subst h0;have:=a0.out
       simp[bj]at this
       omega
      ·exact h0
     ·have:=HN.out
      rwa [List.take_of_length_le (by rw[r.out];omega)]at this
    ·intro h
     simpa using h.2.2.2.2
   go_wp2_with fail;go_ret;exact AnsB.of (Y.out.trans D.out) (by rw[B.out];exact ba.out)
end Go.Proofs.YtcidfldeiklcjaaGreatDoor
namespace Go.Proofs.YtcidfldeiklcjaaGreatDoor
open Go.RowKit Tm Bf
def st8:Stp:=⟨23,11,4,[4,16,18],3⟩
def ea8:Ent:=⟨0,0,100,1,[1000,1010],[],0,0⟩
def eb8(most:Int):Ent:=⟨0,1,300,1,[0,most],[],0,0⟩
def ec8:Ent:=⟨1,0,50,2,[0,1],[],0,0⟩
theorem vz:aw st8=true:=by decide
theorem ok_a:sealOk st8 3 ea8=true:=by decide
theorem ok_b(most:Int)(h:most=1100\/most=2147483648):sealOk st8 3 (eb8 most)=true:=by
 rcases h with rfl|rfl <;> decide
theorem ok_c:sealOk st8 5 ec8=true:=by decide
theorem alg3:∀k,k < 11->∀c,c < 11->overN 11 (pwrN 11 4 (addN 11 (k:Nat) (mulN 11 (c:Nat) 3:Nat):Nat):Nat) (pwrN 11 18 (c:Nat):Nat)=pwrN 11 4 (k:Nat):=by decide
theorem alg5:∀k,k < 11->∀c,c < 11->overN 11 (pwrN 11 4 (addN 11 (k:Nat) (mulN 11 (c:Nat) 5:Nat):Nat):Nat) (pwrN 11 12 (c:Nat):Nat)=pwrN 11 4 (k:Nat):=by decide
theorem sig8(x pub:Int)(e:Ent)(hx:bC st8 x=true)(hp:pub=(pwrN 11 4 x:Nat))(hm:memB 11 pub=true)
  (ha:∀k,k < 11->∀c,c < 11->overN 11 (pwrN 11 4 (addN 11 (k:Nat) (mulN 11 (c:Nat) x:Nat):Nat):Nat) (pwrN 11 pub (c:Nat):Nat)=pwrN 11 4 (k:Nat)) :
  sigB st8 pub (aF e) (bQ st8 x e).c (bQ st8 x e).s=true:=by
 obtain⟨k,l⟩:=nm (numN 11 (Wire.intE x++aF e))
 have f:k < 11:=by rw[<-l];exact eZ _ _ _ (by omega)
 have hK:dW st8 x e=(k:Int):=by
  unfold dW
  rw[show st8.Q.toNat=11 from rfl,l]
 have g:bC st8 (k:Int)=true:=by
  unfold bC
  rw[show st8.Q=11 from rfl]
  simp;omega
 obtain⟨b,a⟩:=nm (aF e);obtain⟨c,j⟩:=nm (numN 11 (chaE b (pwrN 11 4 x:Nat) (pwrN 11 4 (k:Int):Nat)))
 have h:c < 11:=by rw[<-j];exact eZ _ _ _ (by omega)
 have n:dx st8 x k b=(((c:Nat):Int),((addN 11 k (mulN 11 c x:Nat):Nat):Int),true):=by
  unfold dx
  rw[vz,hx,g];simp only[Bool.and_self,if_true];rw[show st8.Q.toNat=11 from rfl,show st8.G=4 from rfl,j]
 have p:(bQ st8 x e).c=(c:Nat):=by unfold bQ;rw[hK,a,n]
 have o:(bQ st8 x e).s=(addN 11 k (mulN 11 c x:Nat):Nat):=by unfold bQ;rw[hK,a,n]
 rw[p,o,a]
 have i:bC st8 (c:Nat)=true:=by
  unfold bC
  rw[show st8.Q=11 from rfl]
  simp;omega
 have m:addN 11 k (mulN 11 c x:Nat) < 11:=Nat.mod_lt _ (by omega)
 have d:bC st8 (addN 11 k (mulN 11 c x:Nat):Nat)=true:=by
  unfold bC
  rw[show st8.Q=11 from rfl]
  simp;omega
 unfold sigB
 rw[vz,show st8.Q.toNat=11 from rfl,hm,i,d];simp only[Bool.true_and]
 unfold sigN
 rw[show st8.G=4 from rfl,ha k f c h,hp,j]
 simp
def a8:Ent:=bQ st8 3 ea8
def b8(most:Int):Ent:=bQ st8 3 (eb8 most)
def c8:Ent:=bQ st8 5 ec8
def keys8:List Int:=[18,12]
theorem ji{x:Int}{e:Ent}(h:sealOk st8 x e=true)(hg:e.gate < 2)(hs:sigB st8 (nth keys8 e.gate.toNat) (aF e) (bQ st8 x e).c (bQ st8 x e).s=true):aN st8 keys8 (bQ st8 x e)=true:=by
 unfold sealOk at h
 rw[Bool.and_eq_true]at h;have hf:aS st8 (bQ st8 x e)=aS st8 e:=rfl
 unfold aN
 rw[hf,h.1,show(bQ st8 x e).gate=e.gate from rfl,show aF (bQ st8 x e)=aF e from rfl,hs,decide_eq_true (show e.gate < (keys8.length:Int)from hg)]
 rfl
theorem sg_a:aN st8 keys8 a8=true:=ji ok_a (by decide) (sig8 3 18 ea8 (by decide) (by decide) (by decide) alg3)
theorem sg_b(most:Int)(h:most=1100\/most=2147483648):aN st8 keys8 (b8 most)=true:=ji (ok_b most h) (show(0:Int) < 2 by decide) (sig8 3 18 (eb8 most) (by decide) (by decide) (by decide) alg3)
theorem sg_c:aN st8 keys8 c8=true:=ji ok_c (by decide) (sig8 5 12 ec8 (by decide) (by decide) (by decide) alg5)
def l8(most:Int):List Ent:=[c8,b8 most,a8]
def o8(most:Int):List Ent:=[a8,b8 most,c8]
theorem qg(most:Int)(h:most=1100\/most=2147483648):bA (aN st8 keys8) (l8 most) (o8 most):=by
 refine⟨?_,fun z=>?_⟩
 ·unfold o8
  refine List.Pairwise.cons (fun z a=>?_) (List.Pairwise.cons (fun z a=>?_) (List.Pairwise.cons (fun z a=>by cases a) List.Pairwise.nil))
  ·rcases List.mem_cons.1 a with rfl|a
   ·exact Or.inr ⟨rfl,Or.inl (show(0:Int) < 1 by decide)⟩
   ·rw[List.mem_singleton.1 a];exact Or.inl (show(0:Int) < 1 by decide)
  ·rw[List.mem_singleton.1 a];exact Or.inl (show(0:Int) < 1 by decide)
 ·unfold o8 l8
  simp only[List.mem_cons,List.not_mem_nil,or_false]
  constructor
  ·rintro(rfl|rfl|rfl)
   ·exact⟨Or.inr (Or.inr rfl),sg_a⟩
   ·exact⟨Or.inr (Or.inl rfl),sg_b most h⟩
   ·exact⟨Or.inl rfl,sg_c⟩
  ·rintro⟨rfl|rfl|rfl,_⟩
   ·exact Or.inr (Or.inr rfl)
   ·exact Or.inr (Or.inl rfl)
   ·exact Or.inl rfl
def E8(most:Int):List Tm.Edge:=[(3,0,2147483648),(0,3,0),(3,0,1010),(0,3,-1000),(3,1,2147483648),(1,3,0),(0,1,220),(1,0,-180),(3,1,most),(1,3,0),(3,2,2147483648),(2,3,0),(2,1,0)]
theorem zN(most:Int):edges (o8 most) 100 3=E8 most:=rfl
def g8(most:Int):Gf:=gOf (E8 most)
theorem gl8(most:Int):Gl (o8 most) 100=g8 most:=by
 unfold Gl g8
 rw[show(o8 most).length=3 from rfl,zN]
theorem lt8(most:Int)(h:most=1100\/most=2147483648):∀e∈E8 most,e.1 < 4/\e.2.1 < 4/\e.2.2 < far:=by
 rcases h with rfl|rfl <;> decide
def tup:Nat->Int:=fun i=>if i=0 then 1010 else if i=1 then 1230 else if i=2 then 2147483648 else 0
def tlo:Nat->Int:=fun i=>if i=0 then 1000 else if i=1 then 1180 else if i=2 then 1180 else 0
theorem kE:Feas (g8 2147483648) 4 tup:=(qr (lt8 _ (Or.inr rfl))).2 (by decide)
theorem oO:Feas (g8 2147483648) 4 tlo:=(qr (lt8 _ (Or.inr rfl))).2 (by decide)
theorem up8{up:Nat->Int}(h:Top (g8 2147483648) 4 3 up):up 0=1010/\up 1=1230/\up 2=2147483648:=by
 have g:=h.is_zero (by omega);have f:=h.feas 3 0 (by omega) (by omega) (by decide);have e:=h.feas 0 1 (by omega) (by omega) (by decide);have d:=h.feas 3 2 (by omega) (by omega) (by decide);rw[show g8 2147483648 3 0=1010 by decide]at f;rw[show g8 2147483648 0 1=220 by decide]at e;rw[show g8 2147483648 3 2=2147483648 by decide]at d;have c:=h.greatest kE (by decide) (v:=0) (by omega);have b:=h.greatest kE (by decide) (v:=1) (by omega);have a:=h.greatest kE (by decide) (v:=2) (by omega);rw[show tup 0=1010 by decide]at c;rw[show tup 1=1230 by decide]at b;rw[show tup 2=2147483648 by decide]at a;omega
theorem lo8{lo:Nat->Int}(h:Top (turn (g8 2147483648)) 4 3 lo):-lo 0=1000/\-lo 1=1180/\-lo 2=1180:=by
 have hz:=h.is_zero (by omega);have f0:=h.feas 3 0 (by omega) (by omega) (by decide);have f1:=h.feas 0 1 (by omega) (by omega) (by decide);have f2:=h.feas 1 2 (by omega) (by omega) (by decide);rw[show turn (g8 2147483648) 3 0=-1000 by decide]at f0;rw[show turn (g8 2147483648) 0 1=-180 by decide]at f1;rw[show turn (g8 2147483648) 1 2=0 by decide]at f2;have t0:=rC h oO (by decide) 0 (by omega);have t1:=rC h oO (by decide) 1 (by omega);have t2:=rC h oO (by decide) 2 (by omega);rw[show tlo 0=1000 by decide]at t0;rw[show tlo 1=1180 by decide]at t1;rw[show tlo 2=1180 by decide]at t2;omega
theorem neg8:ey (g8 1100) 4 [0,3,1]:=by
 refine⟨0,[3,1],rfl,⟨rfl,rfl,by decide,?_⟩,by decide⟩;simp only[List.cons_append,List.nil_append,Bf.du];exact⟨by decide,by decide,by decide,trivial⟩
theorem no8:¬wt (g8 2147483648) ([0,3,1]++[0]) < 0:=by decide
theorem one8:∀x,x < 4->¬g8 1100 x x < 0:=by decide
theorem two8:∀x,x < 4->∀y,y < 4->¬(g8 1100 x y < far/\g8 1100 y x < far/\g8 1100 x y+g8 1100 y x < 0):=by decide
def lex8(x y z:Nat):Bool:=decide (0 < x) ||(decide (x=0/\3 < y) ||(decide (x=0/\y=3/\1 < z) ||decide (x=0/\y=3/\z=1)))
def t8(x y z:Nat):Bool:=!(decide (g8 1100 x y < far)&&(decide (g8 1100 y z < far)&&(decide (g8 1100 z x < far)&&decide (g8 1100 x y+(g8 1100 y z+g8 1100 z x) < 0)))) ||lex8 x y z
theorem zr:∀x,x < 4->∀y,y < 4->∀z,z < 4->t8 x y z=true:=by decide
theorem three8{x y z:Nat}(hx:x < 4)(hy:y < 4)(hz:z < 4)(h1:g8 1100 x y < far)(h2:g8 1100 y z < far)(h3:g8 1100 z x < far)(h4:g8 1100 x y+(g8 1100 y z+g8 1100 z x) < 0):0 < x\/(x=0/\3 < y)\/(x=0/\y=3/\1 < z)\/(x=0/\y=3/\z=1):=by
 have h:=zr x hx y hy z hz
 unfold t8 lex8 at h
 rw[decide_eq_true h1,decide_eq_true h2,decide_eq_true h3,decide_eq_true h4]at h
 simpa using h
theorem conf8{c:List Nat}(h:dV (g8 1100) 4 c):c=[0,3,1]:=by
 refine qC h neg8 (by decide) (fun j x hj hjl hn=>?_) (fun b hb hbl=>?_)
 ·obtain⟨l,g,m,e⟩:=hn;obtain⟨t,rfl⟩:=cI g;have d:=g.last;have f:=g.steps;have k:x < 4:=g.lt x (by simp)
  rcases(by simp at hjl;omega:j=1\/j=2)with rfl|rfl
  ·match t,m,g,d,f,e with
   | [y],_,g,d,f,e =>
    obtain rfl:y=x:=by simpa using d
    simp only[wt]at e;exact one8 y k (by omega)
  ·match t,m,g,d,f,e with
   | [y,z],_,g,d,f,e =>
    obtain rfl:z=x:=by simpa using d
    simp only[wt]at e;exact two8 z k y (g.lt y (by simp)) ⟨f.1,f.2.1,by omega⟩
 ·obtain⟨a,t,rfl,g,e⟩:=hb
  match t,hbl with
  | [y,z],_ =>
   have f:=g.steps;simp only[List.cons_append,List.nil_append,Bf.du]at f;simp only[List.cons_append,List.nil_append,wt]at e
   rcases three8 (g.lt a (by simp)) (g.lt y (by simp)) (g.lt z (by simp)) f.1 f.2.1 f.2.2.1 (by omega)with i|⟨rfl,i⟩|⟨rfl,rfl,i⟩|⟨rfl,rfl,rfl⟩
   ·exact Or.inr ⟨[],0,a,[3,1],[y,z],rfl,rfl,i⟩
   ·exact Or.inr ⟨[0],3,y,[1],[z],rfl,rfl,i⟩
   ·exact Or.inr ⟨[0,3],1,z,[],[],rfl,rfl,i⟩
   ·exact Or.inl rfl
end Go.Proofs.YtcidfldeiklcjaaGreatDoor
