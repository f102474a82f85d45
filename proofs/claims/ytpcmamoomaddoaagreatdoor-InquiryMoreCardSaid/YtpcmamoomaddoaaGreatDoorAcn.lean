import Derived.Test.YtpcmamoomaddoaaGreatDoorSgh
import Derived.Test.YtpcmamoomaddoaaGreatDoorMbs
import Derived.Laws.Rows
import Derived.Deep.WholeRow
set_option maxRecDepth 100000
set_option maxHeartbeats 32000000
namespace Go.Proofs.YtpcmamoomaddoaaGreatDoor
open Go.RowKit
open Go.Proofs.Tryz
open Lib(hid)
def CrR(w:World)(cs:List Value)(c:Crw):Prop:=∃vq vm vu,cs=[vq,vm,vu]/\aj PdR 5 w vq c.qs/\aj MbR 3 w vm c.ms/\aj SnR 4 w vu c.us
theorem CrR.kept{w w':World}{cs:List Value}{c:Crw}(h:CrR w cs c)(k:Kept [] w w'):CrR w' cs c:=by
 obtain⟨vq,vm,vu,h1,h2,h3,h4⟩:=h;exact⟨vq,vm,vu,h1,aj.kept h2 (fun _ _ h=>PdR.kept k h) k,aj.kept h3 (fun _ _ h=>MbR.kept h k) k,aj.kept (w':=w') h4 (fun _ _ h=>h) k⟩
theorem jC{B:Nat}{w:World}{cs:List Value}{c:Crw}(h:CrR w cs c)(hsh:∀p∈c.qs,ct p=true)(hms:∀m∈c.ms,(∀b∈m.binds,b.1.length<=10000000)/\m.binds.length<=100000)(hlq:c.qs.length<=1000000)(hlm:c.ms.length<=1000000)(hlu:c.us.length<=1000000)(hE:EnvB B w) :
  Calls prog 22 #[.agg cs.toArray] w fun e w'=>e=.returned (.bool (cX c))/\Kept [] w w':=by
 obtain⟨vq,vm,vu,rfl,O,P,N⟩:=h;obtain⟨R,d⟩:∃R,cX c=R:=⟨_,rfl⟩;rw[d]
 unfold cX at d
 obtain⟨qs,ms,us⟩:=c
 dsimp only at d O P N hsh hms hlq hlm hlu
 obtain⟨M,L,rfl,_,_⟩:=aj.form O;obtain⟨y,v,rfl,_,_⟩:=aj.form P;obtain⟨t,s,rfl,_,_⟩:=aj.form N;obtain⟨W,r⟩:∃W,w.alloc (.cells #[.slice M qs.length L,.slice y ms.length v,.slice t us.length s] 67)=W:=⟨_,rfl⟩;have g:Kept [] w W:=r▸(Kept.refl _ _).alloc _;have i:Blk W w.heap.size 67 #[.slice M qs.length L,.slice y ms.length v,.slice t us.length s]:=r▸Blk.new _ _ _;have J:=vO (fun p=>!aP p) (aj.kept O (fun _ _ h=>PdR.kept g h) g) (fun a ha cs w' k h=>xS h (hsh a ha) (hE.kept0 (g.trans k)));have I:=fun(w':World) (k:Kept [] W w')=>vP (fun m=>!memB m) (aj.kept P (fun _ _ h=>MbR.kept h (g.trans k)) (g.trans k)) (fun a ha cs w2 k2 h=>xR h (hms a ha).1 (hms a ha).2 (hE.kept0 ((g.trans k).trans k2)));have G:=fun(w':World) (k:Kept [] W w')=>vN (cb:=w.heap.size) (fun x=>!useB qs.length ms.length x) (aj.kept (w':=w') N (fun _ _ h=>h) (g.trans k)) (fun a ha cs w2 k2 h=>xQ (i.kept (k.trans k2) (by simp)) h hlq hlm);obtain⟨b1,F⟩:∃b,(qs.any fun p=>!aP p)=b:=⟨_,rfl⟩;obtain⟨b2,E⟩:∃b,(ms.any fun m=>!memB m)=b:=⟨_,rfl⟩;obtain⟨b3,D⟩:∃b,(us.any fun x=>!useB qs.length ms.length x)=b:=⟨_,rfl⟩;rw[F]at J d;rw[E]at I d;rw[D]at G d;obtain⟨nq,A⟩:∃n,qs.length=n:=⟨_,rfl⟩;obtain⟨o,C⟩:∃n,ms.length=n:=⟨_,rfl⟩;obtain⟨l,z⟩:∃n,us.length=n:=⟨_,rfl⟩;rw[A]at J d i r ⊢;rw[C]at I d i r ⊢;rw[z]at G d i r ⊢;have x0:W.cell? ⟨w.heap.size,0,none⟩=some (.slice M nq L):=i.cell 0
 have x1:W.cell? ⟨w.heap.size,1,none⟩=some (.slice y o v):=i.cell 1;have x2:W.cell? ⟨w.heap.size,2,none⟩=some (.slice t l s):=i.cell 2;have J:=hid J;have I:=hid I;have G:=hid G;have HB:=hid i;have u:=hid g;have Q:=hid r;have j:=hid d;clear r g i F E D A C z O P N hsh hms hE hlq hlm hlu d
 show Calls _ _ #[.agg #[.slice M nq L,.slice y o v,.slice t l s]] _ _
 by_cases n1:nq<=128
 ·by_cases n2:o<=64
  ·by_cases n3:l<=4096
   ·have n1':¬(128:Int) < (nq:Int):=by omega
    have n2':¬(64:Int) < (o:Int):=by omega
    have n3':¬(4096:Int) < (l:Int):=by omega
    have d:=j.out;rw[decide_eq_true n1,decide_eq_true n2,decide_eq_true n3]at d;have f:=hid d;clear d j
    cases b1 <;> cases b2 <;> (
     go_enter func22,ntmps22
     go_upto_region 1 with(fail);have hW':=Q.out;rw[hW'];clear hW'
     go_wp2_with (first
      |(go_at_call 52;(with_reducible refine J.out.mono ?_);rintro e Y ⟨rfl,U⟩;have q:=HB.out.kept U (by simp);have d1:Y.cell? ⟨w.heap.size,1,none⟩=some (.slice y o v):=q.cell 1;have d2:Y.cell? ⟨w.heap.size,2,none⟩=some (.slice t l s):=q.cell 2;have X:=hid U;clear q U)
      |(go_at_call 54;(with_reducible refine(I.out _ X.out).mono ?_);rintro e w6 ⟨rfl,T⟩;have V:=hid (X.out.trans T);have e2:w6.cell? ⟨w.heap.size,2,none⟩=some (.slice t l s):=Kept.cellOf d2 _ T;clear T)
      |(go_at_call 57;(with_reducible refine(G.out _ V.out).mono ?_);rintro e w7 ⟨rfl,Z⟩;have K7:=hid (V.out.trans Z);clear Z))
     go_ret
     first
      |exact⟨by rw[<-f.out];rfl,u.out.trans K7.out⟩
      |exact⟨by rw[<-f.out];rfl,u.out.trans V.out⟩
      |exact⟨by rw[<-f.out];rfl,u.out.trans X.out⟩)
   ·have n1':¬(128:Int) < (nq:Int):=by omega
    have n2':¬(64:Int) < (o:Int):=by omega
    have n3':(4096:Int) < (l:Int):=by omega
    have d:=j.out;rw[decide_eq_false n3]at d;have f:Hid (false=R):=hid (by rw[<-d];simp);clear d j
    go_enter func22,ntmps22
    go_upto_region 1 with(fail);have hW':=Q.out;rw[hW'];clear hW';go_wp2_with fail;go_ret;exact⟨by rw[<-f.out];rfl,u.out⟩
  ·have n1':¬(128:Int) < (nq:Int):=by omega
   have n2':(64:Int) < (o:Int):=by omega
   have d:=j.out;rw[decide_eq_false n2]at d;have f:Hid (false=R):=hid (by rw[<-d];simp);clear d j
   go_enter func22,ntmps22
   go_upto_region 1 with(fail);have hW':=Q.out;rw[hW'];clear hW';go_wp2_with fail;go_ret;exact⟨by rw[<-f.out];rfl,u.out⟩
 ·have n1':(128:Int) < (nq:Int):=by omega
  have d:=j.out;rw[decide_eq_false n1]at d;have f:Hid (false=R):=hid (by rw[<-d];simp);clear d j
  go_enter func22,ntmps22
  go_upto_region 1 with(fail);have hW':=Q.out;rw[hW'];clear hW';go_wp2_with fail;go_ret;exact⟨by rw[<-f.out];rfl,u.out⟩
open Go.Maps
theorem gd{σ α:Type}{f:σ->α->Except Int σ}{p:Int->Prop}(hf:∀s x e,f s x=.error e->p e):∀(l:List α) (s:σ) (e:Int),aF f s l=.error e->p e
 | [],s,e,h=>by cases h
 |x::l,s,e,h=>by
  rw[aF]at h
  cases hx:f s x with
  |error e'=>rw[hx]at h;injection h with h;subst h;exact hf s x _ hx
  |ok t=>rw[hx]at h;exact gd hf l t e h
theorem uD{acc:List Bnd}{b:Bnd}{e:Int}(h:put1 acc b=.error e):e≠0:=by
 unfold put1 at h
 split at h
 ·split at h
  ·cases h
  ·injection h with h;omega
 ·cases h
theorem pj{ks:List Pss}{P:List Cz}{x:Iss}{c:Int}(h:addB ks P x=.error c):c≠0:=by
 unfold addB at h
 split at h
 ·injection h with h;omega
 ·split at h
  ·next hv=>injection h with h;have:=vals_err hv;omega
  ·unfold addN at h
   split at h
   ·injection h with h;omega
   ·split at h
    ·next hf =>
     injection h with h;rw[<-h];exact gd (p:=fun c=>c≠0) (fun _ _ _ h=>uD h) _ _ _ hf
    ·split at h
     ·injection h with h;omega
     ·cases h
theorem pH{ks:List Pss}{log nums:List Int}{c c':List Pd × List Sn}{x:Sgt}(h:sightB ks log nums c x=.ok c'):c'.1.length<=c.1.length+1/\c'.2.length=c.2.length+1:=by
 unfold sightB at h
 split at h
 ·cases h
 ·split at h
  ·cases h
  ·split at h
   ·cases h
   ·split at h
    ·cases h
    ·split at h
     ·cases h
     ·split at h
      ·cases h
      ·split at h
       ·cases h
       ·split at h
        ·injection h with h;subst h;simp
        ·split at h
         ·cases h
         ·injection h with h;subst h;simp
/-! ### a predicate lies in no block of slices -/
def Sls(w:World)(b:Nat):Prop:=∀(o:Nat) (u:Value),w.cell? ⟨b,o,none⟩=some u->∃a n c,u=.slice a n c
theorem Row.off{w w':World}{b size n:Nat}{v:Value}{l:List Value}(k:Kept [b] w w')(hb:Sls w b)(h:Row w size v n l)(hl:∀u,l[0]?=some u->∃i,u=.int .i64 i)(hs:0 < n->0 < l.length):Row w' size v n l:=by
 obtain⟨h1,h2,a,c,hv,hcc,hc⟩:=h;refine⟨h1,h2,a,c,hv,hcc,fun hn=>?_⟩;obtain⟨b0,off,ha,hcell⟩:=hc hn;obtain⟨u0,hu0⟩:∃u,l[0]?=some u:=⟨_,List.getElem?_eq_getElem (hs hn)⟩
 have hne:b0≠b:=by
  rintro rfl;obtain⟨a,n,c,e⟩:=hb _ _ (hcell 0 u0 hu0);obtain⟨i,e2⟩:=hl u0 hu0;rw[e]at e2
  cases e2
 refine⟨b0,off,ha,fun k' u hu=>?_⟩;have h0:=hcell k' u hu;rw[Kept.cell k (World.block_lt_of_cell? w _ h0) (by simpa using hne)];exact h0
theorem PdL.first{w:World}{l:List Pd}{vs:List (List Value)}(h:PdL w vs l):∀u,vs.flatten[0]?=some u->∃i,u=.int .i64 i:=by
 intro u hu
 cases l with
 |nil=>rw[PdL]at h;subst h;simp at hu
 |cons p l =>
  rw[PdL]at h;obtain⟨c,vs',rfl,hp,_⟩:=h;obtain⟨pk,pl,pr,pc,pks⟩:=p;obtain⟨_,_,rfl,_⟩:=hp.rows;simp at hu;exact⟨pk,hu.symm⟩
mutual
theorem PdR.off{w w':World}{b:Nat}(k:Kept [b] w w')(hb:Sls w b):∀ {p:Pd} {cs:List Value},PdR w cs p->PdR w' cs p
 | .node ..,cs,h=>by
  rw[PdR]at h ⊢;obtain⟨v,vs,h1,h2,h3⟩:=h;exact⟨v,vs,h1,Row.off k hb h2 h3.first (fun hn=>by rw[h2.1];omega),PdL.off k hb h3⟩
theorem PdL.off{w w':World}{b:Nat}(k:Kept [b] w w')(hb:Sls w b):∀ {l:List Pd} {vs:List (List Value)},PdL w vs l->PdL w' vs l
 | [],vs,h=>by rw[PdL]at h ⊢;exact h
 |p::l,vs,h=>by
  rw[PdL]at h ⊢;obtain⟨c,vs',h1,h2,h3⟩:=h;exact⟨c,vs',h1,PdR.off k hb h2,PdL.off k hb h3⟩
end
theorem vW{w:World}{b:Nat}{e:TypeId}(h:Blk w b e #[.slice none 0 0,.slice none 0 0,.slice none 0 0]):Sls w b:=fun o u hu=>by
 rw[h.cell]at hu
 rcases o with _|_|_|o
 ·simp at hu;exact⟨_,_,_,hu.symm⟩
 ·simp at hu;exact⟨_,_,_,hu.symm⟩
 ·simp at hu;exact⟨_,_,_,hu.symm⟩
 ·simp at hu
/-- the crowd that grew, behind a write to the block of the result -/
theorem CrG.result{B5:Nat}{w w':World}{gc b:Nat}{vm:Value}{qs:List Pd}{us:List Sn}{vq vu:Value}{ms:List Mb}(h:CrG B5 w gc vm qs us vq vu)(hk:Kept [b] w w')(hb:Sls w b)(hlow:b < B5)(hm:aj MbR 3 w' vm ms)(hq:qs.length<=1000000)(hu:us.length<=1000000) :
  CrR w' [vq,vm,vu] ⟨qs,ms,us⟩:=by
 refine⟨vq,vm,vu,rfl,?_,hm,?_⟩
 ·obtain⟨o,e,g⟩:=h.q;obtain⟨n,m,l⟩:=g.get;refine aj.of_own (ax e hk (fun z hz hm=>?_)) n m (fun k a d=>?_) (Nat.le_trans hq (by decide))
  ·rw[List.mem_singleton]at hm;have:=(aA e z hz).1;omega
  ·obtain⟨c,j,i⟩:=l k a d;exact⟨c,j,i.off hk hb⟩
 ·refine⟨us.map fun x=>[.int .i64 x.q,.int .i64 x.win,.int .i64 x.asof,.int .i64 x.hold],by simp,?_,?_,?_⟩
  ·intro c f;obtain⟨x,_,rfl⟩:=List.mem_map.1 f
   rfl
  ·intro k a d;exact⟨_,by rw[List.getElem?_map,d];rfl,rfl⟩
  ·have:=Row.of_own (ax h.u hk (fun z hz hm=>by rw[List.mem_singleton]at hm;have:=(aA h.u z hz).1;omega)) (by omega);exact this
theorem iy{w2:World}{tmps:Array Value}{v0 v1 v2 n c X:Value}{b:Nat}{R:Ending->World->Prop}(hb:Blk w2 b 67 #[v0,v1,v2])(h8:tmps[8]?.getD undef=.pointer (some ⟨b,0,none⟩))(h9:tmps[9]?.getD undef=n)(h10:tmps[10]?.getD undef=c)
  (hX:.tuple #[.agg #[v0,v1,v2],n,c]=X) (hR:R (.returned X) w2) :
  bodyPost prog Tryz.f18 R Exit.ret { tmps:=tmps,defers:=[] } w2:=by
 subst hX;subst h9;subst h10;have c0:w2.cell? ⟨b,0,none⟩=some v0:=hb.cell 0;have c1:w2.cell? ⟨b,1,none⟩=some v1:=hb.cell 1;have c2:w2.cell? ⟨b,2,none⟩=some v2:=hb.cell 2;refine bodyPost_ret (v:=.tuple #[.agg #[v0,v1,v2],tmps[9]?.getD undef,tmps[10]?.getD undef]) ?_ rfl hR;simp only[results,results18]
 simp[go_sem,h8,c0,c1,c2]
theorem xn(w:World)(K:Nat):Cit w.heap.size (((w.alloc (.map #[] 0)).alloc (.map #[] 0)).alloc (.cells #[.map (some w.heap.size),.map (some (w.heap.size+1))] 97)) (w.heap.size+1+1) w.heap.size (w.heap.size+1) 0 K (fun _=>0) (fun _=>0) (findC []):=by
 refine⟨?_,((am.made (E:=aM) w).kept (((Kept.refl [] _).alloc _).alloc _) (by simp)).congr fun x _=>rfl,?_,fun x c h=>(by cases h),fun x c h=>(by cases h),⟨by omega,by omega,by omega,by omega⟩,fun x c h=>(by cases h),fun x y c d h=>(by cases h)⟩
 ·have:=Blk.new ((w.alloc (.map #[] 0)).alloc (.map #[] 0)) 97 #[.map (some w.heap.size),.map (some (w.heap.size+1))]
  rwa [World.size_alloc,World.size_alloc]at this
 ·have:=am.made (E:=aM) (w.alloc (.map #[] 0));rw[World.size_alloc]at this;exact(this.kept ((Kept.refl [] _).alloc _) (by simp)).congr fun x _=>rfl
theorem gW{P:Program}(w:World)(ty:TypeId)(ad:Addr)(cs:List Value)(d:TypeDesc)(hu:P.underlying ty=some d)(hd:(match d with|.struct _|.array _ _=>true|_=>false)=true)(hi:(P.info? ty).map (·.size)=some cs.length)
  (hc:∀j v,cs[j]?=some v->w.cell? (ad.add j)=some v):(loadVar ty ad).run P w=.ok (.agg cs.toArray) w:=by
 have hl:=run_loadCells_list (P:=P) w ad cs hc
 cases hq:P.info? ty with
 |none=>simp[hq]at hi
 |some i =>
  have hs:i.size=cs.length:=by simpa [hq]using hi
  have hagg:(isAgg ty).run P w=.ok true w:=by
   unfold isAgg
   rw[Sem.run_bind,run_underlying hu w]
   cases d <;> simp_all
  simp[loadVar,Sem.run_bind,hagg,sizeOf,typeInfo,hq,hs,hl]
theorem gS{P:Program}{ops:Array Oper}{rest:List Oper}{o:Oper}{a:Act}{w:World}{Q:Exit->Act->World->Prop}(hgd:o.guard=none)(ty:TypeId)(x:Operand)(ho:o.op=.load ty x)(ad:Addr)(hx:a.eval x=.pointer (some ad))(cs:List Value)(d:TypeDesc)
  (hu:P.underlying ty=some d) (hd:(match d with|.struct _|.array _ _=>true|_=>false)=true) (hi:(P.info? ty).map (·.size)=some cs.length) (hc:∀j v,cs[j]?=some v->w.cell? (ad.add j)=some v)
  (h:wpList P ops Q rest (a.put o.dst (.agg cs.toArray)) w):wpList P ops Q (o::rest) a w :=
 wpList_plain hgd fun K hK=>by
  unfold Oper.wp
  simp only[execOp,ho,hx,Instr.loadAt,Instr.sureAddr,Sem.run_bind,Sem.run_pure,Result.andThen_ok,gW w ty ad cs d hu hd hi hc];exact hK _ _ h
theorem bf{P:Program}{w W:World}{ops:Array Oper}{rest:List Oper}{o:Oper}{a:Act}{Q:Exit->Act->World->Prop}(hgd:o.guard=none)(hd:o.dst=none)(t:TypeId)(p x:Operand)(hop:o.op=Op.store t p x)(c c':Array Value)
  (hw:w=W.alloc (.cells c t)) (hp:a.eval p=.pointer (some ⟨W.heap.size,0,none⟩)) (hx:a.eval x=.agg c') (hi:(P.info? t).map (·.size)=some c'.size) (hs:c.size=c'.size) (h1:c'.all (·.oneCell')=true)
  (h:wpList P ops Q rest a (W.alloc (.cells c' t))):wpList P ops Q (o::rest) a w :=
 wpList_plain hgd fun K hK=>by
  subst hw
  unfold Oper.wp
  simp[execOp,hop,hp,hx,run_storeAt_new W t c c' hi hs h1,Result.andThen]
  show K (a.put o.dst undef) _
  rw[hd];exact hK _ _ h
theorem ij:(prog.info? 61).map (·.size)=some 18:=by kernel_rfl
def AccE(e:Ending)(w':World):Except Int (Crw × List Int)->Prop
 | .error c=>e=.returned (.tuple #[.agg #[.slice none 0 0,.slice none 0 0,.slice none 0 0],.slice none 0 0,.int .i64 c])
 | .ok (c,nums)=>∃cs vn,e=.returned (.tuple #[.agg (List.toArray cs),vn,.int .i64 0])/\CrR w' cs c/\Row w' 1 vn nums.length (ints nums)
theorem fN{B:Nat}{w:World}{vk vl vi vs:Value}{ks:List Pss}{log:List Int}{is:List Iss}{ss:List Sgt}
  (hE:EnvB B w) (hks:aj PssR 4 w vk ks) (hkz:∀p∈ks,p.name.length<=10000000/\(∀a∈p.attrs,a.length<=10000000)/\p.attrs.length<=100000) (hlog:Row w 1 vl log.length (ints log)) (his:aj IssR 7 w vi is)
  (hiz:∀x∈is,(∀a∈x.attrs,(Lit.int .i64 a).wf=true)/\x.attrs.length<=100000) (hss:aj SgtR 18 w vs ss) (hsz:∀x∈ss,x.q.length<=100000000) (hll:log.length<=100000) (hil:is.length<=10000) (hsl:ss.length<=1000000) :
  Calls prog 18 #[vk,vl,vi,vs] w fun e w'=>Kept [] w w'/\AccE e w' (accountB ks log is ss):=by
 obtain⟨R,t⟩:∃R,accountB ks log is ss=R:=⟨_,rfl⟩;rw[t]
 unfold accountB at t
 obtain⟨fs,fr,rfl,_,_⟩:=hks.form;obtain⟨ga,f9,rfl,_,_⟩:=hlog.form;obtain⟨ia,ic,rfl,d1,er⟩:=aj.form his;obtain⟨sa,sc,rfl,cq,ek⟩:=aj.form hss;obtain⟨w1,bb⟩:∃W,w.alloc (.cells #[.slice none 0 0,.slice none 0 0,.slice none 0 0] 67)=W:=⟨_,rfl⟩;have k1:Kept [] w w1:=bb▸(Kept.refl _ _).alloc _;have c5:Blk w1 w.heap.size 67 #[.slice none 0 0,.slice none 0 0,.slice none 0 0]:=bb▸Blk.new _ _ _;obtain⟨C,ao⟩:∃b,w.heap.size=b:=⟨_,rfl⟩;rw[ao]at c5;have A:=hid ao;have HB:=hid c5;have cb:=hid k1;have dc:=hid bb;have ab:=hid (lg (aj.kept (w':=w1) hks (fun _ _ h=>PssR.kept h k1) k1) (fun p hp=>⟨(hkz p hp).1,(hkz p hp).2.1⟩) (hE.kept0 k1));have b4:=hid (fun(w':World) (k:Kept [] w1 w')=>mF (hlog.kept (k1.trans k)) hll);have HE:=hid hE;have dq:=hid hks;have ey:=hid hkz;have bl:=hid hlog;have cc:=hid his;have e2:=hid hiz;have dm:=hid hss;have ev:=hid hsz;have HR:=hid t;clear hks hkz hlog his hiz hss hsz t hE c5 k1 bb ao;obtain⟨n,hn⟩:∃n,is.length=n:=⟨_,rfl⟩;obtain⟨m,hm⟩:∃n,ss.length=n:=⟨_,rfl⟩;rw[hn]at cc hil d1 er ⊢;rw[hm]at dm hsl cq ek ⊢;have HN:=hid hn;have HM:=hid hm;clear hn hm
 go_enter func18,ntmps18
 go_upto_region 1 with(fail);have hw1':=dc.out;rw[hw1',A.out];clear hw1' dc
 cases hkb:dI ks with
 |false =>
  have t:=HR.out;rw[hkb,if_pos (Or.inl rfl)]at t;subst t;rw[hkb]at ab;clear hkb;go_wp2_with (go_at_call 38;refine ab.out.mono ?_;rintro e r ⟨rfl,k5⟩;have s:=HB.out.kept k5 (by simp);have c0:r.cell? ⟨C,0,none⟩=some (.slice none 0 0):=s.cell 0;have c1:r.cell? ⟨C,1,none⟩=some (.slice none 0 0):=s.cell 1;have c2:r.cell? ⟨C,2,none⟩=some (.slice none 0 0):=s.cell 2;have f0:=s.frozen 0;have f1:=s.frozen 1;have f2:=s.frozen 2);refine iy (((s.set_ 0 _).set_ 1 _).set_ 2 _) rfl rfl rfl rfl ⟨(((cb.out.trans k5).setCell (Or.inr (Nat.le_of_eq A.out)) _).setCell (Or.inr (Nat.le_of_eq A.out)) _).setCell (Or.inr (Nat.le_of_eq A.out)) _,rfl⟩
 |true =>
 cases hlb:logB log with
 |false =>
  have t:=HR.out;rw[hlb,if_pos (Or.inr rfl)]at t;subst t;rw[hkb]at ab;rw[hlb]at b4;clear hkb hlb
  go_wp2_with (first
   |(go_at_call 38;refine ab.out.mono ?_;rintro e r ⟨rfl,k5⟩;have s:=HB.out.kept k5 (by simp);have c0:r.cell? ⟨C,0,none⟩=some (.slice none 0 0):=s.cell 0;have c1:r.cell? ⟨C,1,none⟩=some (.slice none 0 0):=s.cell 1;have c2:r.cell? ⟨C,2,none⟩=some (.slice none 0 0):=s.cell 2;have f0:=s.frozen 0;have f1:=s.frozen 1;have f2:=s.frozen 2)
   |(go_at_call 39;refine(b4.out _ k5).mono ?_;rintro e w6 ⟨rfl,h6⟩;have h6:=h6.symm;subst h6))
  refine iy (((s.set_ 0 _).set_ 1 _).set_ 2 _) rfl rfl rfl rfl ⟨(((cb.out.trans k5).setCell (Or.inr (Nat.le_of_eq A.out)) _).setCell (Or.inr (Nat.le_of_eq A.out)) _).setCell (Or.inr (Nat.le_of_eq A.out)) _,rfl⟩
 |true =>
 have t:=HR.out;rw[hkb,hlb,if_neg (by simp)]at t;clear HR;have HR:=hid t;rw[hkb]at ab;rw[hlb]at b4
 have f7:ks.length<=16:=by
  unfold dI at hkb
  simp only[Bool.and_eq_true,decide_eq_true_eq]at hkb;exact hkb.1.2
 clear hkb hlb t;have el:=@run_makeMap prog
 go_upto_region 3 with(first
  |(go_at_call 38;refine ab.out.mono ?_;rintro e r ⟨rfl,k5⟩)
  |(go_at_call 39;refine(b4.out _ k5).mono ?_;rintro e w6 ⟨rfl,h6⟩;have h6:=h6.symm;subst h6))
 go_upto_region 4 with(fail);have b2:=xn r ks.length;have bq:Kept [] r (((r.alloc (.map #[] 0)).alloc (.map #[] 0)).alloc (.cells #[.map (some r.heap.size),.map (some (r.heap.size+1))] 97)):=(((Kept.refl _ _).alloc _).alloc _).alloc _;obtain⟨wC,cp⟩:∃y,(((r.alloc (.map #[] 0)).alloc (.map #[] 0)).alloc (.cells #[.map (some r.heap.size),.map (some (r.heap.size+1))] 97))=y:=⟨_,rfl⟩;rw[cp]at b2 bq ⊢;obtain⟨g,hg⟩:∃g,r.heap.size+1+1=g:=⟨_,rfl⟩;obtain⟨bt,c3⟩:∃g,r.heap.size+1=g:=⟨_,rfl⟩;obtain⟨bv,bx⟩:∃g,r.heap.size=g:=⟨_,rfl⟩;rw[hg,c3]at b2;rw[show Cit r.heap.size wC g r.heap.size bt=Cit r.heap.size wC g bv bt by rw[bx]]at b2;rw[hg,c3,bx];have f5:=hid b2;have du:=hid bq;have I:=hid (cb.out.trans k5);have bn:=hid (aj.kept (w':=r) dq.out (fun _ _ h=>PssR.kept h I.out) I.out);have e9:=hid (aj.kept (w':=r) cc.out (fun _ _ h=>IssR.kept h I.out) I.out);have eg:=hid (HE.out.kept0 I.out);have b6:=hid (HB.out.kept k5 (by simp));clear b2 cp bq hg c3 bx ab b4 el k5 dq cc HE HB;go_wp2_with fail
 go_loopw [35] (fun v wr=>∃(j:Nat) (P:List Cz) (V T:Int->Nat),j<=n/\v=.int .i64 j/\Kept [] r wr/\aF (addB ks) [] (is.take j)=.ok P/\Cit r.heap.size wr g bv bt (100*j) ks.length V T (findC P)) (fun v _=>n - (intOf v).toNat)
 case atStart=>exact⟨0,[],_,_,Nat.zero_le _,rfl,du.out,rfl,f5.out⟩
 case round =>
  obtain⟨j,P,V,T,hj,rfl,a2,D,b1⟩:=hrel;have i:=hid a2;have HF:=hid D;have HC:=hid b1;have ao:=b6.out.kept a2 (by simp)
  have bc:∀c∈P,(Lit.int .i64 c.num).wf=true:=fun c hc=>by
   obtain⟨x,J,hh⟩:=(bX D).src c hc;exact(e2.out x (List.mem_of_mem_take J)).1 _ (List.mem_of_mem_head? hh)
  have d9:=hid bc;clear a2 D b1 bc
  by_cases hlt:j < n
  ·have hlt':(j:Int) < (n:Int):=by omega
   obtain⟨b,F,rfl,hc⟩:=e9.out.at_ (by have:=HN.out;omega);obtain⟨x,J⟩:∃a,is[j]?=some a:=⟨_,List.getElem?_eq_getElem (by have:=HN.out;omega)⟩;obtain⟨cs,p1,p2,p3⟩:=hc j x J;have Y:=e2.out x (List.mem_of_getElem? J);have Z:=p2;obtain⟨va,o1,o2,o3,o4,o5,rfl,c6⟩:=p2;obtain⟨aa,ac,rfl,_,_⟩:=c6.form;obtain⟨ap,b3⟩:=x
   dsimp only at Y p3 Z c6
   have y0:wr.cell? ⟨b,F+j*7,none⟩=some (.int .i64 ap):=Kept.cellOf (p3 0 _ (by decide) rfl) _ i.out;have y1:wr.cell? ⟨b,F+j*7+1,none⟩=some (.slice aa b3.length ac):=Kept.cellOf (p3 1 _ (by decide) rfl) _ i.out;have y2:wr.cell? ⟨b,F+j*7+2,none⟩=some (.int .i64 o1):=Kept.cellOf (p3 2 _ (by decide) rfl) _ i.out;have y3:wr.cell? ⟨b,F+j*7+3,none⟩=some (.int .i64 o2):=Kept.cellOf (p3 3 _ (by decide) rfl) _ i.out;have y4:wr.cell? ⟨b,F+j*7+4,none⟩=some (.int .i64 o3):=Kept.cellOf (p3 4 _ (by decide) rfl) _ i.out;have y5:wr.cell? ⟨b,F+j*7+5,none⟩=some (.int .i64 o4):=Kept.cellOf (p3 5 _ (by decide) rfl) _ i.out;have y6:wr.cell? ⟨b,F+j*7+6,none⟩=some (.int .i64 o5):=Kept.cellOf (p3 6 _ (by decide) rfl) _ i.out;obtain⟨U,O⟩:∃y,wr.alloc (.cells #[.int .i64 ap,.slice aa b3.length ac,.int .i64 o1,.int .i64 o2,.int .i64 o3,.int .i64 o4,.int .i64 o5] 42)=y:=⟨_,rfl⟩;have kA:Kept [] wr U:=O▸(Kept.refl _ _).alloc _;have G:Blk U wr.heap.size 42 #[.int .i64 ap,.slice aa b3.length ac,.int .i64 o1,.int .i64 o2,.int .i64 o3,.int .i64 o4,.int .i64 o5]:=O▸Blk.new _ _ _;have x0:U.cell? ⟨wr.heap.size,0,none⟩=some (.int .i64 ap):=G.cell 0;have x1:U.cell? ⟨wr.heap.size,1,none⟩=some (.slice aa b3.length ac):=G.cell 1;have x2:U.cell? ⟨wr.heap.size,2,none⟩=some (.int .i64 o1):=G.cell 2;have x3:U.cell? ⟨wr.heap.size,3,none⟩=some (.int .i64 o2):=G.cell 3;have x4:U.cell? ⟨wr.heap.size,4,none⟩=some (.int .i64 o3):=G.cell 4;have x5:U.cell? ⟨wr.heap.size,5,none⟩=some (.int .i64 o4):=G.cell 5
   have x6:U.cell? ⟨wr.heap.size,6,none⟩=some (.int .i64 o5):=G.cell 6;have E:=xC eg.out (i.out.trans kA) (HC.out.kept kA) (bX HF.out) d9.out bn.out ey.out Z Y.1 Y.2 (by omega) (by omega);have HX:=hid J;have c8:=hid O;have a9:=fun e h=>gQ (e:=e) J HF.out h;have Q:=fe J HF.out;clear hc p1 p3 Z c6 J O kA G Y;go_upto_region 7 with(fail);have hwA':=c8.out;rw[hwA'];clear hwA' y0 y1 y2 y3 y4 y5 y6 ao
   cases hab:addB ks P ⟨ap,b3⟩with
   |error c =>
    have hc:=pj hab;have t:=HR.out;rw[a9 c hab]at t
    simp only at t
    subst t;rw[hab]at E;have b7:=hid E;clear E a9 Q hab;go_wp2_with (go_at_call 40;refine b7.out.mono ?_;rintro e w7 ⟨k7,he⟩;have he:e=.returned (.int .i64 c):=he;subst he;have d:=b6.out.kept k7 (by simp);have c0:w7.cell? ⟨C,0,none⟩=some (.slice none 0 0):=d.cell 0;have c1:w7.cell? ⟨C,1,none⟩=some (.slice none 0 0):=d.cell 1;have c2:w7.cell? ⟨C,2,none⟩=some (.slice none 0 0):=d.cell 2;have f0:=d.frozen 0;have f1:=d.frozen 1;have f2:=d.frozen 2);refine iy (((d.set_ 0 _).set_ 1 _).set_ 2 _) rfl rfl rfl rfl ⟨(((I.out.trans k7).setCell (Or.inr (Nat.le_of_eq A.out)) _).setCell (Or.inr (Nat.le_of_eq A.out)) _).setCell (Or.inr (Nat.le_of_eq A.out)) _,rfl⟩
   |ok P' =>
    rw[hab]at E Q;have b7:=hid E;have c9:=hid Q;clear E a9 Q hab;go_wp2_with (go_at_call 40;refine b7.out.mono ?_;rintro e w7 ⟨k7,rfl,V',T',hC'⟩)
    go_roundw
    case rel=>exact⟨j+1,P',V',T',by omega,by go_num,k7,c9.out,hC'.mono (by omega)⟩
    case measure=>simp[intOf];omega
  ·obtain rfl:j=n:=by omega
   have hF:=iS (by have:=HN.out;omega) HF.out;have t:=HR.out;rw[hF]at t
   simp only at t
   have hI:=bX hF;clear HR;have HR:=hid t;have HI:=hid hI;clear t hI hF;go_upto_region 13 with(fail);obtain⟨wB,ba⟩:∃y,wr.alloc (.cells #[.slice none 0 0,.slice none 0 0,.slice none 0 0] 67)=y:=⟨_,rfl⟩;have kB:Kept [] wr wB:=ba▸(Kept.refl _ _).alloc _;have b0:Blk wB wr.heap.size 67 #[.slice none 0 0,.slice none 0 0,.slice none 0 0]:=ba▸Blk.new _ _ _;have d8:=HC.out.kept kB;obtain⟨L,av⟩:∃y,wr.heap.size=y:=⟨_,rfl⟩;rw[ba,av];rw[av]at b0
   have f6:r.heap.size<=L:=by rw[<-av];exact i.out.size
   have f8:C < r.heap.size:=b6.out.lt
   have c7:∀x c,findC P x=some c->T x < L/\r.heap.size<=T x:=fun x c J=>by rw[<-av];exact⟨(HC.out.tick x c J).1.lt,(HC.out.lowc x c J).2.2.2.1⟩
   have be:=ou (X:=[L,C]) d8 HI.out.nodup d9.out HI.out.vals (bl.out.kept ((I.out.trans i.out).trans kB)) (by omega) (by omega) (fun z hz=>by
    simp only[List.mem_cons,List.not_mem_nil,or_false]at hz
    rcases hz with rfl|rfl
    ·exact⟨b0.lt,fun x c J=>by have:=(c7 x c J).1;omega⟩
    ·exact⟨by have:=b0.lt;omega,fun x c J=>by have:=(c7 x c J).2;omega⟩)
   have bk:=hid be;have eh:=hid b0;have f3:=hid (i.out.trans kB);clear be b0 kB ba av d8 c7 HC i ao;go_upto_region 14 with(go_at_call 41;refine bk.out.mono ?_;rintro e bo ⟨br,vm,vn,rfl,ad,bd⟩;obtain⟨ma,mc,rfl,_,_⟩:=aj.form ad.get;have af:=eh.out.kept br (by simp);have m1:bo.cell? ⟨L,1,none⟩=some (.slice none 0 0):=af.cell 1;have f1:=af.frozen 1);obtain⟨mn,bs⟩:∃n,(membersB log P).length=n:=⟨_,rfl⟩;rw[bs]at ad ⊢;obtain⟨wM,b9⟩:∃y,bo.setCell ⟨L,1,none⟩ (.slice ma mn mc)=y:=⟨_,rfl⟩;rw[b9];have kM:Kept [L] bo wM:=b9▸(Kept.refl _ _).setCell (Or.inl (by simp)) _;have c4:Blk wM L 67 #[.slice none 0 0,.slice ma mn mc,.slice none 0 0]:=b9▸af.set_ 1 _;have cl:Kept [] r wM:=(f3.out.trans br).fresh kM (fun z hz=>by rw[List.mem_singleton]at hz;omega);have cz:=ad.step (X':=[L,C]) kM (fun z hz _=>by rw[List.mem_singleton]at hz;rw[hz];exact List.mem_cons_self) (fun z hz=>Or.inl hz);have cx:=bd.step (X':=[L,C]) kM (fun z hz _=>by rw[List.mem_singleton]at hz;rw[hz];exact List.mem_cons_self) (fun z hz=>Or.inl hz);have d7:CrG wM.heap.size wM L (.slice ma mn mc) [] [] (.slice none 0 0) (.slice none 0 0):=⟨c4,Grow.nil_ _ _ _ _ _ _,World.ownsRow_nil _ _ _ _,fun z hz=>(by cases hz),c4.lt,Nat.le_refl _⟩;have ex:=hid cz;have dn:=hid cx;have f4:=hid d7;have b5:=hid cl;have g3:=hid bs;clear cz cx d7 cl c4 kM b9 ad bd af m1 f1 br bk eh bs;go_wp2_with fail
   go_loopw [57] (fun v wr=>∃(j:Nat) (qs:List Pd) (us:List Sn) (vq vu:Value),j<=m/\v=.int .i64 j/\Kept [L] wM wr/\aF (sightB ks log (aL P)) ([],[]) (ss.take j)=.ok (qs,us)/\qs.length<=j/\us.length<=j/\CrG wM.heap.size wr L (.slice ma mn mc) qs us vq vu) (fun v _=>m - (intOf v).toNat)
   case atStart=>exact⟨0,[],[],_,_,Nat.zero_le _,rfl,Kept.refl _ _,rfl,Nat.zero_le _,Nat.zero_le _,f4.out⟩
   case round =>
    obtain⟨j,qs,us,vq,vu,hj,rfl,a2,D,fz,fv,b1⟩:=hrel;have ci:Kept [] r wr:=b5.out.fresh a2 (fun z hz=>by rw[List.mem_singleton]at hz;omega);have ag:=hid ci;have i:=hid a2;have HF:=hid D;have HC:=hid b1;clear ci a2 D b1
    by_cases hlt:j < m
    ·have hlt':(j:Int) < (m:Int):=by omega
     obtain⟨b,F,rfl,hc⟩:=dm.out.at_ (by have:=HM.out;omega);obtain⟨x,J⟩:∃a,ss[j]?=some a:=⟨_,List.getElem?_eq_getElem (by have:=HM.out;omega)⟩;obtain⟨cs,p1,p2,p3⟩:=hc j x J;have Y:=ev.out x (List.mem_of_getElem? J);have au:=I.out.trans ag.out;have Z:=p2.kept au;obtain⟨N,vp,vr,da,qu,ju,k0,k1,fn,k3,k4,k5,k6,k7,k8,rfl,cv,cu,d0,⟨a0,n0,e0,rfl⟩,⟨a1,n1,e1,rfl⟩,⟨a3,n3,e3,rfl⟩,⟨a4,n4,e4,rfl⟩,⟨a5,n5,e5,rfl⟩,⟨a6,n6,e6,rfl⟩,⟨a7,n7,e7,rfl⟩,⟨a8,n8,e8,rfl⟩⟩:=p2;obtain⟨pa,pc,rfl,_,_⟩:=cv.form;obtain⟨ra,rc,rfl,_,_⟩:=cu.form;obtain⟨la,lc,rfl,_,_⟩:=aj.form d0;obtain⟨q,l,ps,M,f,o⟩:=x
     dsimp only at Y p3 Z
     obtain⟨U,O⟩:∃y,wr.alloc (.cells #[.int .i64 N,.string ⟨q.toArray⟩,.slice pa ps.length pc,.int .i64 l,.slice ra M.length rc,.int .i64 da,.int .i64 qu,.int .i64 ju,.slice a0 n0 e0,.slice a1 n1 e1,.slice la f.length lc,.slice a3 n3 e3,.slice a4 n4 e4,.slice a5 n5 e5,.slice a6 n6 e6,.slice a7 n7 e7,.slice a8 n8 e8,.int .i64 o] 61)=y:=⟨_,rfl⟩;have kA:Kept [] wr U:=O▸(Kept.refl _ _).alloc _;have G:Blk U wr.heap.size 61 #[.int .i64 N,.string ⟨q.toArray⟩,.slice pa ps.length pc,.int .i64 l,.slice ra M.length rc,.int .i64 da,.int .i64 qu,.int .i64 ju,.slice a0 n0 e0,.slice a1 n1 e1,.slice la f.length lc,.slice a3 n3 e3,.slice a4 n4 e4,.slice a5 n5 e5,.slice a6 n6 e6,.slice a7 n7 e7,.slice a8 n8 e8,.int .i64 o]:=O▸Blk.new _ _ _;have aq:=ag.out.trans kA;have cy:=(dn.out.step (X':=[L,C]) (i.out.trans (kA.mono (fun _ _ h=>by simp at h))) (fun z hz _=>by rw[List.mem_singleton]at hz;rw[hz];exact List.mem_cons_self) (fun z hz=>Or.inl hz)).get;have d4:U.heap[wr.heap.size]?=some (.cells #[.int .i64 N,.string ⟨q.toArray⟩,.slice pa ps.length pc,.int .i64 l,.slice ra M.length rc,.int .i64 da,.int .i64 qu,.int .i64 ju,.slice a0 n0 e0,.slice a1 n1 e1,.slice la f.length lc,.slice a3 n3 e3,.slice a4 n4 e4,.slice a5 n5 e5,.slice a6 n6 e6,.slice a7 n7 e7,.slice a8 n8 e8,.int .i64 o] 61 (0,0)):=G;have an:=sd (eg.out.kept0 aq) (HC.out.kept kA) (aj.kept (w':=U) bn.out (fun _ _ h=>PssR.kept h aq) aq) (bl.out.kept (I.out.trans aq)) cy (Z.kept kA) (by omega) (by omega) Y
     have HX:=hid J;have c8:=hid O;have g4:=hid kA;have a9:=fun e h=>gQ (e:=e) J HF.out h;have Q:=fe J HF.out;have d3:=fun z hz=>(HC.out.q.ge z hz).1;have d2:=fun z hz=>(aA HC.out.u z hz).1
     have d6:∀w7,Kept (L::(obl vq++obl vu)) U w7->Kept [L] wM w7:=fun w7 k7=>(i.out.trans (kA.mono (fun _ _ h=>by simp at h))).then_ k7 (fun z hz hm=>by
      rcases List.mem_cons.1 hm with h|h
      ·rw[h];exact List.mem_cons_self
      ·rcases List.mem_append.1 h with h|h
       ·have:=d3 z h;omega
       ·have:=d2 z h;omega)
     have ds:=hid d6
     have eq:∀(j':Nat) (v:Value),([.int .i64 N,.string ⟨q.toArray⟩,.slice pa ps.length pc,.int .i64 l,.slice ra M.length rc,.int .i64 da,.int .i64 qu,.int .i64 ju,.slice a0 n0 e0,.slice a1 n1 e1,.slice la f.length lc,.slice a3 n3 e3,.slice a4 n4 e4,.slice a5 n5 e5,.slice a6 n6 e6,.slice a7 n7 e7,.slice a8 n8 e8,.int .i64 o]:List Value)[j']?=some v->wr.cell? ((⟨b,F+j*18,none⟩:Addr).add j')=some v:=fun j' v hv=>by
      have E:(⟨b,F+j*18,none⟩:Addr).add j'=⟨b,F+(j*18+j'),none⟩:=by unfold Addr.add;split <;> simp_all [Nat.add_assoc]
      rw[E];exact Kept.cellOf (p3 j' v (by have:=(List.getElem?_eq_some_iff.1 hv).1;simpa using this) hv) _ au
     clear hc p1 p3 Z J O kA G cv cu d0 aq cy au d3 d2 d6
     have es:(#[.int .i64 N,.string ⟨q.toArray⟩,.slice pa ps.length pc,.int .i64 l,.slice ra M.length rc,.int .i64 da,.int .i64 qu,.int .i64 ju,.slice a0 n0 e0,.slice a1 n1 e1,.slice la f.length lc,.slice a3 n3 e3,.slice a4 n4 e4,.slice a5 n5 e5,.slice a6 n6 e6,.slice a7 n7 e7,.slice a8 n8 e8,.int .i64 o]:Array Value).all (·.oneCell')=true:=by simp[Value.oneCell']
     go_upto_region 17 with(first|(refine gS rfl 61 (.tmp 59) rfl ⟨b,F+j*18,none⟩ rfl [.int .i64 N,.string ⟨q.toArray⟩,.slice pa ps.length pc,.int .i64 l,.slice ra M.length rc,.int .i64 da,.int .i64 qu,.int .i64 ju,.slice a0 n0 e0,.slice a1 n1 e1,.slice la f.length lc,.slice a3 n3 e3,.slice a4 n4 e4,.slice a5 n5 e5,.slice a6 n6 e6,.slice a7 n7 e7,.slice a8 n8 e8,.int .i64 o] _ underlying61 rfl ij eq ?_)|(refine bf rfl rfl 61 (.tmp 18) (.tmp 60) rfl _ #[.int .i64 N,.string ⟨q.toArray⟩,.slice pa ps.length pc,.int .i64 l,.slice ra M.length rc,.int .i64 da,.int .i64 qu,.int .i64 ju,.slice a0 n0 e0,.slice a1 n1 e1,.slice la f.length lc,.slice a3 n3 e3,.slice a4 n4 e4,.slice a5 n5 e5,.slice a6 n6 e6,.slice a7 n7 e7,.slice a8 n8 e8,.int .i64 o] rfl rfl rfl ij rfl es ?_)|go_in);have hwA':=c8.out;rw[hwA'];clear hwA'
     cases hab:sightB ks log (aL P) (qs,us) ⟨q,l,ps,M,f,o⟩with
     |error c =>
      have t:=HR.out;rw[a9 c hab]at t
      simp only at t
      subst t;rw[hab]at an;have ca:=hid an;clear an a9 Q hab;go_wp2_with (first|(refine wpList_load_row rfl 61 (.tmp 18) rfl wr.heap.size rfl _ #[.int .i64 N,.string ⟨q.toArray⟩,.slice pa ps.length pc,.int .i64 l,.slice ra M.length rc,.int .i64 da,.int .i64 qu,.int .i64 ju,.slice a0 n0 e0,.slice a1 n1 e1,.slice la f.length lc,.slice a3 n3 e3,.slice a4 n4 e4,.slice a5 n5 e5,.slice a6 n6 e6,.slice a7 n7 e7,.slice a8 n8 e8,.int .i64 o] _ _ d4 underlying61 rfl ij ?_)|go_at_call 42;refine ca.out.mono ?_;rintro e w7 ⟨bp,he⟩;have he:e=.returned (.int .i64 c)/\c≠0:=he;obtain⟨rfl,hc⟩:=he;have cm:=b5.out.fresh (ds.out _ bp) (fun z hz=>by rw[List.mem_singleton]at hz;omega);have d:=b6.out.kept cm (by simp);have c0:w7.cell? ⟨C,0,none⟩=some (.slice none 0 0):=d.cell 0;have c1:w7.cell? ⟨C,1,none⟩=some (.slice none 0 0):=d.cell 1;have c2:w7.cell? ⟨C,2,none⟩=some (.slice none 0 0):=d.cell 2;have f0:=d.frozen 0;have f1:=d.frozen 1;have f2:=d.frozen 2);refine iy (((d.set_ 0 _).set_ 1 _).set_ 2 _) rfl rfl rfl rfl ⟨(((I.out.trans cm).setCell (Or.inr (Nat.le_of_eq A.out)) _).setCell (Or.inr (Nat.le_of_eq A.out)) _).setCell (Or.inr (Nat.le_of_eq A.out)) _,rfl⟩
     |ok c' =>
      obtain⟨qs',us'⟩:=c';have hl:=pH hab
      dsimp only at hl
      rw[hab]at an Q;have ca:=hid an;have c9:=hid Q;clear an a9 Q hab;go_wp2_with (first|(refine wpList_load_row rfl 61 (.tmp 18) rfl wr.heap.size rfl _ #[.int .i64 N,.string ⟨q.toArray⟩,.slice pa ps.length pc,.int .i64 l,.slice ra M.length rc,.int .i64 da,.int .i64 qu,.int .i64 ju,.slice a0 n0 e0,.slice a1 n1 e1,.slice la f.length lc,.slice a3 n3 e3,.slice a4 n4 e4,.slice a5 n5 e5,.slice a6 n6 e6,.slice a7 n7 e7,.slice a8 n8 e8,.int .i64 o] _ _ d4 underlying61 rfl ij ?_)|go_at_call 42;refine ca.out.mono ?_;rintro e w7 ⟨bp,rfl,vq',vu',hC'⟩)
      go_roundw
      case rel=>exact⟨j+1,qs',us',vq',vu',by omega,by go_num,ds.out _ bp,c9.out,by omega,by omega,hC'⟩
      case measure=>simp[intOf];omega
    ·obtain rfl:j=m:=by omega
     have hF:=iS (by have:=HM.out;omega) HF.out;have t:=HR.out;rw[hF]at t
     simp only at t
     subst t;have d:=b6.out.kept ag.out (by simp);have hC:=HC.out;obtain⟨qa,qc,rfl⟩:=hC.q.form (by decide);obtain⟨ua,uc,rfl⟩:=dp hC.u (by decide);have g0:wr.cell? ⟨L,0,none⟩=some (.slice qa qs.length qc):=hC.blk.cell 0;have g1:wr.cell? ⟨L,1,none⟩=some (.slice ma mn mc):=hC.blk.cell 1;have g2:wr.cell? ⟨L,2,none⟩=some (.slice ua us.length uc):=hC.blk.cell 2;have c0:wr.cell? ⟨C,0,none⟩=some (.slice none 0 0):=d.cell 0;have c1:wr.cell? ⟨C,1,none⟩=some (.slice none 0 0):=d.cell 1;have c2:wr.cell? ⟨C,2,none⟩=some (.slice none 0 0):=d.cell 2;have f0:=d.frozen 0;have f1:=d.frozen 1;have f2:=d.frozen 2;go_wp2_with fail;have d5:=((d.set_ 0 (.slice qa qs.length qc)).set_ 1 (.slice ma mn mc)).set_ 2 (.slice ua us.length uc);obtain⟨wF,co⟩:∃y,(((wr.setCell ⟨C,0,none⟩ (.slice qa qs.length qc)).setCell ⟨C,1,none⟩ (.slice ma mn mc)).setCell ⟨C,2,none⟩ (.slice ua us.length uc))=y:=⟨_,rfl⟩;rw[co]at d5 ⊢;have kF:Kept [C] wr wF:=co▸((((Kept.refl _ _).setCell (Or.inl (by simp)) _).setCell (Or.inl (by simp)) _).setCell (Or.inl (by simp)) _);have en:=(ex.out.step (X':=[L,C]) ((i.out.mono (fun z _ h=>by rw[List.mem_singleton]at h;rw[h];exact List.mem_cons_self)).then_ (S:=[L,C]) kF (fun z _ hz=>by rw[List.mem_singleton]at hz;rw[hz];simp)) (fun z hz _=>hz) (fun z hz=>Or.inl hz)).get;refine iy d5 rfl rfl rfl rfl ⟨((I.out.trans ag.out).fresh kF (fun z hz=>by rw[List.mem_singleton]at hz;have:=A.out;omega)),_,_,rfl,hC.result kF (vW d) (by have:=b5.out.size;omega) en (by omega) (by omega),?_⟩
     exact(dn.out.step (X':=[L,C]) ((i.out.mono (fun z _ h=>by rw[List.mem_singleton]at h;rw[h];exact List.mem_cons_self)).then_ (S:=[L,C]) kF (fun z _ hz=>by rw[List.mem_singleton]at hz;rw[hz];simp)) (fun z hz _=>hz) (fun z hz=>Or.inl hz)).get
end Go.Proofs.YtpcmamoomaddoaaGreatDoor
