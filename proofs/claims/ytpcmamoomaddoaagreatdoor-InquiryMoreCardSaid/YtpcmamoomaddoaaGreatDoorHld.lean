import Derived.Test.YtpcmamoomaddoaaGreatDoorRow
set_option maxRecDepth 100000
set_option maxHeartbeats 32000000
namespace Go.Proofs.YtpcmamoomaddoaaGreatDoor
open Go.RowKit Go.Maps Go.ChangeMaps
open Go.Proofs.Tryz
open Lib(hid)
theorem am.run_set{P:Program}{kt:TypeId}{α:Type}{E:KeyEnc P kt α}{w:World}{b n:Nat}{f:α->Option Value}[DecidableEq α](h:am E w b n f){x:α}(hx:E.ok x){t e:TypeId}(ht:P.underlying t=some (.map kt e))(hn:n < maxLen)(u:Value) :
  ∃w',(Instr.mapUpdate t (.map (some b)) (E.val x) u).run P w=.ok () w'/\am E w' b (n+1) (fun y=>if y=x then some u else f y)/\w.grownBy w' (some b)/\w'.heap.size=w.heap.size:=by
 obtain⟨D,h1,h2⟩:=h;obtain⟨w',hrun,r1,r2⟩:=h1.store E.keyed ht hn (val:=u) (d:=.held u) (ps:=[]) (E.of hx) rfl;refine⟨w',hrun,⟨_,r1,am.put_ hx h1.isMap h2⟩,r2.grown,?_⟩;obtain⟨_,_,es',c',_,rfl⟩:=r2
 simp[ChangeMaps.setBlock]
def put0(f:Bs->Option Int)(p:Bnd):Bs->Option Int:=fun y=>if y=p.1 then some p.2 else f y
/-- the values of names; the empty name has the value 0 -/
def envF(l:List Bnd):Bs->Option Int:=l.foldl put0 fun y=>if y=[]then some 0 else none
theorem tB(l:List Bnd)(p:Bnd):envF (l++[p])=put0 (envF l) p:=by simp[envF]
def intV(f:Bs->Option Int):Bs->Option Value:=fun y=>(f y).map (Value.int .i64)
theorem vQ{w:World}{v:Value}{l:List Bnd}(h:aj dE 2 w v l)(hs:∀b∈l,b.1.length<=10000000)(hl:l.length<=100000) :
  Calls prog 186 #[v] w fun e w'=>Kept [] w w'/\∃b,e=.returned (.map (some b))/\w.heap.size<=b/\am aC w' b (l.length+1) (intV (envF l)):=by
 have a1:=@run_makeMap prog;obtain⟨a,c,rfl,u,N⟩:=h.form;obtain⟨n,M⟩:∃n,l.length=n:=⟨_,rfl⟩;rw[M]at h N u hl ⊢;obtain⟨m,D⟩:∃m,w.heap.size=m:=⟨_,rfl⟩;have f:am aC (w.alloc (.map #[] 0)) m 0 (fun _=>none):=D▸am.made (E:=aC) w;obtain⟨w1,j,s,B,L⟩:=f.run_set (x:=[]) (by show 0<=maxLen;omega) (t:=142) (e:=3) underlying142 (by unfold maxLen;omega) (.int .i64 0);have hrun':(Instr.mapUpdate 142 (.map (some m)) (.string { data:=#[] }) (.int .i64 0)).run prog (w.alloc (.map #[] 0))=.ok () w1:=j;have U:Hid (am aC w1 m 1 (intV (envF []))):=hid (s.congr fun y _=>by unfold intV envF;by_cases e:y=[] <;> simp[e]);have Z:=hid (((Kept.refl [] w).alloc (.map #[] 0)).fresh (Kept.of_turned B (List.mem_singleton_self m)) (by simp;omega));have V:=hid D;have HH:=hid h;have F:=hid M;have HS:=hid hs;rw[<-D]at hrun';clear h M hs D f j s B L
 go_enter func186,ntmps186
 go_wp2_with fail;rw[V.out]
 go_loopw [10] (fun v wr=>∃i:Nat,i<=n/\v=.int .i64 i/\Kept [] w wr/\am aC wr m (i+1) (intV (envF (l.take i)))) (fun v _=>n - (intOf v).toNat)
 case atStart=>exact⟨0,Nat.zero_le _,rfl,Z.out,U.out⟩
 case round =>
  obtain⟨i,hi,rfl,d,g⟩:=hrel
  by_cases hlt:i < n
  ·have hlt':(i:Int) < (n:Int):=by omega
   obtain⟨b,k,rfl,hc⟩:=HH.out.at_ (by have:=F.out;omega);obtain⟨p,C⟩:∃p,l[i]?=some p:=⟨_,List.getElem?_eq_getElem (by have:=F.out;omega)⟩;obtain⟨cp,q1,q2,G⟩:=hc i p C;have q:=HS.out p (List.mem_of_getElem? C)
   have o:l.take (i+1)=l.take i++[p]:=by rw[List.take_succ_eq_append_getElem (by have:=F.out;omega),(List.getElem?_eq_some_iff.1 C).2]
   unfold dE at q2
   subst q2;obtain⟨x,y⟩:=p;have y0:wr.cell? ⟨b,k+i*2,none⟩=some (.string ⟨x.toArray⟩):=Kept.cellOf (G 0 _ (by decide) rfl) _ d;have y1:wr.cell? ⟨b,k+i*2+1,none⟩=some (.int .i64 y):=Kept.cellOf (G 1 _ (by decide) rfl) _ d;have I:Kept [] wr (wr.alloc (.cells #[.string ⟨x.toArray⟩,.int .i64 y] 82)):=(Kept.refl _ _).alloc _;have R:=hid (g.kept I (by simp));have Y:=hid (d.trans I);have P:=hid o;have HX:Hid (x.length<=maxLen):=hid (by have:x.length<=10000000:=q;unfold maxLen;omega)
   have O:i+1 < maxLen:=by unfold maxLen;omega
   clear hc q1 G I d C q o g
   go_wp2_with (first
    |(at_mapUpdate;refine dQ (E:=aC) R.out (x:=x) HX.out rfl _ _ _ 142 3 rfl underlying142 O (.int .i64 y) rfl rfl rfl ?_;intro w6 r A J;have T:=hid r;have a0:=hid (Kept.of_turned A (List.mem_singleton_self m));clear r A J)
    |go_in)
   go_roundw
   case rel =>
    refine⟨i+1,by omega,by go_num,Y.out.fresh a0.out (fun z hz=>by rw[List.mem_singleton]at hz;have:=V.out;omega),?_⟩;refine T.out.congr fun z _=>?_;rw[P.out,tB]
    unfold intV put0
    by_cases e:z=x
    ·simp[e]
    ·simp[e]
   case measure=>simp[intOf];omega
  ·obtain rfl:n=i:=by omega
   have Q:=hid g;have X:=hid d;clear d g;go_wp2_with fail;go_ret;refine⟨X.out,m,rfl,Nat.le_of_eq V.out,?_⟩;have:=Q.out;rw[show l.take n=l by rw[<-F.out,List.take_length]]at this;exact this
def bndB(F:Bs->Option Int)(x:K3):Bool:=(F x.1).isSome&&(F x.2.1).isSome
/-- whether an atom is true -/
def isB(F:Bs->Option Int)(x:K3):Bool:=decide ((F x.1).getD 0 - (F x.2.1).getD 0<=x.2.2)
theorem lT(F:Bs->Option Int)(y:Bs):(intV F y).isSome=(F y).isSome:=by unfold intV;cases F y <;> rfl
theorem lU(F:Bs->Option Int)(y:Bs):(intV F y).getD (.int .i64 0)=.int .i64 ((F y).getD 0):=by unfold intV;cases F y <;> rfl
theorem tH{w:World}{b n:Nat}{F:Bs->Option Int}(h:am aC w b n (intV F)){x:K3}(h1:x.1.length<=maxLen)(h2:x.2.1.length<=maxLen) :
  Calls prog 187 #[.map (some b),kv3 x] w fun e w'=>e=.returned (.bool (bndB F x))/\Kept [] w w':=by
 obtain⟨l,r,c⟩:=x;have H:=hid (h.kept ((Kept.refl [] w).alloc (.cells #[.string ⟨l.toArray⟩,.string ⟨r.toArray⟩,.int .i64 c] 182)) (by simp));have j:=hid h1;have i:=hid h2;clear h h1 h2
 show Calls _ _ #[.map (some b),.agg #[.string ⟨l.toArray⟩,.string ⟨r.toArray⟩,.int .i64 c]] w _
 unfold bndB
 dsimp only
 obtain⟨p,d⟩:∃p,(F l).isSome=p:=⟨_,rfl⟩;obtain⟨q,a⟩:∃q,(F r).isSome=q:=⟨_,rfl⟩;rw[d,a];have g:Hid ((intV F l).isSome=p):=hid ((lT _ _).trans d);have f:Hid ((intV F r).isSome=q):=hid ((lT _ _).trans a);clear d a
 go_enter func187,ntmps187
 go_upto_region 2 with(first
  |(at_lookup;refine bT (E:=aC) H.out (x:=l) j.out rfl _ _ 142 3 rfl underlying142 (.int .i64 0) eQ rfl rfl ?_)
  |go_in)
 go_upto_region 3 with(first
  |(at_lookup;refine bT (E:=aC) H.out (x:=r) i.out rfl _ _ 142 3 rfl underlying142 (.int .i64 0) eQ rfl rfl ?_)
  |go_in)
 have d:=g.out;have a:=f.out;rw[d,a];clear d a g f
 cases p with
 |false =>
  go_wp2_with fail;go_ret;exact⟨rfl,(Kept.refl _ _).alloc _⟩
 |true =>
  go_wp2_with fail;go_ret;exact⟨rfl,(Kept.refl _ _).alloc _⟩
theorem xx{w:World}{b n bx:Nat}{T:TypeId}{F:Bs->Option Int}(h:am aC w b n (intV F))(hb:Blk w bx T #[.map (some b)])(hF:∀y v,F y=some v->0<=v/\v<=65535){x:K3}(h1:x.1.length<=maxLen)(h2:x.2.1.length<=maxLen) :
  Calls prog 223 #[kv3 x,.pointer (some ⟨bx,0,none⟩)] w fun e w'=>e=.returned (.bool (isB F x))/\Kept [] w w':=by
 obtain⟨l,r,c⟩:=x;have H:=hid (h.kept ((Kept.refl [] w).alloc (.cells #[.string ⟨l.toArray⟩,.string ⟨r.toArray⟩,.int .i64 c] 182)) (by simp));have t:(w.alloc (.cells #[.string ⟨l.toArray⟩,.string ⟨r.toArray⟩,.int .i64 c] 182)).cell? ⟨bx,0,none⟩=some (.map (some b)):=(hb.alloc _).cell 0;have p:=hid h1;have o:=hid h2
 have g:∀y,0<=(F y).getD 0/\(F y).getD 0<=65535:=fun y=>by
  cases hy:F y with
  |none=>simp
  |some v=>simpa using hF y v hy
 have m:=g l;have k:=g r
 have a:IntKind.i64.wrap ((F l).getD 0 - (F r).getD 0)=(F l).getD 0 - (F r).getD 0:=by rw[IntKind.wrap_i64];omega
 obtain⟨u,j⟩:∃u,(F l).getD 0=u:=⟨_,rfl⟩;obtain⟨v,i⟩:∃v,(F r).getD 0=v:=⟨_,rfl⟩;have f:=lU F l;have d:=lU F r
 unfold isB
 dsimp only
 rw[j]at a f m ⊢;rw[i]at a d k ⊢;have s:=hid f;have q:=hid d;clear h h1 h2 hF g hb j i f d m k
 show Calls _ _ #[.agg #[.string ⟨l.toArray⟩,.string ⟨r.toArray⟩,.int .i64 c],.pointer (some ⟨bx,0,none⟩)] w _
 go_enter func223,ntmps223
 go_wp2_with (first
  |(at_lookup;refine aX (E:=aC) H.out (x:=l) p.out rfl _ _ 142 3 rfl underlying142 (.int .i64 0) eQ rfl rfl ?_;rw[s.out])
  |(at_lookup;refine aX (E:=aC) H.out (x:=r) o.out rfl _ _ 142 3 rfl underlying142 (.int .i64 0) eQ rfl rfl ?_;rw[q.out])
  |go_in)
 go_ret;exact⟨rfl,(Kept.refl _ _).alloc _⟩
theorem yB(w:World)(b:Nat) :
  Calls prog 189 #[.map (some b)] w fun e w'=>e=.returned (.func (.func 223) #[] #[.pointer (some ⟨w.heap.size,0,none⟩)])/\Kept [] w w'/\Blk w' w.heap.size 142 #[.map (some b)]:=by
 go_enter func189,ntmps189
 go_wp2_with fail;go_ret;exact⟨rfl,(Kept.refl _ _).alloc _,Blk.new _ _ _⟩
mutual
def truF(F:Bs->Option Int):Pd->Bool
 | .node k l r c ks=>if k=0 then isB F (l,r,c)else if k=1 then decide (cntF F ks=ks.length)else if k=2 then decide (0 < cntF F ks)else decide (c<=(cntF F ks:Int))
def cntF(F:Bs->Option Int):List Pd->Nat
 | []=>0
 |p::l=>(if truF F p=true then 1 else 0)+cntF F l
end
theorem mj(F:Bs->Option Int)(p:Pd):∀l:List Pd,cntF F (l++[p])=cntF F l+(if truF F p=true then 1 else 0)
 | []=>by simp[cntF]
 |q::l=>by rw[List.cons_append,cntF,cntF,mj F p l];omega
theorem ni(F:Bs->Option Int):∀l:List Pd,cntF F l<=l.length
 | []=>by simp[cntF]
 |q::l=>by rw[cntF,List.length_cons];have:=ni F l;split <;> omega
theorem rN{F:Bs->Option Int}(hF:∀y v,F y=some v->0<=v/\v<=65535){b n bx:Nat}{T:TypeId}:∀(m:Nat),m<=100000->∀(p:Pd) (cs:List Value) (w:World),sizeB p<=m->formedB p=true->PdR w cs p->am aC w b n (intV F)->Blk w bx T #[.map (some b)] ->
  Calls prog 188 #[.agg cs.toArray,.func (.func 223) #[] #[.pointer (some ⟨bx,0,none⟩)]] w fun e w'=>e=.returned (.bool (truF F p))/\Kept [] w w':=by
 intro m
 induction m with
 |zero=>intro _ p cs w hm;cases p;rw[sizeB]at hm;omega
 |succ m ih =>
  rintro hM ⟨i,l,r,u,c⟩ cs w hm hf hp C a1;have ih:=ih (by omega);obtain⟨ka,kc,rfl,g⟩:=hp.rows;rw[sizeB]at hm;obtain⟨_,_,ag,af,_⟩:=g.form;have a4:Hid (c.length<=100000):=hid (by have:=cW c;omega);clear ag;obtain⟨a8,a7⟩:=fE hf
  show Calls _ _ #[.agg #[.int .i64 i,.string ⟨l.toArray⟩,.string ⟨r.toArray⟩,.int .i64 u,.slice ka c.length kc],.func (.func 223) #[] #[.pointer (some ⟨bx,0,none⟩)]] w _
  obtain⟨W,hW⟩:∃W,w.alloc (.cells #[.int .i64 i,.string ⟨l.toArray⟩,.string ⟨r.toArray⟩,.int .i64 u,.slice ka c.length kc] 46)=W:=⟨_,rfl⟩;have o:Kept [] w W:=hW▸(Kept.refl _ _).alloc _;have d:Blk W w.heap.size 46 #[.int .i64 i,.string ⟨l.toArray⟩,.string ⟨r.toArray⟩,.int .i64 u,.slice ka c.length kc]:=hW▸Blk.new _ _ _;have q0:W.cell? ⟨w.heap.size,0,none⟩=some (.int .i64 i):=d.cell 0;have q1:W.cell? ⟨w.heap.size,1,none⟩=some (.string ⟨l.toArray⟩):=d.cell 1;have q2:W.cell? ⟨w.heap.size,2,none⟩=some (.string ⟨r.toArray⟩):=d.cell 2;have q3:W.cell? ⟨w.heap.size,3,none⟩=some (.int .i64 u):=d.cell 3;have q4:W.cell? ⟨w.heap.size,4,none⟩=some (.slice ka c.length kc):=d.cell 4;have L:=C.kept o (by simp);have O:=a1.kept o (by simp)
  by_cases h0:i=0
  ·obtain⟨rfl,a5⟩:=a8 h0;subst h0;have H1:=hid (iQ 0 l r u ka 0 kc W);have a2:=hid o;have HW:=hid hW;have aa:∀Z,Kept [] W Z->Calls prog 223 #[kv3 (l,r,u),.pointer (some ⟨bx,0,none⟩)] Z fun e w'=>e=.returned (.bool (isB F (l,r,u)))/\Kept [] Z w':=fun Z I=>xx (L.kept I (by simp)) (O.kept I (by simp)) hF a5.1 a5.2.1;have HB:=hid aa;obtain⟨R,V⟩:∃R,isB F (l,r,u)=R:=⟨_,rfl⟩;rw[show truF F (.node 0 l r u [])=R by rw[truF,if_pos rfl,V]];have HR:=hid V;clear hW o d g hp ih C L a1 O V hf aa
   go_enter func188,ntmps188
   go_upto_region 1 with(fail);have hW':=HW.out
   dsimp only[List.length_nil]at hW' q4
   rw[hW'];clear hW'
   go_wp2_with (first
    |(go_at_call 200;refine H1.out.mono ?_;rintro e Z ⟨rfl,I⟩;have HC:=hid (HB.out Z I);have K5:=hid I;clear I)
    |(go_at_call 223;refine HC.out.mono ?_;rintro e w6 ⟨rfl,k6⟩;have K6:=hid k6;clear k6)
    |go_in)
   go_ret;exact⟨by rw[HR.out];rfl,(a2.out.trans K5.out).trans K6.out⟩
  ·have av:(i==0)=false:=by simpa using h0
   have aq:=hid (a7 h0);have a2:=hid o;have HW:=hid hW;have ap:=hid L;have au:=hid O;have Y:=hid g;have HQ:Hid (∀(w':World),Kept [] W w'->Blk w' w.heap.size 46 #[.int .i64 i,.string ⟨l.toArray⟩,.string ⟨r.toArray⟩,.int .i64 u,.slice ka c.length kc]):=hid (fun w' k=>d.kept k (by simp));obtain⟨R,V⟩:∃R,truF F (.node i l r u c)=R:=⟨_,rfl⟩;rw[V];rw[truF,if_neg h0]at V;have HR:=hid V;clear hW o hp C L g a8 a7 hf d a1 O V;obtain⟨f,a6⟩:∃f,c.length=f:=⟨_,rfl⟩;rw[a6]at a4 Y HQ HW q4 af HR ⊢
   go_enter func188,ntmps188
   go_upto_region 1 with(fail);have hW':=HW.out;rw[hW'];clear hW';go_wp2_with fail;clear q0 q1 q2 q3 q4
   go_loopw [5,18] (fun v5 v18 wr=>∃j:Nat,j<=f/\v18=.int .i64 j/\v5=.int .i64 (cntF F (c.take j):Int)/\Kept [] W wr) (fun _ v18 _=>f - (intOf v18).toNat)
   case atStart=>exact⟨0,Nat.zero_le _,rfl,by simp[cntF],Kept.refl _ _⟩
   case round =>
    obtain⟨j,hj,rfl,rfl,D⟩:=hrel;have a:Kept [] w wr:=a2.out.trans D;have a3:=hid D
    by_cases hlt:j < f
    ·have hlt':(j:Int) < (f:Int):=by omega
     obtain⟨bb,A,rfl,hc⟩:=Y.out.at_ (by omega);obtain⟨cq,h1,X,h3⟩:=hc j c[j] (List.getElem?_eq_getElem (by omega));obtain⟨q,hq⟩:∃q,c[j]=q:=⟨_,rfl⟩;rw[hq]at X;have a0:q∈c:=hq▸List.getElem_mem (by omega)
     have ac:sizeB q<=m:=by have:=bh a0;omega
     have ad:formedB q=true:=aq.out q a0
     have B:c.take (j+1)=c.take j++[q]:=by rw[List.take_succ_eq_append_getElem (by omega),hq]
     have Q:=hid (show cntF F (c.take (j+1))=cntF F (c.take j)+(if truF F q=true then 1 else 0)by rw[B,mj]);obtain⟨N,hN⟩:∃N,cntF F (c.take j)=N:=⟨_,rfl⟩
     have an:N<=j:=by have:=ni F (c.take j);rw[List.length_take]at this;omega
     rw[hN]at Q ⊢
     have a9:(N:Int)<=100000:=by have:=a4.out;omega
     obtain⟨t,ht⟩:∃t,truF F q=t:=⟨_,rfl⟩;rw[ht]at Q;clear B hq hc a0 hN;obtain⟨qk,ql,qr,qc,z⟩:=q;obtain⟨qa,G,rfl,_⟩:=X.rows;have y0:wr.cell? ⟨bb,A+j*5,none⟩=some (.int .i64 qk):=Kept.cellOf (h3 0 _ (by decide) rfl) _ a;have y1:wr.cell? ⟨bb,A+j*5+1,none⟩=some (.string ⟨ql.toArray⟩):=Kept.cellOf (h3 1 _ (by decide) rfl) _ a;have y2:wr.cell? ⟨bb,A+j*5+2,none⟩=some (.string ⟨qr.toArray⟩):=Kept.cellOf (h3 2 _ (by decide) rfl) _ a;have y3:wr.cell? ⟨bb,A+j*5+3,none⟩=some (.int .i64 qc):=Kept.cellOf (h3 3 _ (by decide) rfl) _ a;have y4:wr.cell? ⟨bb,A+j*5+4,none⟩=some (.slice qa z.length G):=Kept.cellOf (h3 4 _ (by decide) rfl) _ a;obtain⟨U,J⟩:∃x,wr.alloc (.cells #[.int .i64 qk,.string ⟨ql.toArray⟩,.string ⟨qr.toArray⟩,.int .i64 qc,.slice qa z.length G] 46)=x:=⟨_,rfl⟩;have kA:Kept [] wr U:=J▸(Kept.refl _ _).alloc _;have s:Blk U wr.heap.size 46 #[.int .i64 qk,.string ⟨ql.toArray⟩,.string ⟨qr.toArray⟩,.int .i64 qc,.slice qa z.length G]:=J▸Blk.new _ _ _;have x0:U.cell? ⟨wr.heap.size,0,none⟩=some (.int .i64 qk):=s.cell 0;have x1:U.cell? ⟨wr.heap.size,1,none⟩=some (.string ⟨ql.toArray⟩):=s.cell 1;have x2:U.cell? ⟨wr.heap.size,2,none⟩=some (.string ⟨qr.toArray⟩):=s.cell 2;have x3:U.cell? ⟨wr.heap.size,3,none⟩=some (.int .i64 qc):=s.cell 3;have x4:U.cell? ⟨wr.heap.size,4,none⟩=some (.slice qa z.length G):=s.cell 4;have ih':=ih (.node qk ql qr qc z) _ U ac ad (PdR.kept (a.trans kA) X) (ap.out.kept (a3.out.trans kA) (by simp)) (au.out.kept (a3.out.trans kA) (by simp))
     rw[ht]at ih';have IH:=hid ih';have ao:=hid J;have KA:=hid kA;clear h1 X h3 J kA s a D ih' ht;go_upto_region 7 with(fail);have hwA':=ao.out;rw[hwA'];clear hwA' y0 y1 y2 y3 y4;go_wp2_with (go_at_call 188;refine IH.out.mono ?_);rintro e Z ⟨rfl,I⟩;have ab:=hid ((a3.out.trans KA.out).trans I);clear I x0 x1 x2 x3 x4
     cases t with
     |false =>
      go_wp2_with fail
      go_roundw
      case rel=>exact⟨j+1,by omega,by go_num,by rw[Q.out];simp,ab.out⟩
      case measure=>simp[intOf];omega
     |true =>
      go_wp2_with fail
      go_roundw
      case rel=>exact⟨j+1,by omega,by go_num,by rw[Q.out];simp,ab.out⟩
      case measure=>simp[intOf];omega
    ·obtain rfl:f=j:=by omega
     have B:c.take f=c:=List.take_of_length_le (by omega);rw[B];obtain⟨N,hN⟩:∃N,cntF F c=N:=⟨_,rfl⟩;have hr':=HR.out;rw[hN]at hr' ⊢
     have an:N<=f:=by have:=ni F c;omega
     have a9:(N:Int)<=100000:=by have:=a4.out;omega
     have M:=HQ.out wr D;have z0:wr.cell? ⟨w.heap.size,0,none⟩=some (.int .i64 i):=M.cell 0;have z3:wr.cell? ⟨w.heap.size,3,none⟩=some (.int .i64 u):=M.cell 3;have z4:wr.cell? ⟨w.heap.size,4,none⟩=some (.slice ka f kc):=M.cell 4;have P:=hid a;have HR':=hid hr';clear B hN hr' M a D HQ a6
     by_cases h1:i=1
     ·subst h1
      have e:decide (N=f)=R:=by have:=HR'.out;rwa [if_pos rfl]at this
      have E:=hid e;clear e HR HR'
      by_cases hn:N=f
      ·subst hn;go_wp2_with fail;go_ret;exact⟨by rw[<-E.out];simp,P.out⟩
      ·have hn':((N:Int)==(f:Int))=false:=by simpa using fun h:(N:Int)=(f:Int)=>hn (by omega)
       go_wp2_with fail;go_ret;exact⟨by rw[<-E.out];simp[hn],P.out⟩
     ·have h1':(i==1)=false:=by simpa using h1
      by_cases X:i=2
      ·subst X
       have e:decide (0 < N)=R:=by have:=HR'.out;rwa [if_neg h1,if_pos rfl]at this
       have E:=hid e;clear e HR HR';go_wp2_with fail;go_ret;exact⟨by rw[<-E.out];simp,P.out⟩
      ·have h2':(i==2)=false:=by simpa using X
       have e:decide (u<=(N:Int))=R:=by have:=HR'.out;rwa [if_neg h1,if_neg X]at this
       have E:=hid e;clear e HR HR';go_wp2_with fail;go_ret;exact⟨by rw[<-E.out];rfl,P.out⟩
def k3R(_:World)(c:List Value)(x:K3):Prop:=c=cells3 x
theorem xW{w:World}{v:Value}{ks:List K3}(h:Row w 3 v ks.length (cw ks)):aj k3R 3 w v ks:=by
 refine⟨ks.map cells3,by simp,fun c hc=>?_,fun k x hk=>⟨cells3 x,by rw[List.getElem?_map,hk];rfl,rfl⟩,?_⟩
 ·obtain⟨x,_,rfl⟩:=List.mem_map.1 hc
  rfl
 ·rw[<-List.flatMap_def];exact h
theorem kw:∀(l:List Bnd),(∀b∈l,0<=b.2/\b.2<=65535)->∀f:Bs->Option Int,(∀y v,f y=some v->0<=v/\v<=65535)->∀y v,l.foldl put0 f y=some v->0<=v/\v<=65535
 | [],_,_,hf=>hf
 |p::l,h,f,hf=>kw l (fun b hb=>h b (List.mem_cons_of_mem _ hb)) (put0 f p) fun y v hv=>by
  unfold put0 at hv
  by_cases e:y=p.1
  ·rw[if_pos e]at hv;injection hv with hv;subst hv;exact h p (List.mem_cons_self ..)
  ·rw[if_neg e]at hv;exact hf y v hv
theorem nj{l:List Bnd}(h:db l=true):∀b∈l,0<=b.2/\b.2<=65535:=fun b hb=>by
 obtain⟨k,hk⟩:=List.getElem?_of_mem hb;have hkl:=(List.getElem?_eq_some_iff.1 hk).1
 unfold db at h
 have h1:badN l k=false:=by
  have h2:(List.range l.length).any (badN l)=false:=by simpa using h
  have h3:=List.any_eq_false.1 h2 k (List.mem_range.2 hkl)
  simpa using h3
 unfold badN at h1
 rw[hk]at h1;simp only[Bool.or_eq_false_iff,decide_eq_false_iff_not]at h1;omega
theorem qH{l:List Bnd}(h:db l=true):∀y v,envF l y=some v->0<=v/\v<=65535:=kw l (nj h) _ fun y v hv=>by
 by_cases e:y=[]
 ·rw[if_pos e]at hv;injection hv with hv;omega
 ·rw[if_neg e]at hv
  cases hv
/-- whether a predicate holds: every atom's names have values, and it is true -/
def hldB(p:Pd)(l:List Bnd):Bool:=(atomsB p).all (bndB (envF l))&&truF (envF l) p
theorem tt{B:Nat}{w:World}{p:Pd}{cs:List Value}{v:Value}{l:List Bnd}(hp:PdR w cs p)(hv:aP p=true)(hr:aj dE 2 w v l)(hbi:db l=true)(hs:∀b∈l,b.1.length<=10000000)(hl:l.length<=100000)(hE:EnvB B w) :
  Calls prog 143 #[.agg cs.toArray,v] w fun e w'=>Kept [] w w'/\∃is en,e=.returned (.tuple #[.bool is,.int .i64 en])/\(is&&decide (en=0))=hldB p l:=by
 obtain⟨a,c,rfl,ad,b7⟩:=hr.form
 have f:dG p=true/\formedB p=true:=by unfold aP at hv;simpa using hv
 have s:sizeB p<=100000:=by have:=f.1;unfold dG at this;simp only[Bool.and_eq_true,decide_eq_true_eq]at this;omega
 have b8:=cA (B:=B) hp (cj p f.2)
 have aq:∀w',Kept [] w w'->Calls prog 33 #[.agg cs.toArray] w' fun e w''=>e=.returned (.bool true)/\Kept [] w' w'':=fun w' k=>by
  have:=cA (PdR.kept k hp) (cj p f.2) (hE.kept0 k)
  rwa [hv]at this
 have av:∀w',Kept [] w w'->Calls prog 99 #[.slice a l.length c] w' fun e w''=>e=.returned (.bool true)/\Kept [] w' w'':=fun w' k=>by
  have:=fo (aj.kept (w':=w') hr (fun _ _ h=>h) k) hs hl (hE.kept0 k)
  rwa [hbi]at this
 have au:∀w',Kept [] w w'->_:=fun w' k=>vQ (w:=w') (aj.kept (w':=w') hr (fun _ _ h=>h) k) hs hl;have b4:∀w',Kept [] w w'->_:=fun w' k=>mx (w:=w') (PdR.kept k hp) f.2 s;have L:∀(w':World) (b n bx:Nat) (T:TypeId),Kept [] w w'->am aC w' b n (intV (envF l))->Blk w' bx T #[.map (some b)]->_:=fun w' b n bx T k hm hb=>rN (qH hbi) 100000 (Nat.le_refl _) p cs w' s f.2 (PdR.kept k hp) hm hb;have b0:=hid (ir 100000 p s f.2);have a8:=hid aq;have a7:=hid av;have J:=hid au;have I:=hid b4;have G:=hid L;have U:Hid ((atomsB p).length<=100000):=hid (Nat.le_trans (ee p) s);obtain⟨AT,a6⟩:∃A,atomsB p=A:=⟨_,rfl⟩;obtain⟨TR,a5⟩:∃A,truF (envF l) p=A:=⟨_,rfl⟩;have N:Hid (hldB p l=(AT.all (bndB (envF l))&&TR)):=hid (by unfold hldB;rw[a6,a5]);rw[a6]at U b0 I;rw[a5]at G;obtain⟨kd,pl,pr,pc,a9⟩:=p;obtain⟨pa,C,rfl,_⟩:=hp.rows;obtain⟨kn,af⟩:∃kn,a9.length=kn:=⟨_,rfl⟩;obtain⟨n,hn⟩:∃n,l.length=n:=⟨_,rfl⟩;obtain⟨F,hF⟩:∃F,envF l=F:=⟨_,rfl⟩;obtain⟨R,hR⟩:∃R,hldB (.node kd pl pr pc a9) l=R:=⟨_,rfl⟩;rw[hR]at N ⊢;rw[hF]at N J G;rw[af]at a8 I G ⊢;rw[hn]at a7 J hl ⊢;obtain⟨W,hW⟩:∃W,w.alloc (.cells #[.int .i64 kd,.string ⟨pl.toArray⟩,.string ⟨pr.toArray⟩,.int .i64 pc,.slice pa kn C] 46)=W:=⟨_,rfl⟩;have ag:Kept [] w W:=hW▸(Kept.refl _ _).alloc _;have o:Blk W w.heap.size 46 #[.int .i64 kd,.string ⟨pl.toArray⟩,.string ⟨pr.toArray⟩,.int .i64 pc,.slice pa kn C]:=hW▸Blk.new _ _ _
 have q:=hid ag;have HW:=hid hW;have br:=hid o;have q0:∀w',Kept [] W w'->w'.cell? ⟨w.heap.size,0,none⟩=some (.int .i64 kd):=Kept.cellOf (o.cell 0);have q1:∀w',Kept [] W w'->w'.cell? ⟨w.heap.size,1,none⟩=some (.string ⟨pl.toArray⟩):=Kept.cellOf (o.cell 1);have q2:∀w',Kept [] W w'->w'.cell? ⟨w.heap.size,2,none⟩=some (.string ⟨pr.toArray⟩):=Kept.cellOf (o.cell 2);have q3:∀w',Kept [] W w'->w'.cell? ⟨w.heap.size,3,none⟩=some (.int .i64 pc):=Kept.cellOf (o.cell 3);have q4:∀w',Kept [] W w'->w'.cell? ⟨w.heap.size,4,none⟩=some (.slice pa kn C):=Kept.cellOf (o.cell 4);have Q0:=hid q0;have Q1:=hid q1;have Q2:=hid q2;have Q3:=hid q3;have Q4:=hid q4;clear b8 aq av au b4 L hW ag o hp hr hbi hs hE hv f s a6 a5 hF hR hn af q0 q1 q2 q3 q4 b7 ad
 show Calls _ _ #[.agg #[.int .i64 kd,.string ⟨pl.toArray⟩,.string ⟨pr.toArray⟩,.int .i64 pc,.slice pa kn C],_] _ _
 go_enter func143,ntmps143
 go_upto_region 1 with(fail);have hW':=HW.out;rw[hW'];clear hW';have z0:=Q0.out W (Kept.refl _ _);have z1:=Q1.out W (Kept.refl _ _);have z2:=Q2.out W (Kept.refl _ _);have z3:=Q3.out W (Kept.refl _ _);have z4:=Q4.out W (Kept.refl _ _);have C1:=hid (a8.out W q.out)
 go_wp2_with (first
  |(go_at_call 33;refine C1.out.mono ?_;rintro e w1 ⟨rfl,k1⟩;have C2:=hid (a7.out w1 (q.out.trans k1));have K1:=hid k1;clear k1)
  |(go_at_call 99;refine C2.out.mono ?_;rintro e w2 ⟨rfl,k2⟩;have C3:=hid (J.out w2 ((q.out.trans K1.out).trans k2));have K2:=hid k2;clear k2)
  |(go_at_call 186;refine C3.out.mono ?_;rintro e w3 ⟨k3,mb,rfl,b6,ac⟩;have K3:=hid ((K1.out.trans K2.out).trans k3);have bk:=hid ac;have C4:=hid (I.out w3 (q.out.trans K3.out));have z0:=Q0.out w3 K3.out;have z1:=Q1.out w3 K3.out;have z2:=Q2.out w3 K3.out;have z3:=Q3.out w3 K3.out;have z4:=Q4.out w3 K3.out;clear k3 b6 ac)
  |(go_at_call 120;refine C4.out.mono ?_;rintro e w4 ⟨v,ks,rfl,ab,O,u,k4⟩;have K4:=hid k4;have bd:=hid u;have M:=hid O;have be:=hid ab;obtain⟨va,vc,rfl⟩:=dp u (by decide);clear k4 u O ab)
  |go_in)
 have ba:=hid (q.out.trans (K3.out.trans K4.out));have b9:=hid (K3.out.trans K4.out);obtain⟨m,hm⟩:∃m,ks.length=m:=⟨_,rfl⟩
 have bq:m<=100000:=by rw[<-hm];exact Nat.le_trans (eH ks AT be.out fun x r=>(M.out x).1 r) U.out
 have a2:=xW (Row.of_own bd.out (by omega));rw[hm]at a2 ⊢;have bc:=hid a2;have HM:=hid hm;have Q:=hid (bk.out.kept K4.out (by simp));clear a2 hm z0 z1 z2 z3 z4 C1 C2 C3 C4 a8 a7 J I
 go_loopw [22] (fun i wr=>∃j:Nat,j<=m/\i=.int .i64 (j:Int)/\Kept [] w4 wr/\∀k x,k < j->ks[k]?=some x->bndB F x=true) (fun i _=>m - (intOf i).toNat)
 case atStart=>exact⟨0,Nat.zero_le _,rfl,Kept.refl _ _,fun k x hk=>absurd hk (by omega)⟩
 case round =>
  obtain⟨j,hj,rfl,d,P⟩:=hrel;have bl:=hid d;have b5:=hid P;clear P
  by_cases hlt:j < m
  ·have hlt':(j:Int) < (m:Int):=by omega
   obtain⟨bb,a0,rfl,hc⟩:=bc.out.at_ (by have:=HM.out;omega);obtain⟨x,r⟩:∃x,ks[j]?=some x:=⟨_,List.getElem?_eq_getElem (by have:=HM.out;omega)⟩;obtain⟨cx,h1,h2,h3⟩:=hc j x r
   unfold k3R cells3 at h2
   subst h2;have a4:=b0.out x ((M.out x).1 (List.mem_of_getElem? r));obtain⟨X,V,Y⟩:=x;have y0:wr.cell? ⟨bb,a0+j*3,none⟩=some (.string ⟨X.toArray⟩):=Kept.cellOf (h3 0 _ (by decide) rfl) _ d;have y1:wr.cell? ⟨bb,a0+j*3+1,none⟩=some (.string ⟨V.toArray⟩):=Kept.cellOf (h3 1 _ (by decide) rfl) _ d;have y2:wr.cell? ⟨bb,a0+j*3+2,none⟩=some (.int .i64 Y):=Kept.cellOf (h3 2 _ (by decide) rfl) _ d;obtain⟨Z,D⟩:∃y,wr.alloc (.cells #[.string ⟨X.toArray⟩,.string ⟨V.toArray⟩,.int .i64 Y] 182)=y:=⟨_,rfl⟩;have kA:Kept [] wr Z:=D▸(Kept.refl _ _).alloc _;have E:Blk Z wr.heap.size 182 #[.string ⟨X.toArray⟩,.string ⟨V.toArray⟩,.int .i64 Y]:=D▸Blk.new _ _ _;have x0:Z.cell? ⟨wr.heap.size,0,none⟩=some (.string ⟨X.toArray⟩):=E.cell 0;have x1:Z.cell? ⟨wr.heap.size,1,none⟩=some (.string ⟨V.toArray⟩):=E.cell 1;have x2:Z.cell? ⟨wr.heap.size,2,none⟩=some (.int .i64 Y):=E.cell 2;have a3:=tH (Q.out.kept (d.trans kA) (by simp)) (x:=(X,V,Y)) a4.1 a4.2.1;obtain⟨t,ht⟩:∃t,bndB F (X,V,Y)=t:=⟨_,rfl⟩;rw[ht]at a3;have b3:Hid (Calls prog 187 #[.map (some mb),.agg #[.string ⟨X.toArray⟩,.string ⟨V.toArray⟩,.int .i64 Y]] Z fun e w'=>e=.returned (.bool t)/\Kept [] Z w'):=hid a3;have HT:=hid ht;have ao:=hid r;have ap:=hid D;have b2:=hid (d.trans kA);clear hc h1 h3 r a4 D kA E a3 ht d;go_upto_region 7 with(fail);have hwA':=ap.out;rw[hwA'];clear hwA' ap y0 y1 y2
   cases t with
   |false =>
    go_wp2_with (first|(go_at_call 187;refine b3.out.mono ?_;rintro e w5 ⟨rfl,k5⟩;have K5:=hid k5;clear k5)|go_in)
    go_ret2
    refine⟨(ba.out.trans b2.out).trans K5.out,false,4,rfl,?_⟩;rw[N.out]
    have:AT.all (bndB F)=false:=by
     rw[List.all_eq_false];exact⟨_,(M.out _).1 (List.mem_of_getElem? ao.out),by rw[HT.out];simp⟩
    rw[this]
    rfl
   |true =>
    go_wp2_with (first|(go_at_call 187;refine b3.out.mono ?_;rintro e w5 ⟨rfl,k5⟩;have K5:=hid k5;clear k5)|go_in)
    go_roundw
    case rel =>
     refine⟨j+1,by omega,by go_num,b2.out.trans K5.out,fun k x hk r=>?_⟩
     by_cases e:k=j
     ·subst e;rw[ao.out]at r;injection r with r;rw[<-r];exact HT.out
     ·exact b5.out k x (by omega) r
    case measure=>simp[intOf];omega
  ·obtain rfl:m=j:=by omega
   have z:AT.all (bndB F)=true:=by
    rw[List.all_eq_true];intro x r;obtain⟨k,hk⟩:=List.getElem?_of_mem ((M.out x).2 r);exact b5.out k x (by have:=(List.getElem?_eq_some_iff.1 hk).1;have:=HM.out;omega) hk
   have bp:Hid (R=TR):=hid (by rw[N.out,z,Bool.true_and]);have kr:=b9.out.trans d;clear z d;go_upto_region 10 with(fail);have q0:=Q0.out;have q1:=Q1.out;have q2:=Q2.out;have q3:=Q3.out;have q4:=Q4.out;refine ar [] (fun w'=>Kept [] W w') (by kernel_rfl) kr.drew (fun hH=>?_);obtain⟨w5,a1⟩:∃y,wr.drew=y:=⟨_,rfl⟩;have aa:Kept [] w4 w5:=a1▸bl.out.drew;rw[a1]at hH ⊢;clear a1 kr;refine ah [] (i:=0) (v:=?tv0) rfl (by kernel_rfl) (by kernel_rfl) (by kernel_rfl) (by kernel_rfl) (fun _ _ _ h=>h) (Or.inl ⟨by rfl,?ty0⟩) hH ?tr0
   case ty0=>intro w' g;(try dsimp only at g);go_simp;first|done|with_reducible rfl
   (try simp only[Act.put,List.setIfInBounds_toArray,List.set_cons_zero,List.set_cons_succ])
   refine ah [] (i:=1) (v:=?tv1) rfl (by kernel_rfl) (by kernel_rfl) (by kernel_rfl) (by kernel_rfl) (fun _ _ _ h=>h) (Or.inl ⟨by rfl,?ty1⟩) hH ?tr1
   case ty1=>intro w' g;(try dsimp only at g);go_simp;first|done|with_reducible rfl
   (try simp only[Act.put,List.setIfInBounds_toArray,List.set_cons_zero,List.set_cons_succ])
   have b1:=hid (Q.out.kept aa (by simp));have bn:=hid (yB w5 mb);have H5:=hid hH;clear aa;refine ai (rs:=[2]) (by kernel_rfl) (by simp) ?_;refine ae.cons rfl (fun K hK=>?_) ae.nil;go_simp;go_wp2_with (first|(go_at_call 189;refine bn.out.mono ?_;rintro e w6 ⟨rfl,k6,an⟩;have K6:=hid k6;have bo:=hid an;clear k6 an)|go_in);refine hK.out _ _ (H5.out.trans K6.out) (fun hH=>?_);clear hK K
   (try simp only[Act.put,List.setIfInBounds_toArray,List.set_cons_zero,List.set_cons_succ])
   have L:=hid (G.out w6 mb _ w5.heap.size _ (q.out.trans hH) (b1.out.kept K6.out (by simp)) bo.out);have H6:=hid hH;refine ai (rs:=[3]) (by kernel_rfl) (by simp) ?_;refine ae.cons rfl (fun K hK=>?_) ae.nil;go_simp;go_wp2_with (first|(go_at_call 188;refine L.out.mono ?_;rintro e w7 ⟨rfl,k7⟩;have K7:=hid k7;clear k7)|go_in);refine hK.out _ _ (H6.out.trans K7.out) (fun hH=>?_);clear hK K
   (try simp only[Act.put,List.setIfInBounds_toArray,List.set_cons_zero,List.set_cons_succ])
   refine ah [] (i:=4) (v:=?tv4) rfl (by kernel_rfl) (by kernel_rfl) (by kernel_rfl) (by kernel_rfl) (fun _ _ _ h=>h) (Or.inl ⟨by rfl,?ty4⟩) hH ?tr4
   case ty4=>intro w' g;(try dsimp only at g);go_simp;first|done|with_reducible rfl
   (try simp only[Act.put,List.setIfInBounds_toArray,List.set_cons_zero,List.set_cons_succ])
   refine ah [] (i:=5) (v:=?tv5) rfl (by kernel_rfl) (by kernel_rfl) (by kernel_rfl) (by kernel_rfl) (fun _ _ _ h=>h) (Or.inl ⟨by rfl,?ty5⟩) hH ?tr5
   case ty5=>intro w' g;(try dsimp only at g);go_simp;first|done|with_reducible rfl
   (try simp only[Act.put,List.setIfInBounds_toArray,List.set_cons_zero,List.set_cons_succ])
   refine ak (by kernel_rfl) ?_ _;go_wp2_with fail
   go_ret2
   exact⟨q.out.trans hH,TR,0,rfl,by rw[bp.out];simp⟩
end Go.Proofs.YtpcmamoomaddoaaGreatDoor
