import Derived.Test.YtpcmamoomaddoaaGreatDoorPd
import Derived.Test.YtpcmamoomaddoaaGreatDoorShelf2
import Derived.Deep.RegionHeld3
import Derived.Deep.DeepCutAuto
import Derived.Recover
set_option maxRecDepth 100000
set_option maxHeartbeats 32000000
namespace Go.Proofs.YtpcmamoomaddoaaGreatDoor
open Go.RowKit Go.Sort
open Go.Proofs.Tryz
open Lib(hid)
theorem xj(x y:List UInt8):cmpS x y=if Op.bytesLess x y then -1 else if(!x==y)then 1 else 0:=by
 unfold cmpS
 rw[bytesLess_eq]
 by_cases h:x < y
 ·simp[h]
 ·by_cases e:x=y
  ·subst e;simp[h]
  ·have:y < x:=by
    by_cases h2:y < x
    ·exact h2
    ·exact absurd (List.le_antisymm (List.not_lt.1 h2) (List.not_lt.1 h)) e
   simp[h,e,this]
theorem th(x:Value)(s:List UInt8)(hx:x=.string ⟨s.toArray⟩)(w:World) :
  Calls prog 137 #[x] w fun e w'=>e=.returned (.bool false)/\w'=w:=by
 subst hx
 go_enter func137,ntmps137
 go_wp2_with fail;go_ret
 simp
theorem kN(x y:List UInt8)(w:World) :
  Calls prog 89 #[.string ⟨x.toArray⟩,.string ⟨y.toArray⟩] w fun e w'=>e=.returned (.int .i64 (cmpS x y))/\w'=w:=by
 obtain⟨r,hr⟩:∃r,cmpS x y=r:=⟨_,rfl⟩;rw[hr];rw[xj]at hr;have HR:=hid hr;clear hr
 go_enter func89,ntmps89
 go_wp2_with (go_at_call 137;refine(th _ _ rfl _).mono ?_;rintro e w' ⟨rfl,rfl⟩)
 all_goals (go_ret;refine⟨?_,rfl⟩;have hr:=HR.out;clear HR;first
  |(rw[if_pos ‹Op.bytesLess x y=true›]at hr;subst hr;rfl)
  |(rw[if_neg (by simp[‹Op.bytesLess x y=false›])]at hr;first
    |(rw[if_pos ‹(!x==y)=true›]at hr;subst hr;rfl)
    |(rw[if_neg (by simp[‹(!x==y)=false›])]at hr;subst hr;rfl)))
theorem yi(a b c:Int){w:World}{g:Nat}(hb:Blk w g 3 #[.int .i64 a,.int .i64 b,.int .i64 c]) :
  Calls prog 204 #[.slice (some ⟨g,0,none⟩) 3 3] w fun e w'=>e=.returned (.int .i64 (if a≠0 then a else if b≠0 then b else c))/\w'=w:=by
 obtain⟨r,h⟩:∃r,(if a≠0 then a else if b≠0 then b else c)=r:=⟨_,rfl⟩;rw[h];have f:=hid h;clear h;have v:w.cell? ⟨g,0,none⟩=some (.int .i64 a):=hb.cell 0;have u:w.cell? ⟨g,1,none⟩=some (.int .i64 b):=hb.cell 1;have t:w.cell? ⟨g,2,none⟩=some (.int .i64 c):=hb.cell 2;clear hb
 go_enter func204,ntmps204
 go_wp2_with fail
 go_loop [8] (fun i=>∃j:Nat,j<=3/\i=.int .i64 j/\(1<=j->a=0)/\(2<=j->b=0)/\(3<=j->c=0)) (fun i=>3 - (intOf i).toNat)
 case atStart=>exact⟨0,by omega,rfl,by omega,by omega,by omega⟩
 case round =>
  obtain⟨j,s,rfl,o,n,m⟩:=hrel;have l:=hid o;have p:=hid n;have q:=hid m;clear o n m
  rcases j with _|_|_|_|j
  ·by_cases d:a=0
   ·go_wp2_with fail;exact⟨⟨1,by omega,rfl,fun _=>d,by omega,by omega⟩,by decide⟩
   ·go_wp2_with fail;go_ret;refine⟨?_,rfl⟩;rw[<-f.out,if_pos d]
    rfl
  ·have d:=l.out (by omega)
   by_cases hb:b=0
   ·go_wp2_with fail;exact⟨⟨2,by omega,rfl,fun _=>d,fun _=>hb,by omega⟩,by decide⟩
   ·go_wp2_with fail;go_ret;refine⟨?_,rfl⟩;rw[<-f.out,if_neg (by simp[d]),if_pos hb]
    rfl
  ·have d:=l.out (by omega);have hb:=p.out (by omega)
   by_cases k:c=0
   ·go_wp2_with fail;exact⟨⟨3,by omega,rfl,fun _=>d,fun _=>hb,fun _=>k⟩,by decide⟩
   ·go_wp2_with fail;go_ret;refine⟨?_,rfl⟩;rw[<-f.out,if_neg (by simp[d]),if_neg (by simp[hb])]
    rfl
  ·have d:=l.out (by omega);have hb:=p.out (by omega);have k:=q.out (by omega);go_wp2_with fail;go_ret;refine⟨?_,rfl⟩;rw[<-f.out,if_neg (by simp[d]),if_neg (by simp[hb]),k]
   rfl
  ·omega
def cf3:K3->K3->Int:=lex2 cmpS (lex2 cmpS Lib.compareInt)
theorem yA:IsCmp cf3:=io.lex (io.lex xk)
def GD(W w':World):Prop:=∃q os,w'=grow (W.drewN q) os
theorem GD.refl(W:World):GD W W:=⟨0,#[],by rw[World.drewN_zero];simp[grow]⟩
theorem GD.drew{W w':World}(h:GD W w'):GD W w'.drew:=by
 obtain⟨q,os,rfl⟩:=h;exact⟨q+1,os,rfl⟩
theorem GD.alloc{W w':World}(h:GD W w')(o:Obj):GD W (w'.alloc o):=by
 obtain⟨q,os,rfl⟩:=h;exact⟨q,os++#[o],by rw[alloc_eq_grow,grow_grow]⟩
theorem GD.trans{a b c:World}(h:GD a b)(k:GD b c):GD a c:=by
 obtain⟨q,os,rfl⟩:=h;obtain⟨q',os',rfl⟩:=k;exact⟨q+q',os++os',by simp[grow,World.drewN,Nat.add_assoc]⟩
theorem GD.kept{a b:World}(h:GD a b):Kept [] a b:=by
 obtain⟨q,os,rfl⟩:=h;refine Kept.of_grown (row:=none) ⟨rfl,rfl,rfl,by simp,fun k hk _=>?_⟩ (fun j e=>by cases e);rw[heap_grow_old _ _ (by simpa using hk)]
 rfl
theorem xu(x y:K3)(w:World) :
  Calls prog 157 #[.agg (cells3 x).toArray,.agg (cells3 y).toArray] w fun e w'=>e=.returned (.int .i64 (cf3 x y))/\GD w w':=by
 obtain⟨d,c,g⟩:=x;obtain⟨b,a,f⟩:=y;have B:(cells3 (d,c,g)).toArray=#[.string ⟨d.toArray⟩,.string ⟨c.toArray⟩,.int .i64 g]:=rfl;have A:(cells3 (b,a,f)).toArray=#[.string ⟨b.toArray⟩,.string ⟨a.toArray⟩,.int .i64 f]:=rfl;rw[B,A];clear B A;obtain⟨W,t⟩:∃W,(w.alloc (.cells #[.string ⟨d.toArray⟩,.string ⟨c.toArray⟩,.int .i64 g] 182)).alloc (.cells #[.string ⟨b.toArray⟩,.string ⟨a.toArray⟩,.int .i64 f] 182)=W:=⟨_,rfl⟩;have s:GD w W:=t▸((GD.refl w).alloc _).alloc _;have i:Blk W w.heap.size 182 #[.string ⟨d.toArray⟩,.string ⟨c.toArray⟩,.int .i64 g]:=t▸(Blk.new _ _ _).alloc _;have h:Blk W (w.heap.size+1) 182 #[.string ⟨b.toArray⟩,.string ⟨a.toArray⟩,.int .i64 f]:=t▸Blk.new1 _ _ _ _;have Q:∀w',GD W w'->w'.cell? ⟨w.heap.size,0,none⟩=some (.string ⟨d.toArray⟩):=fun w' k=>(i.kept k.kept (by simp)).cell 0;have P:∀w',GD W w'->w'.cell? ⟨w.heap.size,1,none⟩=some (.string ⟨c.toArray⟩):=fun w' k=>(i.kept k.kept (by simp)).cell 1;have O:∀w',GD W w'->w'.cell? ⟨w.heap.size,2,none⟩=some (.int .i64 g):=fun w' k=>(i.kept k.kept (by simp)).cell 2;have N:∀w',GD W w'->w'.cell? ⟨w.heap.size+1,0,none⟩=some (.string ⟨b.toArray⟩):=fun w' k=>(h.kept k.kept (by simp)).cell 0;have M:∀w',GD W w'->w'.cell? ⟨w.heap.size+1,1,none⟩=some (.string ⟨a.toArray⟩):=fun w' k=>(h.kept k.kept (by simp)).cell 1;have L:∀w',GD W w'->w'.cell? ⟨w.heap.size+1,2,none⟩=some (.int .i64 f):=fun w' k=>(h.kept k.kept (by simp)).cell 2;have I:=hid s;have F:=hid t
 have j:(if cmpS d b≠0 then cmpS d b else if cmpS c a≠0 then cmpS c a else Lib.compareInt g f)=cf3 (d,c,g) (b,a,f):=by simp only[cf3,lex2]
 obtain⟨R,z⟩:∃R,cf3 (d,c,g) (b,a,f)=R:=⟨_,rfl⟩;rw[z]at j ⊢;have E:=hid (fun w'=>kN d b w');have D:=hid (fun w'=>kN c a w');have C:=hid (fun w'=>Tryz.cmp_Compare_int g f w');obtain⟨n,q⟩:∃r,cmpS d b=r:=⟨_,rfl⟩;obtain⟨m,p⟩:∃r,cmpS c a=r:=⟨_,rfl⟩;obtain⟨l,o⟩:∃r,Lib.compareInt g f=r:=⟨_,rfl⟩;rw[q]at j E;rw[p]at j D;rw[o]at j C
 have J:Hid (∀w':World,Calls prog 204 #[.slice (some ⟨w'.heap.size,0,none⟩) 3 3] (w'.alloc (.cells #[.int .i64 n,.int .i64 m,.int .i64 l] 3)).drew fun e w2=>e=.returned (.int .i64 R)/\w2=(w'.alloc (.cells #[.int .i64 n,.int .i64 m,.int .i64 l] 3)).drew):=fun w'=>by
  have:=yi n m l (Blk.new w' 3 #[.int .i64 n,.int .i64 m,.int .i64 l]).drew
  rwa [j]at this
 clear t s i h j z q p o
 go_enter func157,ntmps157
 go_upto_region 1 with(fail);have hW':=F.out;rw[hW'];clear hW'
 go_region_held3 (fun w'=>GD W w') (repeat (first|(with_reducible assumption)|(with_reducible exact GD.refl _)|(with_reducible refine GD.drew ?_)|(with_reducible refine GD.alloc ?_ _)))
  (first
   |(go_at_call 89;(with_reducible refine(E.out _).mono ?_);rintro e u ⟨rfl,rfl⟩)
   |(go_at_call 89;(with_reducible refine(D.out _).mono ?_);rintro e u ⟨rfl,rfl⟩)
   |(go_at_call 205;(with_reducible refine(C.out _).mono ?_);rintro e u ⟨rfl,rfl⟩)
   |(go_at_call 204;(with_reducible refine(J.out _).mono ?_);rintro e u ⟨rfl,rfl⟩)
   |fail)
 have v:GD W (W.alloc (.cells #[.int .i64 n,.int .i64 m,.int .i64 l] 3)).drew:=by assumption
 have G:=hid (I.out.trans v);clear v;go_wp2_with fail;go_ret;exact⟨rfl,G.out⟩
end Go.Proofs.YtpcmamoomaddoaaGreatDoor
namespace Go.Proofs.YtpcmamoomaddoaaGreatDoor
open Go.RowKit Go.Maps Go.Sort Go.Shelf Go.Lib
open Go.Proofs.Tryz
theorem rf{α:Type}[Inhabited α]{l:List α}{d':Array α}(h:PermIn 0 l.toArray.size l.toArray d'):d'.toList.Perm l:=by
 obtain⟨h1,_,h3⟩:=h
 have e1:(d'.extract 0 l.toArray.size)=d':=by rw[<-h1];simp
 rw[e1]at h3
 simpa using h3
theorem qK(x:K3):∀v∈cells3 x,v.oneCell'=true:=by
 intro v hv;simp only[cells3,List.mem_cons,List.not_mem_nil,or_false]at hv
 rcases hv with rfl|rfl|rfl <;> rfl
theorem xU{w:World}{base:Nat}{v:Value}{l:List K3}(h:w.ownsRow base 182 3 v l.length (cw l))(hl:l.length < 4611686018427387904) :
  Calls prog 202 #[v,.func (.func 157) #[] #[]] w fun e w'=>e=.returned (.tuple #[])/\∃l':List K3,l'.Perm l/\w'.ownsRow base 182 3 v l.length (cw l')/\Kept (obl v) w w':=by
 rcases h.2 with⟨c,m⟩|⟨g,d,q,c,_⟩
 ·subst c;have o:l=[]:=List.eq_nil_of_length_eq_zero m;subst o;refine(AnyF.slices_SortFunc_none Tryz.sf202 none 0 _ w).mono ?_;rintro e w' ⟨rfl,rfl⟩;exact⟨rfl,[],List.Perm.refl _,h,Kept.refl _ _⟩
 ·subst c;have b:∀x,(cells3 x).length=3:=fun _=>rfl;obtain⟨_,_,hH,k⟩:=fU (l':=l) (n:=0) (os:=#[]) b (by decide) h rfl;have p:∀args w,(callFunc 157 args).run prog w=.ok (.enter 157 args) w:=enters_of func157 (by kernel_rfl) rfl;have:=AnyQ.slices_SortFunc Tryz.sf202 3 isAgg182 sizeOf182 cells3 b qK cf3 yA.swo 157 #[] g 0 d l.toArray w p (fun _ _ _ _ x y=>xu x y _) hH k (by simpa using hl);refine Calls.mono this ?_;rintro e w' ⟨rfl,d',n,os,j,_,rfl⟩;have a:=rf j;obtain⟨i,f,_,_⟩:=fU (l':=d'.toList) (n:=n) (os:=os) b (by decide) h a.length_eq;exact⟨rfl,d'.toList,a,i,f⟩
end Go.Proofs.YtpcmamoomaddoaaGreatDoor
namespace Go.Proofs.YtpcmamoomaddoaaGreatDoor
open Go.RowKit
open Go.Proofs.Tryz
open Lib(hid)
theorem pP{w2:World}{tmps:Array Value}{v0 v1 v2 v3 v4 X:Value}{b:Nat}{R:Ending->World->Prop}(hb:Blk w2 b 46 #[v0,v1,v2,v3,v4])(h2:tmps[6]?.getD undef=.pointer (some ⟨b,0,none⟩))
  (hX:.agg #[v0,v1,v2,v3,v4]=X) (hR:R (.returned X) w2) :
  bodyPost prog Tryz.f235 R Exit.ret { tmps:=tmps,defers:=[] } w2:=by
 subst hX;have c0:w2.cell? ⟨b,0,none⟩=some v0:=hb.cell 0;have c1:w2.cell? ⟨b,1,none⟩=some v1:=hb.cell 1;have c2:w2.cell? ⟨b,2,none⟩=some v2:=hb.cell 2;have c3:w2.cell? ⟨b,3,none⟩=some v3:=hb.cell 3;have c4:w2.cell? ⟨b,4,none⟩=some v4:=hb.cell 4;refine bodyPost_ret (v:=.agg #[v0,v1,v2,v3,v4]) ?_ rfl hR;simp only[results,results235]
 simp[go_sem,h2,c0,c1,c2,c3,c4]
def RngE(w:World)(cs:List Value)(b:Bool)(e:Ending)(w':World):Prop :=
 match b with
 |false=>kZ [] w 3 e w'
 |true=>e=.returned (.agg cs.toArray)/\Kept [] w w'
theorem bh{p:Pd}:∀ {l:List Pd},p∈l->sizeB p<=sizeL l
 |q::l,h=>by
  rw[sizeL]
  rcases List.mem_cons.1 h with rfl|h
  ·omega
  ·have:=bh h;omega
theorem bW{B:Nat}{W0:World}{rb:Nat}{ts:List Tok}{a:Option Addr}{c:Nat}{z:Int}{i:Nat}(pos:Nat)(hpos:pos<=ts.length):∀(m:Nat) (p:Pd) (cs:List Value) (w:World),sizeB p<=m->Ps B W0 rb ts a c z w i->PdR w cs p ->
  Calls prog 235 #[.pointer (some ⟨rb,0,none⟩),.agg cs.toArray,.int .i64 (pos:Int)] w (RngE w cs (aW p)):=by
 intro m
 induction m with
 |zero=>intro p cs w hm;cases p;rw[sizeB]at hm;omega
 |succ m ih =>
  rintro⟨L,l,r,n,f⟩ cs w hm h hp;obtain⟨O,N,rfl,y⟩:=hp.rows;rw[sizeB]at hm;have aa:=h.small;have a2:=y.form;obtain⟨_,_,a3,ab,_⟩:=a2;obtain⟨W,X⟩:∃W,(w.alloc (.cells #[.int .i64 L,.string ⟨l.toArray⟩,.string ⟨r.toArray⟩,.int .i64 n,.slice O f.length N] 46)).alloc (.cells #[.int .i64 0,.string ⟨#[]⟩,.string ⟨#[]⟩,.int .i64 0,.slice none 0 0] 46)=W:=⟨_,rfl⟩;have A:Kept [] w W:=X▸((Kept.refl _ _).alloc _).alloc _;have D:Blk W w.heap.size 46 #[.int .i64 L,.string ⟨l.toArray⟩,.string ⟨r.toArray⟩,.int .i64 n,.slice O f.length N]:=X▸(Blk.new _ _ _).alloc _;have Y:Blk W (w.heap.size+1) 46 #[.int .i64 0,.string ⟨#[]⟩,.string ⟨#[]⟩,.int .i64 0,.slice none 0 0]:=X▸Blk.new1 _ _ _ _;have hw:=h.step A;have q3:W.cell? ⟨w.heap.size,3,none⟩=some (.int .i64 n):=D.cell 3;have q4:W.cell? ⟨w.heap.size,4,none⟩=some (.slice O f.length N):=D.cell 4;have HF:=hid (dD hw 3 pos hpos (pos:Int) rfl);have E:=hid A;have a9:=hid D;have a8:=hid Y;have HW:=hid X;have HH:=hid hw;have Z:=hid (y.kept (fun _ _ x=>PdR.kept A x) A);have HR:Hid (aW (.node L l r n f)=(decide (-1099511627776<=n)&&decide (n < 1099511627776)&&eX f)):=hid (by rw[aW]);obtain⟨R,hR⟩:∃R,aW (.node L l r n f)=R:=⟨_,rfl⟩;rw[hR]at HR ⊢;clear X A D Y hw y hR h a3 hp
  show Calls _ _ #[.pointer (some ⟨rb,0,none⟩),.agg #[.int .i64 L,.string ⟨l.toArray⟩,.string ⟨r.toArray⟩,.int .i64 n,.slice O f.length N],.int .i64 (pos:Int)] _ _
  go_enter func235,ntmps235
  go_upto_region 1 with(fail);have hW':=HW.out;rw[hW'];clear hW'
  by_cases hlo:n < -1099511627776
  ·have t:=HR.out;rw[show decide (-1099511627776<=n)=false by simp;omega]at t;simp only[Bool.false_and]at t;subst t;go_wp2_with (go_at_call 72;refine HF.out.mono ?_;rintro e w6 ⟨⟨p,rfl⟩,J⟩);exact⟨rfl,⟨p,rfl⟩,E.out.trans J⟩
  ·by_cases hhi:1099511627776<=n
   ·have t:=HR.out;rw[show decide (n < 1099511627776)=false by simp;omega]at t;simp only[Bool.and_false,Bool.false_and]at t;subst t;go_wp2_with (go_at_call 72;refine HF.out.mono ?_;rintro e w6 ⟨⟨p,rfl⟩,J⟩);exact⟨rfl,⟨p,rfl⟩,E.out.trans J⟩
   ·have t:=HR.out;rw[show decide (n < 1099511627776)=true by simp;omega,show decide (-1099511627776<=n)=true by simp;omega]at t;simp only[Bool.true_and]at t;have a0:=hid t;clear t;go_wp2_with fail
    go_loopw [23] (fun v wr=>∃j:Nat,j<=f.length/\v=.int .i64 j/\Kept [] W wr/\(∀q∈f.take j,aW q=true)) (fun v _=>f.length - (intOf v).toNat)
    case atStart=>exact⟨0,Nat.zero_le _,rfl,Kept.refl _ _,by simp⟩
    case round =>
     obtain⟨j,hj,rfl,g,G⟩:=hrel;have ac:=hid g;have I:=hid G;clear G
     by_cases hlt:j < f.length
     ·have hlt':(j:Int) < (f.length:Int):=by omega
      have Q:=Z.out.kept (fun _ _ x=>PdR.kept g x) g;obtain⟨b,u,rfl,hc⟩:=Q.at_ (by omega);obtain⟨cq,h1,h2,M⟩:=hc j f[j] (List.getElem?_eq_getElem hlt);obtain⟨q,k⟩:∃q,f[j]=q:=⟨_,rfl⟩;rw[k]at h2
      have a1:sizeB q<=m:=by have:=bh (k▸List.getElem_mem hlt:q∈f);omega
      have P:f.take (j+1)=f.take j++[q]:=by rw[List.take_succ_eq_append_getElem hlt,k]
      have T:aW q=false->R=false:=by
       intro hf;rw[a0.out]
       cases hh:eX f
       ·rfl
       ·have:=(ei f).1 hh q (k▸List.getElem_mem hlt)
        rw[hf]at this;cases this
      have a5:=hid P;have a6:=hid T;clear P T k hc Q;have U:=HH.out.step g;obtain⟨kd',l',r',cc',ks'⟩:=q;obtain⟨ka',kc',rfl,_⟩:=h2.rows;have y0:wr.cell? ⟨b,u+j*5,none⟩=some (.int .i64 kd'):=M 0 _ (by decide) rfl;have y1:wr.cell? ⟨b,u+j*5+1,none⟩=some (.string ⟨l'.toArray⟩):=M 1 _ (by decide) rfl;have y2:wr.cell? ⟨b,u+j*5+2,none⟩=some (.string ⟨r'.toArray⟩):=M 2 _ (by decide) rfl;have y3:wr.cell? ⟨b,u+j*5+3,none⟩=some (.int .i64 cc'):=M 3 _ (by decide) rfl;have y4:wr.cell? ⟨b,u+j*5+4,none⟩=some (.slice ka' ks'.length kc'):=M 4 _ (by decide) rfl;obtain⟨F,C⟩:∃x,wr.alloc (.cells #[(.int .i64 kd'),(.string ⟨l'.toArray⟩),(.string ⟨r'.toArray⟩),(.int .i64 cc'),(.slice ka' ks'.length kc')] 46)=x:=⟨_,rfl⟩;have kA:Kept [] wr F:=C▸(Kept.refl _ _).alloc _;have s:Blk F wr.heap.size 46 #[(.int .i64 kd'),(.string ⟨l'.toArray⟩),(.string ⟨r'.toArray⟩),(.int .i64 cc'),(.slice ka' ks'.length kc')]:=C▸Blk.new _ _ _;have IH:=hid (ih (.node kd' l' r' cc' ks') _ F a1 (U.step kA) (PdR.kept kA h2));have a4:=hid C;have KA:=hid (g.trans kA);have x0:F.cell? ⟨wr.heap.size,0,none⟩=some (.int .i64 kd'):=s.cell 0;have x1:F.cell? ⟨wr.heap.size,1,none⟩=some (.string ⟨l'.toArray⟩):=s.cell 1;have x2:F.cell? ⟨wr.heap.size,2,none⟩=some (.string ⟨r'.toArray⟩):=s.cell 2;have x3:F.cell? ⟨wr.heap.size,3,none⟩=some (.int .i64 cc'):=s.cell 3;have x4:F.cell? ⟨wr.heap.size,4,none⟩=some (.slice ka' ks'.length kc'):=s.cell 4;clear h1 h2 M C kA s U
      go_upto_region 6 with(fail);have hwA':=a4.out;rw[hwA'];clear hwA' y0 y1 y2 y3 y4
      cases hrq:aW (.node kd' l' r' cc' ks')
      ·rw[hrq]at IH;have hf:=a6.out hrq;subst hf;go_wp2_with (go_at_call 235;refine IH.out.mono ?_;unfold RngE;rintro e w6 ⟨⟨p,rfl⟩,J⟩);exact⟨rfl,⟨p,rfl⟩,E.out.trans (KA.out.trans J)⟩
      ·rw[hrq]at IH;go_wp2_with (go_at_call 235;refine IH.out.mono ?_;unfold RngE;rintro e w6 ⟨rfl,J⟩)
       go_roundw
       case rel =>
        refine⟨j+1,by omega,by go_num,KA.out.trans J,fun q k=>?_⟩;rw[a5.out]at k
        rcases List.mem_append.1 k with k|k
        ·exact I.out q k
        ·rw[List.mem_singleton]at k;exact k▸hrq
       case measure=>simp[intOf];omega
     ·obtain rfl:j=f.length:=by omega
      have V:R=true:=by
       rw[a0.out,ei];intro q k;exact I.out q (by rw[List.take_length];exact k)
      subst V;have o:=a9.out.kept g (by simp);have d:=a8.out.kept g (by simp);have u0:wr.cell? ⟨w.heap.size,0,none⟩=some (.int .i64 L):=o.cell 0;have u1:wr.cell? ⟨w.heap.size,1,none⟩=some (.string ⟨l.toArray⟩):=o.cell 1;have u2:wr.cell? ⟨w.heap.size,2,none⟩=some (.string ⟨r.toArray⟩):=o.cell 2;have u3:wr.cell? ⟨w.heap.size,3,none⟩=some (.int .i64 n):=o.cell 3;have u4:wr.cell? ⟨w.heap.size,4,none⟩=some (.slice O f.length N):=o.cell 4;have t0:wr.cell? ⟨w.heap.size+1,0,none⟩=some (.int .i64 0):=d.cell 0;have t1:wr.cell? ⟨w.heap.size+1,1,none⟩=some (.string ⟨#[]⟩):=d.cell 1;have t2:wr.cell? ⟨w.heap.size+1,2,none⟩=some (.string ⟨#[]⟩):=d.cell 2;have t3:wr.cell? ⟨w.heap.size+1,3,none⟩=some (.int .i64 0):=d.cell 3;have t4:wr.cell? ⟨w.heap.size+1,4,none⟩=some (.slice none 0 0):=d.cell 4;have f0:=d.frozen 0;have f1:=d.frozen 1;have f2:=d.frozen 2;have f3:=d.frozen 3;have f4:=d.frozen 4;have a7:=hid (fun v0 v1 v2 v3 v4=>((((d.set_ 0 v0).set_ 1 v1).set_ 2 v2).set_ 3 v3).set_ 4 v4);have KK:=hid (E.out.trans g);clear o d;go_wp2_with fail;refine pP (a7.out _ _ _ _ _) rfl rfl ⟨rfl,?_⟩;exact((((KK.out.setCell (Or.inr (Nat.le_succ _)) _).setCell (Or.inr (Nat.le_succ _)) _).setCell (Or.inr (Nat.le_succ _)) _).setCell (Or.inr (Nat.le_succ _)) _).setCell (Or.inr (Nat.le_succ _)) _
theorem Blk.new3(w:World)(o p q:Obj)(T:TypeId)(a:Array Value):Blk ((((w.alloc o).alloc p).alloc q).alloc (.cells a T)) (w.heap.size+1+1+1) T a:=by
 have:=Blk.new (((w.alloc o).alloc p).alloc q) T a;rw[World.size_alloc,World.size_alloc,World.size_alloc]at this;exact this
theorem Blk.new4(w:World)(o p q r:Obj)(T:TypeId)(a:Array Value):Blk (((((w.alloc o).alloc p).alloc q).alloc r).alloc (.cells a T)) (w.heap.size+1+1+1+1) T a:=by
 have:=Blk.new ((((w.alloc o).alloc p).alloc q).alloc r) T a;rw[World.size_alloc,World.size_alloc,World.size_alloc,World.size_alloc]at this;exact this
theorem vB(k l:Int)(w:World) :
  Calls prog 256 #[.int .i64 k,.int .i64 l] w fun e w' =>
   e=.returned (.func (.func 257) #[] #[.pointer (some ⟨w.heap.size,0,none⟩),.pointer (some ⟨w.heap.size+1,0,none⟩)])/\w'=(w.alloc (.cells #[.int .i64 k] 3)).alloc (.cells #[.int .i64 l] 3):=by
 have hmf:∀(fn:Fn) (first cap:Array Value) (w:World),(Instr.makeFunc fn first cap).run prog w=.ok (.func fn first cap) w:=fun _ _ _ _=>rfl
 go_enter func256,ntmps256
 go_wp2_with fail;go_ret;exact⟨rfl,rfl⟩
/-- the six signs with what they make, in block g; the boxes of the last two in blocks h .. h + 3 -/
def rZ(h:Nat):List Value :=
 [.string ⟨#[60,61]⟩,.func (.func 258) #[] #[],.string ⟨#[60]⟩,.func (.func 259) #[] #[],.string ⟨#[62,61]⟩,.func (.func 260) #[] #[],.string ⟨#[62]⟩,.func (.func 261) #[] #[],
  .string ⟨#[61]⟩,.func (.func 257) #[] #[.pointer (some ⟨h,0,none⟩),.pointer (some ⟨h+1,0,none⟩)],.string ⟨#[33,61]⟩,.func (.func 257) #[] #[.pointer (some ⟨h+2,0,none⟩),.pointer (some ⟨h+3,0,none⟩)]]
theorem rW(w:World) :
  Calls prog 236 #[] w fun e w'=>e=.returned (.slice (some ⟨w.heap.size+4,0,none⟩) 6 6)/\Kept [] w w'/\Blk w' (w.heap.size+4) 283 (rZ w.heap.size).toArray /\
   w'.cell? ⟨w.heap.size,0,none⟩=some (.int .i64 1)/\w'.cell? ⟨w.heap.size+1,0,none⟩=some (.int .i64 0)/\w'.cell? ⟨w.heap.size+2,0,none⟩=some (.int .i64 2)/\w'.cell? ⟨w.heap.size+3,0,none⟩=some (.int .i64 1):=by
 go_enter func236,ntmps236
 go_wp2_with (go_at_call 256;refine(vB _ _ _).mono ?_;rintro e a ⟨rfl,rfl⟩);go_ret;refine⟨rfl,(((((Kept.refl _ _).alloc _).alloc _).alloc _).alloc _).alloc _,Blk.new4 _ _ _ _ _ _ _,?_,?_,?_,?_⟩
 ·exact(((((Blk.new w 3 #[.int .i64 1]).alloc _).alloc _).alloc _).alloc _).cell 0
 ·exact((((Blk.new1 w _ 3 #[.int .i64 0]).alloc _).alloc _).alloc _).cell 0
 ·exact(((Blk.new2 w _ _ 3 #[.int .i64 2]).alloc _).alloc _).cell 0
 ·exact((Blk.new3 w _ _ _ 3 #[.int .i64 1]).alloc _).cell 0
theorem um{w2:World}{tmps:Array Value}{v0 v1 v2 v3 v4 X:Value}{b:Nat}{R:Ending->World->Prop}(hb:Blk w2 b 46 #[v0,v1,v2,v3,v4])(h2:tmps[4]?.getD undef=.pointer (some ⟨b,0,none⟩))
  (hX:.agg #[v0,v1,v2,v3,v4]=X) (hR:R (.returned X) w2) :
  bodyPost prog Tryz.f258 R Exit.ret { tmps:=tmps,defers:=[] } w2:=by
 subst hX;have c0:w2.cell? ⟨b,0,none⟩=some v0:=hb.cell 0;have c1:w2.cell? ⟨b,1,none⟩=some v1:=hb.cell 1;have c2:w2.cell? ⟨b,2,none⟩=some v2:=hb.cell 2;have c3:w2.cell? ⟨b,3,none⟩=some v3:=hb.cell 3;have c4:w2.cell? ⟨b,4,none⟩=some v4:=hb.cell 4;refine bodyPost_ret (v:=.agg #[v0,v1,v2,v3,v4]) ?_ rfl hR;simp only[results,results258]
 simp[go_sem,h2,c0,c1,c2,c3,c4]
theorem uq(a b:Sm)(w:World)(ha:SmI a)(hb:SmI b) :
  Calls prog 258 #[.agg #[.string ⟨a.name.toArray⟩,.int .i64 a.off],.agg #[.string ⟨b.name.toArray⟩,.int .i64 b.off]] w fun e w'=>∃v,e=.returned v/\Kept [] w w'/\PdN w.heap.size w' v (aJ a b 0):=by
 obtain⟨W,g⟩:∃W,((w.alloc (.cells #[.string ⟨a.name.toArray⟩,.int .i64 a.off] 252)).alloc (.cells #[.string ⟨b.name.toArray⟩,.int .i64 b.off] 252)).alloc (.cells #[.int .i64 0,.string ⟨#[]⟩,.string ⟨#[]⟩,.int .i64 0,.slice none 0 0] 46)=W:=⟨_,rfl⟩;have i:Kept [] w W:=g▸(((Kept.refl _ _).alloc _).alloc _).alloc _;have f:Blk W w.heap.size 252 #[.string ⟨a.name.toArray⟩,.int .i64 a.off]:=g▸((Blk.new _ _ _).alloc _).alloc _;have d:Blk W (w.heap.size+1) 252 #[.string ⟨b.name.toArray⟩,.int .i64 b.off]:=g▸(Blk.new1 _ _ _ _).alloc _;have j:Blk W (w.heap.size+1+1) 46 #[.int .i64 0,.string ⟨#[]⟩,.string ⟨#[]⟩,.int .i64 0,.slice none 0 0]:=g▸Blk.new2 _ _ _ _ _;have q:W.cell? ⟨w.heap.size,0,none⟩=some (.string ⟨a.name.toArray⟩):=f.cell 0;have p:W.cell? ⟨w.heap.size,1,none⟩=some (.int .i64 a.off):=f.cell 1;have o:W.cell? ⟨w.heap.size+1,0,none⟩=some (.string ⟨b.name.toArray⟩):=d.cell 0;have n:W.cell? ⟨w.heap.size+1,1,none⟩=some (.int .i64 b.off):=d.cell 1;have s:=hid (dA a b 0 W ha hb (by decide));have u:=hid j;have t:=hid i;have r:=hid g;clear g i f d j
 go_enter func258,ntmps258
 go_upto_region 1 with(fail);have hW':=r.out;rw[hW'];clear hW';go_wp2_with (go_at_call 234;refine s.out.mono ?_;rintro e h ⟨rfl,k⟩;have c:=u.out.kept k (by simp);have G:h.cell? ⟨w.heap.size+1+1,0,none⟩=some (.int .i64 0):=c.cell 0;have F:h.cell? ⟨w.heap.size+1+1,1,none⟩=some (.string ⟨#[]⟩):=c.cell 1;have E:h.cell? ⟨w.heap.size+1+1,2,none⟩=some (.string ⟨#[]⟩):=c.cell 2;have D:h.cell? ⟨w.heap.size+1+1,3,none⟩=some (.int .i64 0):=c.cell 3;have C:h.cell? ⟨w.heap.size+1+1,4,none⟩=some (.slice none 0 0):=c.cell 4;have B:=c.frozen 0;have A:=c.frozen 1;have z:=c.frozen 2;have y:=c.frozen 3;have x:=c.frozen 4;have m:=hid c;have l:=hid (t.out.trans k);clear k c q p o n);refine um (((((m.out.set_ 0 _).set_ 1 _).set_ 2 _).set_ 3 _).set_ 4 _) rfl rfl ⟨_,rfl,?_,by unfold aJ;rw[Int.sub_zero];exact PdN.atom _ _ _ _ _⟩;exact((((l.out.setCell (Or.inr (Nat.le_add_right _ 2)) _).setCell (Or.inr (Nat.le_add_right _ 2)) _).setCell (Or.inr (Nat.le_add_right _ 2)) _).setCell (Or.inr (Nat.le_add_right _ 2)) _).setCell (Or.inr (Nat.le_add_right _ 2)) _
theorem uk{w2:World}{tmps:Array Value}{v0 v1 v2 v3 v4 X:Value}{b:Nat}{R:Ending->World->Prop}(hb:Blk w2 b 46 #[v0,v1,v2,v3,v4])(h2:tmps[4]?.getD undef=.pointer (some ⟨b,0,none⟩))
  (hX:.agg #[v0,v1,v2,v3,v4]=X) (hR:R (.returned X) w2) :
  bodyPost prog Tryz.f259 R Exit.ret { tmps:=tmps,defers:=[] } w2:=by
 subst hX;have c0:w2.cell? ⟨b,0,none⟩=some v0:=hb.cell 0;have c1:w2.cell? ⟨b,1,none⟩=some v1:=hb.cell 1;have c2:w2.cell? ⟨b,2,none⟩=some v2:=hb.cell 2;have c3:w2.cell? ⟨b,3,none⟩=some v3:=hb.cell 3;have c4:w2.cell? ⟨b,4,none⟩=some v4:=hb.cell 4;refine bodyPost_ret (v:=.agg #[v0,v1,v2,v3,v4]) ?_ rfl hR;simp only[results,results259]
 simp[go_sem,h2,c0,c1,c2,c3,c4]
theorem ul(a b:Sm)(w:World)(ha:SmI a)(hb:SmI b) :
  Calls prog 259 #[.agg #[.string ⟨a.name.toArray⟩,.int .i64 a.off],.agg #[.string ⟨b.name.toArray⟩,.int .i64 b.off]] w fun e w'=>∃v,e=.returned v/\Kept [] w w'/\PdN w.heap.size w' v (aJ a b 1):=by
 obtain⟨W,g⟩:∃W,((w.alloc (.cells #[.string ⟨a.name.toArray⟩,.int .i64 a.off] 252)).alloc (.cells #[.string ⟨b.name.toArray⟩,.int .i64 b.off] 252)).alloc (.cells #[.int .i64 0,.string ⟨#[]⟩,.string ⟨#[]⟩,.int .i64 0,.slice none 0 0] 46)=W:=⟨_,rfl⟩;have i:Kept [] w W:=g▸(((Kept.refl _ _).alloc _).alloc _).alloc _;have f:Blk W w.heap.size 252 #[.string ⟨a.name.toArray⟩,.int .i64 a.off]:=g▸((Blk.new _ _ _).alloc _).alloc _;have d:Blk W (w.heap.size+1) 252 #[.string ⟨b.name.toArray⟩,.int .i64 b.off]:=g▸(Blk.new1 _ _ _ _).alloc _;have j:Blk W (w.heap.size+1+1) 46 #[.int .i64 0,.string ⟨#[]⟩,.string ⟨#[]⟩,.int .i64 0,.slice none 0 0]:=g▸Blk.new2 _ _ _ _ _;have q:W.cell? ⟨w.heap.size,0,none⟩=some (.string ⟨a.name.toArray⟩):=f.cell 0;have p:W.cell? ⟨w.heap.size,1,none⟩=some (.int .i64 a.off):=f.cell 1;have o:W.cell? ⟨w.heap.size+1,0,none⟩=some (.string ⟨b.name.toArray⟩):=d.cell 0;have n:W.cell? ⟨w.heap.size+1,1,none⟩=some (.int .i64 b.off):=d.cell 1;have s:=hid (dA a b 1 W ha hb (by decide));have u:=hid j;have t:=hid i;have r:=hid g;clear g i f d j
 go_enter func259,ntmps259
 go_upto_region 1 with(fail);have hW':=r.out;rw[hW'];clear hW';go_wp2_with (go_at_call 234;refine s.out.mono ?_;rintro e h ⟨rfl,k⟩;have c:=u.out.kept k (by simp);have G:h.cell? ⟨w.heap.size+1+1,0,none⟩=some (.int .i64 0):=c.cell 0;have F:h.cell? ⟨w.heap.size+1+1,1,none⟩=some (.string ⟨#[]⟩):=c.cell 1;have E:h.cell? ⟨w.heap.size+1+1,2,none⟩=some (.string ⟨#[]⟩):=c.cell 2;have D:h.cell? ⟨w.heap.size+1+1,3,none⟩=some (.int .i64 0):=c.cell 3;have C:h.cell? ⟨w.heap.size+1+1,4,none⟩=some (.slice none 0 0):=c.cell 4;have B:=c.frozen 0;have A:=c.frozen 1;have z:=c.frozen 2;have y:=c.frozen 3;have x:=c.frozen 4;have m:=hid c;have l:=hid (t.out.trans k);clear k c q p o n);refine uk (((((m.out.set_ 0 _).set_ 1 _).set_ 2 _).set_ 3 _).set_ 4 _) rfl rfl ⟨_,rfl,?_,PdN.atom _ _ _ _ _⟩;exact((((l.out.setCell (Or.inr (Nat.le_add_right _ 2)) _).setCell (Or.inr (Nat.le_add_right _ 2)) _).setCell (Or.inr (Nat.le_add_right _ 2)) _).setCell (Or.inr (Nat.le_add_right _ 2)) _).setCell (Or.inr (Nat.le_add_right _ 2)) _
theorem ui{w2:World}{tmps:Array Value}{v0 v1 v2 v3 v4 X:Value}{b:Nat}{R:Ending->World->Prop}(hb:Blk w2 b 46 #[v0,v1,v2,v3,v4])(h2:tmps[4]?.getD undef=.pointer (some ⟨b,0,none⟩))
  (hX:.agg #[v0,v1,v2,v3,v4]=X) (hR:R (.returned X) w2) :
  bodyPost prog Tryz.f260 R Exit.ret { tmps:=tmps,defers:=[] } w2:=by
 subst hX;have c0:w2.cell? ⟨b,0,none⟩=some v0:=hb.cell 0;have c1:w2.cell? ⟨b,1,none⟩=some v1:=hb.cell 1;have c2:w2.cell? ⟨b,2,none⟩=some v2:=hb.cell 2;have c3:w2.cell? ⟨b,3,none⟩=some v3:=hb.cell 3;have c4:w2.cell? ⟨b,4,none⟩=some v4:=hb.cell 4;refine bodyPost_ret (v:=.agg #[v0,v1,v2,v3,v4]) ?_ rfl hR;simp only[results,results260]
 simp[go_sem,h2,c0,c1,c2,c3,c4]
theorem uj(a b:Sm)(w:World)(ha:SmI a)(hb:SmI b) :
  Calls prog 260 #[.agg #[.string ⟨a.name.toArray⟩,.int .i64 a.off],.agg #[.string ⟨b.name.toArray⟩,.int .i64 b.off]] w fun e w'=>∃v,e=.returned v/\Kept [] w w'/\PdN w.heap.size w' v (aJ b a 0):=by
 obtain⟨W,g⟩:∃W,((w.alloc (.cells #[.string ⟨a.name.toArray⟩,.int .i64 a.off] 252)).alloc (.cells #[.string ⟨b.name.toArray⟩,.int .i64 b.off] 252)).alloc (.cells #[.int .i64 0,.string ⟨#[]⟩,.string ⟨#[]⟩,.int .i64 0,.slice none 0 0] 46)=W:=⟨_,rfl⟩;have i:Kept [] w W:=g▸(((Kept.refl _ _).alloc _).alloc _).alloc _;have f:Blk W w.heap.size 252 #[.string ⟨a.name.toArray⟩,.int .i64 a.off]:=g▸((Blk.new _ _ _).alloc _).alloc _;have d:Blk W (w.heap.size+1) 252 #[.string ⟨b.name.toArray⟩,.int .i64 b.off]:=g▸(Blk.new1 _ _ _ _).alloc _;have j:Blk W (w.heap.size+1+1) 46 #[.int .i64 0,.string ⟨#[]⟩,.string ⟨#[]⟩,.int .i64 0,.slice none 0 0]:=g▸Blk.new2 _ _ _ _ _;have q:W.cell? ⟨w.heap.size,0,none⟩=some (.string ⟨a.name.toArray⟩):=f.cell 0;have p:W.cell? ⟨w.heap.size,1,none⟩=some (.int .i64 a.off):=f.cell 1;have o:W.cell? ⟨w.heap.size+1,0,none⟩=some (.string ⟨b.name.toArray⟩):=d.cell 0;have n:W.cell? ⟨w.heap.size+1,1,none⟩=some (.int .i64 b.off):=d.cell 1;have s:=hid (dA b a 0 W hb ha (by decide));have u:=hid j;have t:=hid i;have r:=hid g;clear g i f d j
 go_enter func260,ntmps260
 go_upto_region 1 with(fail);have hW':=r.out;rw[hW'];clear hW';go_wp2_with (go_at_call 234;refine s.out.mono ?_;rintro e h ⟨rfl,k⟩;have c:=u.out.kept k (by simp);have G:h.cell? ⟨w.heap.size+1+1,0,none⟩=some (.int .i64 0):=c.cell 0;have F:h.cell? ⟨w.heap.size+1+1,1,none⟩=some (.string ⟨#[]⟩):=c.cell 1;have E:h.cell? ⟨w.heap.size+1+1,2,none⟩=some (.string ⟨#[]⟩):=c.cell 2;have D:h.cell? ⟨w.heap.size+1+1,3,none⟩=some (.int .i64 0):=c.cell 3;have C:h.cell? ⟨w.heap.size+1+1,4,none⟩=some (.slice none 0 0):=c.cell 4;have B:=c.frozen 0;have A:=c.frozen 1;have z:=c.frozen 2;have y:=c.frozen 3;have x:=c.frozen 4;have m:=hid c;have l:=hid (t.out.trans k);clear k c q p o n);refine ui (((((m.out.set_ 0 _).set_ 1 _).set_ 2 _).set_ 3 _).set_ 4 _) rfl rfl ⟨_,rfl,?_,by unfold aJ;rw[Int.sub_zero];exact PdN.atom _ _ _ _ _⟩;exact((((l.out.setCell (Or.inr (Nat.le_add_right _ 2)) _).setCell (Or.inr (Nat.le_add_right _ 2)) _).setCell (Or.inr (Nat.le_add_right _ 2)) _).setCell (Or.inr (Nat.le_add_right _ 2)) _).setCell (Or.inr (Nat.le_add_right _ 2)) _
theorem ue{w2:World}{tmps:Array Value}{v0 v1 v2 v3 v4 X:Value}{b:Nat}{R:Ending->World->Prop}(hb:Blk w2 b 46 #[v0,v1,v2,v3,v4])(h2:tmps[4]?.getD undef=.pointer (some ⟨b,0,none⟩))
  (hX:.agg #[v0,v1,v2,v3,v4]=X) (hR:R (.returned X) w2) :
  bodyPost prog Tryz.f261 R Exit.ret { tmps:=tmps,defers:=[] } w2:=by
 subst hX;have c0:w2.cell? ⟨b,0,none⟩=some v0:=hb.cell 0;have c1:w2.cell? ⟨b,1,none⟩=some v1:=hb.cell 1;have c2:w2.cell? ⟨b,2,none⟩=some v2:=hb.cell 2;have c3:w2.cell? ⟨b,3,none⟩=some v3:=hb.cell 3;have c4:w2.cell? ⟨b,4,none⟩=some v4:=hb.cell 4;refine bodyPost_ret (v:=.agg #[v0,v1,v2,v3,v4]) ?_ rfl hR;simp only[results,results261]
 simp[go_sem,h2,c0,c1,c2,c3,c4]
theorem uf(a b:Sm)(w:World)(ha:SmI a)(hb:SmI b) :
  Calls prog 261 #[.agg #[.string ⟨a.name.toArray⟩,.int .i64 a.off],.agg #[.string ⟨b.name.toArray⟩,.int .i64 b.off]] w fun e w'=>∃v,e=.returned v/\Kept [] w w'/\PdN w.heap.size w' v (aJ b a 1):=by
 obtain⟨W,g⟩:∃W,((w.alloc (.cells #[.string ⟨a.name.toArray⟩,.int .i64 a.off] 252)).alloc (.cells #[.string ⟨b.name.toArray⟩,.int .i64 b.off] 252)).alloc (.cells #[.int .i64 0,.string ⟨#[]⟩,.string ⟨#[]⟩,.int .i64 0,.slice none 0 0] 46)=W:=⟨_,rfl⟩;have i:Kept [] w W:=g▸(((Kept.refl _ _).alloc _).alloc _).alloc _;have f:Blk W w.heap.size 252 #[.string ⟨a.name.toArray⟩,.int .i64 a.off]:=g▸((Blk.new _ _ _).alloc _).alloc _;have d:Blk W (w.heap.size+1) 252 #[.string ⟨b.name.toArray⟩,.int .i64 b.off]:=g▸(Blk.new1 _ _ _ _).alloc _;have j:Blk W (w.heap.size+1+1) 46 #[.int .i64 0,.string ⟨#[]⟩,.string ⟨#[]⟩,.int .i64 0,.slice none 0 0]:=g▸Blk.new2 _ _ _ _ _;have q:W.cell? ⟨w.heap.size,0,none⟩=some (.string ⟨a.name.toArray⟩):=f.cell 0;have p:W.cell? ⟨w.heap.size,1,none⟩=some (.int .i64 a.off):=f.cell 1;have o:W.cell? ⟨w.heap.size+1,0,none⟩=some (.string ⟨b.name.toArray⟩):=d.cell 0;have n:W.cell? ⟨w.heap.size+1,1,none⟩=some (.int .i64 b.off):=d.cell 1;have s:=hid (dA b a 1 W hb ha (by decide));have u:=hid j;have t:=hid i;have r:=hid g;clear g i f d j
 go_enter func261,ntmps261
 go_upto_region 1 with(fail);have hW':=r.out;rw[hW'];clear hW';go_wp2_with (go_at_call 234;refine s.out.mono ?_;rintro e h ⟨rfl,k⟩;have c:=u.out.kept k (by simp);have G:h.cell? ⟨w.heap.size+1+1,0,none⟩=some (.int .i64 0):=c.cell 0;have F:h.cell? ⟨w.heap.size+1+1,1,none⟩=some (.string ⟨#[]⟩):=c.cell 1;have E:h.cell? ⟨w.heap.size+1+1,2,none⟩=some (.string ⟨#[]⟩):=c.cell 2;have D:h.cell? ⟨w.heap.size+1+1,3,none⟩=some (.int .i64 0):=c.cell 3;have C:h.cell? ⟨w.heap.size+1+1,4,none⟩=some (.slice none 0 0):=c.cell 4;have B:=c.frozen 0;have A:=c.frozen 1;have z:=c.frozen 2;have y:=c.frozen 3;have x:=c.frozen 4;have m:=hid c;have l:=hid (t.out.trans k);clear k c q p o n);refine ue (((((m.out.set_ 0 _).set_ 1 _).set_ 2 _).set_ 3 _).set_ 4 _) rfl rfl ⟨_,rfl,?_,PdN.atom _ _ _ _ _⟩;exact((((l.out.setCell (Or.inr (Nat.le_add_right _ 2)) _).setCell (Or.inr (Nat.le_add_right _ 2)) _).setCell (Or.inr (Nat.le_add_right _ 2)) _).setCell (Or.inr (Nat.le_add_right _ 2)) _).setCell (Or.inr (Nat.le_add_right _ 2)) _
end Go.Proofs.YtpcmamoomaddoaaGreatDoor
