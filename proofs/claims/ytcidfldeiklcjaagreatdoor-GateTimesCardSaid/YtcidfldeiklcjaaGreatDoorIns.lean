import Derived.Test.YtcidfldeiklcjaaGreatDoorEsw
set_option maxRecDepth 100000
set_option maxHeartbeats 32000000
namespace Go.Proofs.YtcidfldeiklcjaaGreatDoor
open Go.RowKit Tm
open Go.Proofs.Tryz
open Lib(hid)
def Mem(n:Nat)(f0 f:Nat->EV):Prop:=∀z,(∃k,k < n/\f k=z)↔(∃k,k < n/\f0 k=z)
theorem Mem.refl(n:Nat)(f:Nat->EV):Mem n f f:=fun _=>Iff.rfl
def df(n:Nat)(f:Nat->EV):Prop:=∀a b,a < b->b < n->¬ltE (f b).1 (f a).1
theorem tZ{a b c:Ent}(ha:EntI a)(hb:EntI b)(h1:¬ltE b a)(h2:¬ltE c b):¬ltE c a:=fun h=>by
 rcases ltE_tri ha hb with h3|h3|h3
 ·exact h2 (dH h h3)
 ·subst h3;exact h2 h
 ·exact h1 h3
def fo(f:Nat->EV)(m:Nat):Nat->EV:=fun k=>if k=m+1 then f m else if k=m then f (m+1)else f k
theorem tj{n m:Nat}{f0 f:Nat->EV}(h:Mem n f0 f)(hm:m+1 < n):Mem n f0 (fo f m):=fun z=>by
 rw[<-h z]
 constructor
 ·rintro⟨k,hk,rfl⟩
  unfold fo
  by_cases e1:k=m+1
  ·exact⟨m,by omega,by rw[if_pos e1]⟩
  ·by_cases e2:k=m
   ·exact⟨m+1,hm,by rw[if_neg e1,if_pos e2]⟩
   ·exact⟨k,hk,by rw[if_neg e1,if_neg e2]⟩
 ·rintro⟨k,hk,rfl⟩
  unfold fo
  by_cases e1:k=m+1
  ·exact⟨m,by omega,by rw[if_neg (by omega),if_pos rfl,e1]⟩
  ·by_cases e2:k=m
   ·exact⟨m+1,hm,by rw[if_pos rfl,e2]⟩
   ·exact⟨k,hk,by rw[if_neg e1,if_neg e2]⟩
def InsL(f:Nat->EV)(i j:Nat):Prop:=∀a b,a < b->b<=i->b≠j->¬ltE (f b).1 (f a).1
theorem InsL.start{f:Nat->EV}{i:Nat}(h:df i f):InsL f i i:=fun a b hab hb hne=>h a b hab (by omega)
theorem InsL.step{f:Nat->EV}{i m:Nat}(h:InsL f i (m+1))(hm:m+1<=i)(hlt:ltE (f (m+1)).1 (f m).1):InsL (fo f m) i m:=fun a b hab hb hne=>by
 unfold fo
 by_cases e1:b=m+1
 ·subst e1;rw[if_pos rfl]
  by_cases e2:a=m
  ·subst e2;rw[if_neg (by omega),if_pos rfl];exact fun hx=>fa _ (dH hx hlt)
  ·rw[if_neg (by omega),if_neg e2];exact h a m (by omega) (by omega) (by omega)
 ·rw[if_neg e1,if_neg hne]
  by_cases e2:a=m+1
  ·subst e2;rw[if_pos rfl];exact h m b (by omega) hb e1
  ·by_cases e3:a=m
   ·subst e3;rw[if_neg (by omega),if_pos rfl];exact h (a+1) b (by omega) hb e1
   ·rw[if_neg e2,if_neg e3];exact h a b hab hb e1
theorem InsL.zero{f:Nat->EV}{i:Nat}(h:InsL f i 0):df (i+1) f:=fun a b hab hb=>h a b hab (by omega) (by omega)
theorem InsL.done{f:Nat->EV}{i m:Nat}(hI:∀k,k<=i->EntI (f k).1)(h:InsL f i (m+1))(hm:m+1<=i)(hn:¬ltE (f (m+1)).1 (f m).1):df (i+1) f:=fun a b hab hb=>by
 by_cases e:b=m+1
 ·subst e
  by_cases e2:a=m
  ·subst e2;exact hn
  ·exact tZ (hI a (by omega)) (hI m (by omega)) (h a m (by omega) (by omega) (by omega)) hn
 ·exact h a b hab (by omega) e
theorem Mem.all{n:Nat}{f0 f:Nat->EV}{P:EV->Prop}(h:Mem n f0 f)(hp:∀k,k < n->P (f0 k)):∀k,k < n->P (f k):=fun k hk=>by
 obtain⟨j,hj,e⟩:=(h (f k)).1 ⟨k,hk,rfl⟩;rw[<-e];exact hp j hj
structure SoW (w wr:World) (rb n:Nat) (f0 f:Nat->EV):Prop where
 ec:EC wr rb n f
 mem:Mem n f0 f
 kept:Kept [rb] w wr
section
variable {w wr w':World} {rb n:Nat} {f0 f:Nat->EV}
theorem SoW.keep(h:SoW w wr rb n f0 f)(k:Kept [] wr w'):SoW w w' rb n f0 f:=⟨h.ec.kept k (by simp),h.mem,h.kept.then_ k (by simp)⟩
theorem SoW.swap(h:SoW w wr rb n f0 f){m:Nat}(hm:m+1 < n):SoW w (put8 (put8 wr rb ((m+1)*8) (f m).1 (f m).2) rb (m*8) (f (m+1)).1 (f (m+1)).2) rb n f0 (fo f m):=by
 refine⟨((h.ec.put hm (f m).1 (f m).2).put (show m < n by omega) (f (m+1)).1 (f (m+1)).2).congr fun i hi=>?_,tj h.mem hm,(h.kept.trans (jl _ _ _)).trans (jl _ _ _)⟩
 unfold updE fo
 by_cases e1:i=m+1
 ·rw[if_neg (by omega),if_pos e1,if_pos e1]
 ·by_cases e2:i=m
  ·rw[if_pos e2,if_neg e1,if_pos e2]
  ·rw[if_neg e2,if_neg e1,if_neg e1,if_neg e2]
end
def SoE(w:World)(rb n:Nat)(f0:Nat->EV)(e:Ending)(w':World):Prop:=e=.returned (.tuple #[])/\∃f,df n f/\SoW w w' rb n f0 f
abbrev entF(e:Ent)(u:Value):Array Value:=#[e.gate,e.no,e.time,e.kind,u,e.text,e.c,e.s]
theorem mB(rb n cap:Nat)(f0:Nat->EV)(w:World)(hc:EC w rb n f0)(hn:ae [rb] (dw n f0) w)(hI:∀k,k < n->EntI (f0 k).1)(hrb:NG<=rb)(hE:Env w)(hl:n<=1000) :
  Calls prog 108 #[.slice (some ⟨rb,0,none⟩) n cap,.int .i64 0,n,.func (.func 43) #[] #[]] w (SoE w rb n f0):=by
 have HC:Hid (∀f wr a b,SoW w wr rb n f0 f->a < n->b < n->∀x:KW wr,Calls prog 43 #[.agg (entF (f a).1 (f a).2),.agg (entF (f b).1 (f b).2)] x.val fun en w2=>en=.returned (.int .i64 (cmpE (f a).1 (f b).1))/\Kept [] x.val w2):=fun f wr a b h ha hb x=>by
  have kk:Kept [rb] w x.val:=h.kept.then_ x.property (by simp);have N:dw n f0 x.val:=hn [rb] x.val kk (fun z hz _=>hz)
  have Q:∀i,i < n->EntA x.val (.agg (entF (f i).1 (f i).2)) (f i).1:=fun i hi=>by
   obtain⟨j,O,e⟩:=(h.mem (f i)).1 ⟨i,hi,rfl⟩;rw[<-e];exact⟨(f0 j).2,rfl,N j O⟩
  exact mp _ _ _ _ x.val (Q a ha) (Q b hb) (h.mem.all (P:=fun p=>EntI p.1) hI a ha) (h.mem.all (P:=fun p=>EntI p.1) hI b hb) (hE.kept kk (by simpa using hrb))
 have HR:Hid (∀f wr,SoW w wr rb n f0 f->dw n f wr):=fun f wr h i hi=>by
  have N:dw n f0 wr:=hn [rb] wr h.kept (fun z hz _=>hz);obtain⟨j,O,e⟩:=(h.mem (f i)).1 ⟨i,hi,rfl⟩;rw[<-e];exact N j O
 have HI:=hid hI;have c4:Hid (SoW w w rb n f0 f0):=hid ⟨hc,Mem.refl _ _,kr⟩;clear hc hn hI hE
 go_enter func108,ntmps108
 go_wp2_with fail
 go_loopw [8] (fun vi wr=>∃(i:Nat) (f:Nat->EV),1<=i/\vi=i/\df (min i n) f/\SoW w wr rb n f0 f) (fun vi _=>n - (intOf vi).toNat)
 case atStart=>exact⟨1,f0,Nat.le_refl _,rfl,fun a b hab hb=>by omega,c4.out⟩
 case round =>
  obtain⟨i,f,dm,rfl,bx,hS⟩:=hrel;have c3:=hid bx;have HS:=hid hS;clear bx hS c4
  by_cases hlt:i < n
  ·have c0:df i f:=by have:=c3.out;rwa [Nat.min_eq_left (by omega)]at this
   have HL:=hid (InsL.start c0);clear c0;go_wp2_with fail
   go_loopw [9] (fun vj wr=>∃(j:Nat) (f:Nat->EV),j<=i/\vj=j/\InsL f i j/\SoW w wr rb n f0 f) (fun vj _=>(intOf vj).toNat)
   case atStart=>exact⟨i,f,Nat.le_refl _,rfl,HL,HS⟩
   case round =>
    obtain⟨j,g,O,rfl,hg,hT⟩:=hrel;have HG:=hid hg;have A:=hid hT;clear hg hT
    by_cases hj0:j=0
    ·subst hj0;have HZ:=hid HG.zero;go_upto_region 4 with(fail);refine ax wr kr (by kernel_rfl) (by kernel_rfl) ?_
     repeat (go_big_quiet_step (fail))
     refine wpQuiet_nil ?_;rintro t ⟨⟨_,D⟩,rfl⟩;go_wp2_with fail;refine⟨⟨i+1,g,by omega,by go_num,?_,A.out.keep D⟩,by simp[intOf];omega⟩;rw[Nat.min_eq_left (by omega)];exact HZ
    ·obtain⟨m,B⟩:∃m,j=m+1:=⟨j - 1,by omega⟩
     have l:j < n:=by omega
     have r:m < n:=by omega
     have hw:IntKind.i64.wrap ((j:Int) - 1)=(m:Int):=by rw[IntKind.wrap_i64];omega
     have dl:decide (0 < j)=true:=decide_eq_true (by omega)
     have dj:0 < j:=by omega
     obtain⟨y,uj,F⟩:∃e u,g j=(e,u):=⟨_,_,rfl⟩;obtain⟨v,um,E⟩:∃e u,g m=(e,u):=⟨_,_,rfl⟩;have q:=hid F;have o:=hid E;have J:=HC g wr j m A l r;rw[F,E]at J;have CL:=hid J
     have I:Row wr 1 uj y.nums.length (ints y.nums)/\Row wr 1 um v.nums.length (ints v.nums):=by
      have N:=HR g wr A;have h1:=N j l;have h2:=N m r;rw[F]at h1;rw[E]at h2;exact⟨h1,h2⟩
     obtain⟨ja,jc,rfl,_,_⟩:=I.1.form;obtain⟨ma,mc,rfl,_,_⟩:=I.2.form;have C:=hid B;clear F E J I B;have p0:∀x:KW wr,x.val.cell? ⟨rb,j*8,none⟩=some (.int .i64 y.gate):=fun x=>x.cell (A.out.ec.cell j l 0 _ (by rw[q.out];rfl));have p1:∀x:KW wr,x.val.cell? ⟨rb,j*8+1,none⟩=some (.int .i64 y.no):=fun x=>x.cell (A.out.ec.cell j l 1 _ (by rw[q.out];rfl));have p2:∀x:KW wr,x.val.cell? ⟨rb,j*8+2,none⟩=some (.int .i64 y.time):=fun x=>x.cell (A.out.ec.cell j l 2 _ (by rw[q.out];rfl));have p3:∀x:KW wr,x.val.cell? ⟨rb,j*8+3,none⟩=some (.int .i64 y.kind):=fun x=>x.cell (A.out.ec.cell j l 3 _ (by rw[q.out];rfl));have p4:∀x:KW wr,x.val.cell? ⟨rb,j*8+4,none⟩=some (.slice ja y.nums.length jc):=fun x=>x.cell (A.out.ec.cell j l 4 _ (by rw[q.out];rfl));have p5:∀x:KW wr,x.val.cell? ⟨rb,j*8+5,none⟩=some (.string ⟨y.text.toArray⟩):=fun x=>x.cell (A.out.ec.cell j l 5 _ (by rw[q.out];rfl));have p6:∀x:KW wr,x.val.cell? ⟨rb,j*8+6,none⟩=some (.int .i64 y.c):=fun x=>x.cell (A.out.ec.cell j l 6 _ (by rw[q.out];rfl));have p7:∀x:KW wr,x.val.cell? ⟨rb,j*8+7,none⟩=some (.int .i64 y.s):=fun x=>x.cell (A.out.ec.cell j l 7 _ (by rw[q.out];rfl));have q0:∀x:KW wr,x.val.cell? ⟨rb,m*8,none⟩=some (.int .i64 v.gate):=fun x=>x.cell (A.out.ec.cell m r 0 _ (by rw[o.out];rfl));have q1:∀x:KW wr,x.val.cell? ⟨rb,m*8+1,none⟩=some (.int .i64 v.no):=fun x=>x.cell (A.out.ec.cell m r 1 _ (by rw[o.out];rfl));have q2:∀x:KW wr,x.val.cell? ⟨rb,m*8+2,none⟩=some (.int .i64 v.time):=fun x=>x.cell (A.out.ec.cell m r 2 _ (by rw[o.out];rfl))
     have q3:∀x:KW wr,x.val.cell? ⟨rb,m*8+3,none⟩=some (.int .i64 v.kind):=fun x=>x.cell (A.out.ec.cell m r 3 _ (by rw[o.out];rfl));have q4:∀x:KW wr,x.val.cell? ⟨rb,m*8+4,none⟩=some (.slice ma v.nums.length mc):=fun x=>x.cell (A.out.ec.cell m r 4 _ (by rw[o.out];rfl));have q5:∀x:KW wr,x.val.cell? ⟨rb,m*8+5,none⟩=some (.string ⟨v.text.toArray⟩):=fun x=>x.cell (A.out.ec.cell m r 5 _ (by rw[o.out];rfl));have q6:∀x:KW wr,x.val.cell? ⟨rb,m*8+6,none⟩=some (.int .i64 v.c):=fun x=>x.cell (A.out.ec.cell m r 6 _ (by rw[o.out];rfl));have q7:∀x:KW wr,x.val.cell? ⟨rb,m*8+7,none⟩=some (.int .i64 v.s):=fun x=>x.cell (A.out.ec.cell m r 7 _ (by rw[o.out];rfl))
     have dk:(j:Int) < (n:Int):=by omega
     have di:(m:Int) < (n:Int):=by omega
     go_upto_region 4 with(fail);refine ax wr kr (by kernel_rfl) (by kernel_rfl) ?_
     repeat (go_big_quiet_step (first|(go_at_call 43;exact aA (CL _))))
     refine wpQuiet_nil ?_;rintro t ⟨⟨_,D⟩,rfl⟩;have d:=hid (A.keep D);have M:=hid (yJ y v);have dg:=HI.out
     generalize ct:cmpE y v=cv at M ⊢
     clear p0 p1 p2 p3 p4 p5 p6 p7 q0 q1 q2 q3 q4 q5 q6 q7 CL ct D dg
     by_cases hlt2:cv < 0
     ·have hd:decide (cv < 0)=true:=decide_eq_true hlt2;have L:Hid (ltE y v):=hid (M.1 hlt2)
      have c1:¬0<=cv:=by omega
      go_upto_region 6 with(fail);clear hd c1 hlt2;have p0:t.cell? ⟨rb,j*8,none⟩=some (.int .i64 y.gate):=d.out.ec.cell j l 0 _ (by rw[q.out];rfl);have dc:t.frozen? ⟨rb,j*8,none⟩=false:=d.ec.fz _;have p1:t.cell? ⟨rb,j*8+1,none⟩=some (.int .i64 y.no):=d.out.ec.cell j l 1 _ (by rw[q.out];rfl);have db:t.frozen? ⟨rb,j*8+1,none⟩=false:=d.ec.fz _;have p2:t.cell? ⟨rb,j*8+2,none⟩=some (.int .i64 y.time):=d.out.ec.cell j l 2 _ (by rw[q.out];rfl);have da:t.frozen? ⟨rb,j*8+2,none⟩=false:=d.ec.fz _;have p3:t.cell? ⟨rb,j*8+3,none⟩=some (.int .i64 y.kind):=d.out.ec.cell j l 3 _ (by rw[q.out];rfl);have d9:t.frozen? ⟨rb,j*8+3,none⟩=false:=d.ec.fz _;have p4:t.cell? ⟨rb,j*8+4,none⟩=some (.slice ja y.nums.length jc):=d.out.ec.cell j l 4 _ (by rw[q.out];rfl);have d8:t.frozen? ⟨rb,j*8+4,none⟩=false:=d.ec.fz _;have p5:t.cell? ⟨rb,j*8+5,none⟩=some (.string ⟨y.text.toArray⟩):=d.out.ec.cell j l 5 _ (by rw[q.out];rfl);have d7:t.frozen? ⟨rb,j*8+5,none⟩=false:=d.ec.fz _;have p6:t.cell? ⟨rb,j*8+6,none⟩=some (.int .i64 y.c):=d.out.ec.cell j l 6 _ (by rw[q.out];rfl);have d6:t.frozen? ⟨rb,j*8+6,none⟩=false:=d.ec.fz _;have p7:t.cell? ⟨rb,j*8+7,none⟩=some (.int .i64 y.s):=d.out.ec.cell j l 7 _ (by rw[q.out];rfl);have d5:t.frozen? ⟨rb,j*8+7,none⟩=false:=d.ec.fz _;have q0:t.cell? ⟨rb,m*8,none⟩=some (.int .i64 v.gate):=d.out.ec.cell m r 0 _ (by rw[o.out];rfl);have d4:t.frozen? ⟨rb,m*8,none⟩=false:=d.ec.fz _
      have q1:t.cell? ⟨rb,m*8+1,none⟩=some (.int .i64 v.no):=d.out.ec.cell m r 1 _ (by rw[o.out];rfl);have d3:t.frozen? ⟨rb,m*8+1,none⟩=false:=d.ec.fz _;have q2:t.cell? ⟨rb,m*8+2,none⟩=some (.int .i64 v.time):=d.out.ec.cell m r 2 _ (by rw[o.out];rfl);have d2:t.frozen? ⟨rb,m*8+2,none⟩=false:=d.ec.fz _;have q3:t.cell? ⟨rb,m*8+3,none⟩=some (.int .i64 v.kind):=d.out.ec.cell m r 3 _ (by rw[o.out];rfl);have d1:t.frozen? ⟨rb,m*8+3,none⟩=false:=d.ec.fz _;have q4:t.cell? ⟨rb,m*8+4,none⟩=some (.slice ma v.nums.length mc):=d.out.ec.cell m r 4 _ (by rw[o.out];rfl);have d0:t.frozen? ⟨rb,m*8+4,none⟩=false:=d.ec.fz _;have q5:t.cell? ⟨rb,m*8+5,none⟩=some (.string ⟨v.text.toArray⟩):=d.out.ec.cell m r 5 _ (by rw[o.out];rfl);have cy:t.frozen? ⟨rb,m*8+5,none⟩=false:=d.ec.fz _;have q6:t.cell? ⟨rb,m*8+6,none⟩=some (.int .i64 v.c):=d.out.ec.cell m r 6 _ (by rw[o.out];rfl);have cx:t.frozen? ⟨rb,m*8+6,none⟩=false:=d.ec.fz _;have q7:t.cell? ⟨rb,m*8+7,none⟩=some (.int .i64 v.s):=d.out.ec.cell m r 7 _ (by rw[o.out];rfl);have cu:t.frozen? ⟨rb,m*8+7,none⟩=false:=d.ec.fz _;have jm:=C.out
      have n0:¬j=m:=by omega
      have cs:¬j*8=m*8:=by omega
      have cq:¬j*8=m*8+1:=by omega
      have cc:¬j*8+1=m*8:=by omega
      have cp:¬j*8=m*8+2:=by omega
      have cb:¬j*8+2=m*8:=by omega
      have co:¬j*8=m*8+3:=by omega
      have ca:¬j*8+3=m*8:=by omega
      have cm:¬j*8=m*8+4:=by omega
      have c9:¬j*8+4=m*8:=by omega
      have cl:¬j*8=m*8+5:=by omega
      have c7:¬j*8+5=m*8:=by omega
      have cg:¬j*8=m*8+6:=by omega
      have c6:¬j*8+6=m*8:=by omega
      have cd:¬j*8=m*8+7:=by omega
      have c5:¬j*8+7=m*8:=by omega
      have bv:¬j*8+1=m*8+1:=by omega
      have bt:¬j*8+1=m*8+2:=by omega
      have bs:¬j*8+1=m*8+3:=by omega
      have bq:¬j*8+1=m*8+4:=by omega
      have bo:¬j*8+1=m*8+5:=by omega
      have bm:¬j*8+1=m*8+6:=by omega
      have bl:¬j*8+1=m*8+7:=by omega
      have bk:¬j*8+2=m*8+1:=by omega
      have bh:¬j*8+2=m*8+2:=by omega
      have bd:¬j*8+2=m*8+3:=by omega
      have bc:¬j*8+2=m*8+4:=by omega
      have bb:¬j*8+2=m*8+5:=by omega
      have ba:¬j*8+2=m*8+6:=by omega
      have b9:¬j*8+2=m*8+7:=by omega
      have b7:¬j*8+3=m*8+1:=by omega
      have b6:¬j*8+3=m*8+2:=by omega
      have b5:¬j*8+3=m*8+3:=by omega
      have b4:¬j*8+3=m*8+4:=by omega
      have b3:¬j*8+3=m*8+5:=by omega
      have b2:¬j*8+3=m*8+6:=by omega
      have b1:¬j*8+3=m*8+7:=by omega
      have b0:¬j*8+4=m*8+1:=by omega
      have av:¬j*8+4=m*8+2:=by omega
      have ap:¬j*8+4=m*8+3:=by omega
      have ao:¬j*8+4=m*8+4:=by omega
      have an:¬j*8+4=m*8+5:=by omega
      have am:¬j*8+4=m*8+6:=by omega
      have al:¬j*8+4=m*8+7:=by omega
      have ah:¬j*8+5=m*8+1:=by omega
      have ad:¬j*8+5=m*8+2:=by omega
      have ac:¬j*8+5=m*8+3:=by omega
      have ab:¬j*8+5=m*8+4:=by omega
      have aa:¬j*8+5=m*8+5:=by omega
      have a9:¬j*8+5=m*8+6:=by omega
      have a7:¬j*8+5=m*8+7:=by omega
      have a6:¬j*8+6=m*8+1:=by omega
      have a5:¬j*8+6=m*8+2:=by omega
      have a4:¬j*8+6=m*8+3:=by omega
      have a3:¬j*8+6=m*8+4:=by omega
      have a2:¬j*8+6=m*8+5:=by omega
      have a1:¬j*8+6=m*8+6:=by omega
      have a0:¬j*8+6=m*8+7:=by omega
      have Z:¬j*8+7=m*8+1:=by omega
      have Y:¬j*8+7=m*8+2:=by omega
      have X:¬j*8+7=m*8+3:=by omega
      have V:¬j*8+7=m*8+4:=by omega
      have U:¬j*8+7=m*8+5:=by omega
      have T:¬j*8+7=m*8+6:=by omega
      have R:¬j*8+7=m*8+7:=by omega
      clear jm
      go_region
      have c2:Hid (SoW w (put8 (put8 t rb (j*8) v (.slice ma v.nums.length mc)) rb (m*8) y (.slice ja y.nums.length jc)) rb n f0 (fo g m)):=by
       have B:=C.out;subst B;have h:=d.swap (m:=m) l;rw[o.out,q.out]at h;exact h
      have de:Hid (InsL (fo g m) i m):=by
       have B:=C.out;subst B;exact HG.out.step O (by rw[q.out,o.out];exact L.out)
      all_goals
       clear n0 cs cq cc cp cb co ca cm c9 cl c7 cg c6 cd c5 bv bt bs bq bo bm bl bk bh bd bc bb ba b9 b7 b6 b5 b4 b3 b2 b1 b0 av ap ao an am al ah ad ac ab aa a9 a7 a6 a5 a4 a3 a2 a1 a0 Z Y X V U T R p0 q0 dc d4 p1 q1 db d3 p2 q2 da d2 p3 q3 d9 d1 p4 q4 d8 d0 p5 q5 d7 cy p6 q6 d6 cx p7 q7 d5 cu;obtain⟨w6,G⟩:=nm ((put8 (put8 t rb (j*8) v (.slice ma v.nums.length mc)) rb (m*8) y (.slice ja y.nums.length jc)).drew);have dd:Hid (SoW w w6 rb n f0 (fo g m)):=hid (G▸c2.out.keep kr.drew)
       change Exit.inBlock 3 _ Exit.normal _ (put8 (put8 t rb (j*8) v (.slice ma v.nums.length mc)) rb (m*8) y (.slice ja y.nums.length jc)).drew
       rw[G];clear G c2;go_wp2_with fail
       go_roundw
       case rel=>exact⟨m,fo g m,by have:=C.out;omega,rfl,de.out,dd.out⟩
       case measure=>have:=C.out;simp[intOf];omega
     ·have hd:decide (cv < 0)=false:=decide_eq_false hlt2;have L:Hid (¬ltE y v):=hid (fun h=>hlt2 (M.2 h))
      have c1:0<=cv:=by omega
      have HZ:Hid (df (i+1) g):=by
       have h1:=HG.out;have B:=C.out;subst B;exact InsL.done (fun k hk=>A.out.mem.all (P:=fun p=>EntI p.1) HI.out k (by omega)) h1 O (by rw[q.out,o.out];exact L.out)
      go_wp2_with fail;refine⟨⟨i+1,g,by omega,by go_num,?_,d.out⟩,by simp[intOf];omega⟩;rw[Nat.min_eq_left (by omega)];exact HZ
  ·have HZ:Hid (df n f):=by have:=c3.out;rw[Nat.min_eq_right (by omega)]at this;exact this
   have hlt':¬(i:Int) < (n:Int):=by omega
   go_wp2_with fail
   go_end0
   exact⟨rfl,f,HZ,HS⟩
theorem yq(rb n cap:Nat)(f0:Nat->EV)(lim:Int)(w:World)(hc:EC w rb n f0)(hn:ae [rb] (dw n f0) w)(hI:∀k,k < n->EntI (f0 k).1)(hrb:NG<=rb)(hE:Env w)(hl:n<=12) :
  Calls prog 72 #[.slice (some ⟨rb,0,none⟩) n cap,.int .i64 0,n,lim,.func (.func 43) #[] #[]] w (SoE w rb n f0):=by
 have c:=hid (mB rb n cap f0 w hc hn hI hrb hE (by omega));have j:decide ((n:Int)<=12)=true:=decide_eq_true (by omega);have i:decide (n<=12)=true:=decide_eq_true hl;clear hc hn hI hE
 go_enter func72,ntmps72
 go_wp2_with fail;refine wp_loop_rounds 1 ?_;rw[rounds_succ];go_wp2_with (go_at_call 108;refine c.mono ?_);rintro e h ⟨rfl,f,b,a⟩;have g:=hid b;have d:=hid a;clear b a;go_wp2_with fail
 go_end0
 exact⟨rfl,f,g,d⟩
theorem vh(rb n cap:Nat)(f0:Nat->EV)(w:World)(hc:EC w rb n f0)(hn:ae [rb] (dw n f0) w)(hI:∀k,k < n->EntI (f0 k).1)(hrb:NG<=rb)(hE:Env w)(hl:n<=12) :
  Calls prog 42 #[.slice (some ⟨rb,0,none⟩) n cap,.func (.func 43) #[] #[]] w (SoE w rb n f0):=by
 have d:=hid (fun lim=>yq rb n cap f0 lim w hc hn hI hrb hE hl);have i:=hid (Tryz.bits_Len (n:Int) w (by omega) (by omega))
 have j:IntKind.u64.wrap (n:Int)=(n:Int):=by rw[IntKind.wrap_u64];omega
 clear hc hn hI hE
 go_enter func42,ntmps42
 go_wp2_with (go_at_call 73;refine i.mono ?_);rintro e c ⟨rfl,rfl⟩;go_wp2_with (go_at_call 72;refine(d _).mono ?_);rintro e c ⟨rfl,f,b,a⟩;have h:=hid b;have g:=hid a;clear b a;go_wp2_with fail
 go_end0
 exact⟨rfl,f,h,g⟩
end Go.Proofs.YtcidfldeiklcjaaGreatDoor
