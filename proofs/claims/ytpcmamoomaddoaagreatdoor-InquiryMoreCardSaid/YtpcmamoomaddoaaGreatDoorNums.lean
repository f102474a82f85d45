import Derived.Test.YtpcmamoomaddoaaGreatDoorAcn
import Derived.Test.YtpcmamoomaddoaaGreatDoorInv
set_option maxRecDepth 100000
set_option maxHeartbeats 32000000
namespace Go.Proofs.YtpcmamoomaddoaaGreatDoor
open Go.RowKit
def qSan:Bs:=[113,117,101,115,116,105,111,110,32,113,32,123,32,105,100,46,97,103,101,32,62,61,32,49,56,32,125]
def ageB:Bs:=[105,100,46,97,103,101]
def jw:Pd:=.node 0 [] ageB (-18) []
def bm:Pd:=.node 1 [] [] 0 [jw,.node 0 ageB [] 100 []]
theorem pY:bH qSan=(jw,0):=by kernel_rfl
theorem rL:aP bm=true:=by kernel_rfl
theorem tI:atomsB jw=[([],ageB,-18)]:=by kernel_rfl
theorem nR:aU qSan 100 (.ok bm):=by
 unfold aU
 rw[pY,if_neg (by decide),if_neg (by decide)];refine⟨[ageB],?_,?_⟩
 ·rw[tI];refine⟨by simp,by simp,fun s=>?_⟩;simp only[bC,List.flatMap_cons,List.flatMap_nil,List.append_nil,List.mem_cons,List.not_mem_nil,or_false]
  constructor
  ·rintro rfl;exact⟨by decide,Or.inr rfl⟩
  ·rintro⟨h1,h2|h2⟩
   ·exact absurd h2 h1
   ·exact h2
 ·unfold jO
  rw[if_neg (by simp)]
  show Except.ok bm=if aP bm=true then .ok bm else .error 6
  rw[if_pos rL]
def di:Pss:=⟨[105,100],4,[[97,103,101]],[]⟩
def eA(n v:Int):Iss:=⟨0,[n,v]⟩
def gH:Sgt:=⟨qSan,100,[di],[],[],0⟩
theorem rK:dv di [9,20]=.ok [(ageB,20)]:=by kernel_rfl
theorem rJ:dv di [9]=.error 1:=by kernel_rfl
theorem uT:dI [di]=true:=by kernel_rfl
theorem wJ:logB []=true:=by kernel_rfl
theorem pV:aF (addB [di]) [] [eA 9 20,eA 4 17,eA 9 20]=.ok [⟨4,[(ageB,17)],[1]⟩,⟨9,[(ageB,20)],[2]⟩]:=by kernel_rfl
theorem xD:accountB [di] [] [eA 9 20,eA 4 17,eA 9 20] [gH]=.ok (⟨[bm],[⟨[(ageB,17)],[1],-1⟩,⟨[(ageB,20)],[2],-1⟩],[⟨0,0,0,-1⟩]⟩,[4,9]):=by
 unfold accountB
 rw[uT,wJ,if_neg (by simp),pV]
 have a:aL [⟨4,[(ageB,17)],[1]⟩,⟨9,[(ageB,20)],[2]⟩]=[4,9]:=by simp[aL,List.mergeSort]
 have b:sightB [di] [] [4,9] ([],[]) gH=.ok ([bm],[⟨0,0,0,-1⟩]):=by
  unfold sightB
  rw[show predF gH.q gH.most=.ok bm from nR.eq]
  kernel_rfl
 have c:membersB [] [⟨4,[(ageB,17)],[1]⟩,⟨9,[(ageB,20)],[2]⟩]=[⟨[(ageB,17)],[1],-1⟩,⟨[(ageB,20)],[2],-1⟩]:=by
  unfold membersB
  rw[a]
  have e:dZ [] [⟨4,[(ageB,17)],[1]⟩,⟨9,[(ageB,20)],[2]⟩] 4=⟨[(ageB,17)],[1],-1⟩:=by
   unfold dZ
   rw[show czOf 0 [⟨4,[(ageB,17)],[1]⟩,⟨9,[(ageB,20)],[2]⟩] 4=⟨4,[(ageB,17)],[1]⟩from rfl]
   simp[aS]
   rfl
  have d:dZ [] [⟨4,[(ageB,17)],[1]⟩,⟨9,[(ageB,20)],[2]⟩] 9=⟨[(ageB,20)],[2],-1⟩:=by
   unfold dZ
   rw[show czOf 0 [⟨4,[(ageB,17)],[1]⟩,⟨9,[(ageB,20)],[2]⟩] 9=⟨9,[(ageB,20)],[2]⟩from rfl]
   simp[aS]
   rfl
  rw[List.map_cons,List.map_cons,List.map_nil,e,d]
 simp only[a,c];rw[aF,b]
 rfl
def nilS:Value:=.slice none 0 0
theorem wE{w:World}{b:Nat}{T:TypeId}(h:Blk w b T #[.slice none 0 0,.slice none 0 0,.slice none 0 0])(i:Nat)(v:Value)(hv:w.cell? ⟨b,i,none⟩=some v):v=nilS:=by
 rw[h.cell i]at hv;have:=Array.mem_of_getElem? hv;simp at this;exact this
section
variable {w w':World} {b:Nat} {T:TypeId}
theorem Row.store{size n:Nat}{v:Value}{l:List Value}(h:Row w size v n l)(hb:Blk w b T #[.slice none 0 0,.slice none 0 0,.slice none 0 0])(k:Kept [b] w w')(hl:∀x∈l,x≠nilS):Row w' size v n l:=by
 obtain⟨h1,h2,a,c,hv,hcc,hc⟩:=h;refine⟨h1,h2,a,c,hv,hcc,fun hn=>?_⟩;obtain⟨b',off,ha,hcell⟩:=hc hn;refine⟨b',off,ha,fun j u hu=>?_⟩;have h3:=hcell j u hu;have hne:b'≠b:=fun e=>hl u (List.mem_of_getElem? hu) (wE hb (off+j) u (e▸h3));exact(k.cell (World.block_lt_of_cell? w _ h3) (by simpa using hne)).trans h3
/-- what Account hands back at the example -/
def SanC(w:World)(cs:List Value):Prop:=∃vm vu v0 t0 xa xc t1 qa qc,cs=[.slice qa 1 qc,vm,vu]/\Row w 3 vm 2 [v0,t0,.int .i64 (-1),.slice xa 1 xc,t1,.int .i64 (-1)]/\Row w 4 vu 1 [.int .i64 0,.int .i64 0,.int .i64 0,.int .i64 (-1)] /\
 Row w 2 v0 1 [.string ⟨ageB.toArray⟩,.int .i64 17]/\Row w 1 t0 1 (ints [1])/\Row w 1 t1 1 (ints [2])
theorem SanC.kept{cs:List Value}(h:SanC w cs)(k:Kept [] w w'):SanC w' cs:=by
 obtain⟨vm,vu,v0,t0,xa,xc,t1,qa,qc,h0,h1,h2,h3,h4,h6⟩:=h;exact⟨vm,vu,v0,t0,xa,xc,t1,qa,qc,h0,h1.kept k,h2.kept k,h3.kept k,h4.kept k,h6.kept k⟩
theorem pN{size n:Nat}{v:Value}{l:List Value}(h:Row w size v (n+1) l):v≠nilS:=by
 obtain⟨a,c,rfl,_,_⟩:=h.form
 unfold nilS
 simp
theorem SanC.store{cs:List Value}(h:SanC w cs)(hb:Blk w b T #[.slice none 0 0,.slice none 0 0,.slice none 0 0])(k:Kept [b] w w'):SanC w' cs:=by
 obtain⟨vm,vu,v0,t0,xa,xc,t1,qa,qc,h0,h1,h2,h3,h4,h6⟩:=h;have n0:=pN h3;have n1:=pN h4;have n2:=pN h6;refine⟨vm,vu,v0,t0,xa,xc,t1,qa,qc,h0,h1.store hb k ?_,h2.store hb k ?_,h3.store hb k ?_,h4.store hb k ?_,h6.store hb k ?_⟩
 ·intro x hx;simp only[List.mem_cons,List.not_mem_nil,or_false]at hx
  rcases hx with rfl|rfl|rfl|rfl|rfl|rfl <;> first|assumption|simp[nilS]
 all_goals (intro x hx;simp[ints]at hx;rcases hx with rfl|rfl <;> simp[nilS])
theorem gK{v:Value}(h:Row w 1 v 2 (ints [4,9]))(hb:Blk w b T #[.slice none 0 0,.slice none 0 0,.slice none 0 0])(k:Kept [b] w w'):Row w' 1 v 2 (ints [4,9]) :=
 h.store hb k fun x hx=>by
  simp[ints]at hx
  rcases hx with rfl|rfl <;> simp[nilS]
theorem xV{cs:List Value}(h:CrR w cs ⟨[bm],[⟨[(ageB,17)],[1],-1⟩,⟨[(ageB,20)],[2],-1⟩],[⟨0,0,0,-1⟩]⟩):SanC w cs:=by
 obtain⟨vq,C,B,rfl,N,P,M⟩:=h;obtain⟨I,G,rfl,_,_⟩:=aj.form N;obtain⟨s,n,O,a,m⟩:=P;obtain⟨r,k,L,l,j⟩:=M;obtain⟨X,e,i,g,U,Z,F⟩:=a 0 _ rfl;obtain⟨V,d,D,f,T,Y,E⟩:=a 1 _ rfl;obtain⟨u,c,R⟩:=l 0 _ rfl
 obtain rfl:s=[X,V]:=by
  match s,n with
  | [x,y],_=>simp at e d;subst e d;rfl
 obtain rfl:r=[u]:=by
  match r,k with
  | [x],_=>simp at c;subst c;rfl
 subst U T;have f0':u=[.int .i64 0,.int .i64 0,.int .i64 0,.int .i64 (-1)]:=R;subst f0';obtain⟨v,p,Q,q,o⟩:=Z;obtain⟨t,b,J⟩:=q 0 _ rfl
 obtain rfl:v=[t]:=by
  match v,p with
  | [x],_=>simp at b;subst b;rfl
 have k0':t=[.string ⟨ageB.toArray⟩,.int .i64 17]:=J;subst k0';obtain⟨A,z,rfl,_,_⟩:=aj.form Y;exact⟨C,B,i,g,A,z,f,I,G,rfl,m,j,o,F,E⟩
end
def IsI(w:World)(v:Value)(a b:Int):Prop:=∃ad,v=.agg #[.int .i64 0,.slice ad 2 2,.int .i64 0,.int .i64 0,.int .i64 0,.int .i64 0,.int .i64 0]/\Row w 1 (.slice ad 2 2) 2 (ints [a,b])
theorem IsI.kept{w w':World}{v:Value}{a b:Int}(h:IsI w v a b)(k:Kept [] w w'):IsI w' v a b:=by
 obtain⟨ad,h1,h2⟩:=h;exact⟨ad,h1,h2.kept k⟩
def issL:List Iss:=[eA 9 20,eA 4 17,eA 9 20]
def R5(W:World)(TV SV:Value)(l:Nat->Bool)(vs:Nat->Value)(w:World):Nat->Prop
 |0=>l 15=false->∃a,vs 0=.agg #[.string ⟨#[105,100]⟩,.int .i64 4,.slice a 1 1,.slice none 0 0]/\Row w 1 (.slice a 1 1) 1 (strs [[97,103,101]])
 |1=>l 15=false->aj PssR 4 w (vs 1) [di]
 |2=>l 15=false->IsI w (vs 2) 9 20
 |3=>l 15=false->IsI w (vs 3) 4 17
 |4=>l 15=false->IsI w (vs 4) 9 20
 |5=>l 15=false->aj IssR 7 w (vs 5) issL
 |6=>vs 6=TV
 |7=>vs 7=SV
 |8=>l 15=false->aj SgtR 18 w (vs 8) [gH]
 |9=>l 15=false->∃cs vn,vs 9=.tuple #[.agg (List.toArray cs),vn,.int .i64 0]/\SanC w cs/\Row w 1 vn 2 (ints [4,9])
 |10=>∃cs vn,vs 10=.tuple #[.agg (List.toArray cs),vn,.int .i64 0]/\SanC w cs/\Row w 1 vn 2 (ints [4,9])
 |11=>∃cs,vs 11=.agg (List.toArray cs)/\SanC w cs
 |12=>Row w 1 (vs 12) 2 (ints [4,9])
 |13=>vs 13=.int .i64 0
 |14=>∃b,vs 14=.pointer (some ⟨b,0,none⟩)/\W.heap.size<=b/\(l 15=false->Blk w b 67 #[.slice none 0 0,.slice none 0 0,.slice none 0 0])
 |15=>(∀k,k < 15->k≠12->k≠13->l k=true)/\∃b cs,vs 14=.pointer (some ⟨b,0,none⟩)/\vs 11=.agg (List.toArray cs)/\Blk w b 67 cs.toArray
 |16=>Row w 1 (vs 16) 2 (ints [4,9])
 |17=>vs 17=.int .i64 0
 |_=>True
def San5(W:World)(TV SV:Value)(l:Nat->Bool)(vs:Nat->Value)(w:World):Prop:=Kept [] W w/\∀j,l j=true->R5 W TV SV l vs w j
section
variable {W w w':World} {TV SV:Value} {l:Nat->Bool} {vs:Nat->Value}
theorem lw{i j:Nat}(h:l j=true):updV l i true j=true:=by
 unfold updV
 split
 ·rfl
 ·exact h
theorem San5.step{i:Nat}{v:Value}(h:San5 W TV SV l vs w)(hi:l i=false)(h15:i≠15)(k:Kept [] w w')(hR:R5 W TV SV (updV l i true) (updV vs i v) w' i):San5 W TV SV (updV l i true) (updV vs i v) w':=by
 refine⟨h.1.trans k,fun j hj=>?_⟩
 by_cases hji:j=i
 ·subst hji;exact hR
 ·have r:l j=true:=by rwa [aY hji]at hj
  have d:updV l i true 15=l 15:=aY (Ne.symm h15);have c:updV vs i v j=vs j:=aY hji;have:=h.2 j r
  match j,this,c with
  |0,this,c=>simp only[R5,d,c]at this ⊢;intro f;obtain⟨a,n,m⟩:=this f;exact⟨a,n,m.kept k⟩
  |1,this,c=>simp only[R5,d,c]at this ⊢;intro f;exact(this f).kept (fun _ _ x=>PssR.kept x k) k
  |2,this,c=>simp only[R5,d,c]at this ⊢;intro f;exact(this f).kept k
  |3,this,c=>simp only[R5,d,c]at this ⊢;intro f;exact(this f).kept k
  |4,this,c=>simp only[R5,d,c]at this ⊢;intro f;exact(this f).kept k
  |5,this,c=>simp only[R5,d,c]at this ⊢;intro f;exact(this f).kept (fun _ _ x=>IssR.kept x k) k
  |6,this,c=>simp only[R5,c]at this ⊢;exact this
  |7,this,c=>simp only[R5,c]at this ⊢;exact this
  |8,this,c=>simp only[R5,d,c]at this ⊢;intro f;exact(this f).kept (fun _ _ x=>SgtR.kept x k) k
  |9,this,c=>simp only[R5,d,c]at this ⊢;intro f;obtain⟨p,q,n,m,o⟩:=this f;exact⟨p,q,n,m.kept k,o.kept k⟩
  |10,this,c=>simp only[R5,c]at this ⊢;obtain⟨p,q,n,m,o⟩:=this;exact⟨p,q,n,m.kept k,o.kept k⟩
  |11,this,c=>simp only[R5,c]at this ⊢;obtain⟨p,n,m⟩:=this;exact⟨p,n,m.kept k⟩
  |12,this,c=>simp only[R5,c]at this ⊢;exact this.kept k
  |13,this,c=>simp only[R5,c]at this ⊢;exact this
  |14,this,c=>simp only[R5,d,c]at this ⊢;obtain⟨b,n,m,o⟩:=this;exact⟨b,n,m,fun f=>(o f).kept k (by simp)⟩
  |15,this,c =>
   simp only[R5]at this ⊢;obtain⟨g,b,p,n,m,o⟩:=this;refine⟨fun k h1 h2 h3=>lw (g k h1 h2 h3),b,p,?_,?_,o.kept k (by simp)⟩
   ·rw[aY (fun e=>by rw[<-e,g 14 (by decide) (by decide) (by decide)]at hi;cases hi)];exact n
   ·rw[aY (fun e=>by rw[<-e,g 11 (by decide) (by decide) (by decide)]at hi;cases hi)];exact m
  |16,this,c=>simp only[R5,c]at this ⊢;exact this.kept k
  |17,this,c=>simp only[R5,c]at this ⊢;exact this
  |_+18,_,_=>trivial
theorem San5.store{v:Value}{b:Nat}{cs:List Value}(h:San5 W TV SV l vs w)(hall:∀k,k < 15->k≠12->k≠13->l k=true)(e14:vs 14=.pointer (some ⟨b,0,none⟩))(hbW:W.heap.size<=b)(hb:Blk w b 67 #[.slice none 0 0,.slice none 0 0,.slice none 0 0])
  (e11:vs 11=.agg (List.toArray cs)) (hcs:Blk w' b 67 cs.toArray) (k:Kept [b] w w'):San5 W TV SV (updV l 15 true) (updV vs 15 v) w':=by
 refine⟨h.1.fresh k (by simpa using hbW),fun j hj=>?_⟩;have c:updV l 15 true 15=true:=aE
 by_cases hji:j=15
 ·subst hji;simp only[R5];exact⟨fun k h1 h2 h3=>lw (hall k h1 h2 h3),b,cs,by rw[aY (by decide)];exact e14,by rw[aY (by decide)];exact e11,hcs⟩
 ·have g:l j=true:=by rwa [aY hji]at hj
  have a:updV vs 15 v j=vs j:=aY hji;have:=h.2 j g
  match j,this,a with
  |0,this,a=>simp only[R5,c];intro d;cases d
  |1,this,a=>simp only[R5,c];intro d;cases d
  |2,this,a=>simp only[R5,c];intro d;cases d
  |3,this,a=>simp only[R5,c];intro d;cases d
  |4,this,a=>simp only[R5,c];intro d;cases d
  |5,this,a=>simp only[R5,c];intro d;cases d
  |6,this,a=>simp only[R5,a]at this ⊢;exact this
  |7,this,a=>simp only[R5,a]at this ⊢;exact this
  |8,this,a=>simp only[R5,c];intro d;cases d
  |9,this,a=>simp only[R5,c];intro d;cases d
  |10,this,a=>simp only[R5,a]at this ⊢;obtain⟨i,m,f,e,n⟩:=this;exact⟨i,m,f,e.store hb k,gK n hb k⟩
  |11,this,a=>simp only[R5,a]at this ⊢;obtain⟨i,f,e⟩:=this;exact⟨i,f,e.store hb k⟩
  |12,this,a=>simp only[R5,a]at this ⊢;exact gK this hb k
  |13,this,a=>simp only[R5,a]at this ⊢;exact this
  |14,this,a=>simp only[R5,c,a]at this ⊢;obtain⟨b',f,e,_⟩:=this;exact⟨b',f,e,fun d=>by cases d⟩
  |16,this,a=>simp only[R5,a]at this ⊢;exact gK this hb k
  |17,this,a=>simp only[R5,a]at this ⊢;exact this
  |_+18,_,_=>trivial
theorem San5.not15{i:Nat}(h:San5 W TV SV l vs w)(hi:l i=false)(h1:i < 15)(h2:i≠12)(h3:i≠13):l 15=false:=by
 cases h15:l 15 with
 |false=>rfl
 |true =>
  have:=h.2 15 h15;simp only[R5]at this;rw[this.1 i h1 h2 h3]at hi
  cases hi
theorem San5.done(h:San5 W TV SV l vs w)(hl:∀i,i < 18->l i=true):Kept [] W w/\∃b cs,vs 14=.pointer (some ⟨b,0,none⟩)/\W.heap.size<=b/\Blk w b 67 cs.toArray/\SanC w cs/\Row w 1 (vs 16) 2 (ints [4,9])/\vs 17=.int .i64 0:=by
 have f:=h.2 14 (hl 14 (by decide));have e:=h.2 15 (hl 15 (by decide));have g:=h.2 11 (hl 11 (by decide));have d:=h.2 16 (hl 16 (by decide));have c:=h.2 17 (hl 17 (by decide));simp only[R5]at f e g d c;obtain⟨b,k,p,_⟩:=f;obtain⟨_,b',cs,a,o,n⟩:=e;obtain⟨cs',j,m⟩:=g;rw[k]at a;rw[o]at j;injection a with a;injection a with a;injection a with a;subst a;injection j with j
 have e6':cs=cs':=by simpa using j
 subst e6';exact⟨h.1,b,cs,k,p,n,m,d,c⟩
end
open Go.Proofs.Tryz
open Lib(hid)
theorem wQ{w2:World}{tmps:Array Value}{v0 v1 v2 v3 X:Value}{b:Nat}{R:Ending->World->Prop}(hb:Blk w2 b 36 #[v0,v1,v2,v3])(h0:tmps[0]?.getD undef=.pointer (some ⟨b,0,none⟩))
  (hX:.agg #[v0,v1,v2,v3]=X) (hR:R (.returned X) w2) :
  bodyPost prog Tryz.f25 R Exit.ret { tmps:=tmps,defers:=[] } w2:=by
 subst hX;have c0:w2.cell? ⟨b,0,none⟩=some v0:=hb.cell 0;have c1:w2.cell? ⟨b,1,none⟩=some v1:=hb.cell 1;have c2:w2.cell? ⟨b,2,none⟩=some v2:=hb.cell 2;have c3:w2.cell? ⟨b,3,none⟩=some v3:=hb.cell 3;refine bodyPost_ret (v:=.agg #[v0,v1,v2,v3]) ?_ rfl hR;simp only[results,results25]
 simp[go_sem,h0,c0,c1,c2,c3]
theorem jx(w:World):Calls prog 25 #[] w fun e w'=>Kept [] w w'/\∃a:Option Addr,e=.returned (.agg #[.string ⟨#[105,100]⟩,.int .i64 4,.slice a 1 1,.slice none 0 0])/\Row w' 1 (.slice a 1 1) 1 (strs [[97,103,101]]):=by
 obtain⟨W,f⟩:∃W,w.alloc (.cells #[.string ⟨#[]⟩,.int .i64 0,.slice none 0 0,.slice none 0 0] 36)=W:=⟨_,rfl⟩;have h:Blk W w.heap.size 36 #[.string ⟨#[]⟩,.int .i64 0,.slice none 0 0,.slice none 0 0]:=f▸Blk.new _ _ _;have hK:Kept [] w W:=f▸(Kept.refl _ _).alloc _;have g:=h.lt;have b:=h.alloc (.cells #[.string ⟨#[97,103,101]⟩] 9);have u:(W.alloc (.cells #[.string ⟨#[97,103,101]⟩] 9)).cell? ⟨w.heap.size,0,none⟩=some (.string ⟨#[]⟩):=b.cell 0;have t:(W.alloc (.cells #[.string ⟨#[97,103,101]⟩] 9)).cell? ⟨w.heap.size,1,none⟩=some (.int .i64 0):=b.cell 1;have s:(W.alloc (.cells #[.string ⟨#[97,103,101]⟩] 9)).cell? ⟨w.heap.size,2,none⟩=some (.slice none 0 0):=b.cell 2;have r:(W.alloc (.cells #[.string ⟨#[97,103,101]⟩] 9)).cell? ⟨w.heap.size,3,none⟩=some (.slice none 0 0):=b.cell 3;have q:=b.frozen 0;have o:=b.frozen 1;have n:=b.frozen 2;have m:=b.frozen 3;have i:=hid f;have k:=hid hK;have c:=hid b;clear f h hK b g
 go_enter func25,ntmps25
 go_upto_region 1 with(fail);have hW':=i.out;rw[hW'];clear hW';go_wp2_with fail
 have d:W.heap.size≠w.heap.size:=by
  have:=c.out
  have l:W.heap.size=w.heap.size+1:=by rw[<-i.out,World.size_alloc]
  omega
 have j:=((((Blk.new W 9 #[.string ⟨#[97,103,101]⟩]).far (p:=⟨w.heap.size,0,none⟩) d (.string ⟨#[105,100]⟩)).far (p:=⟨w.heap.size,1,none⟩) d (.int .i64 4)).far (p:=⟨w.heap.size,2,none⟩) d (.slice (some ⟨W.heap.size,0,none⟩) 1 1)).far (p:=⟨w.heap.size,3,none⟩) d (.slice none 0 0);refine wQ ((((c.out.set_ 0 _).set_ 1 _).set_ 2 _).set_ 3 _) rfl rfl ⟨(((((k.out.alloc _).setCell (Or.inr (Nat.le_refl _)) _).setCell (Or.inr (Nat.le_refl _)) _).setCell (Or.inr (Nat.le_refl _)) _).setCell (Or.inr (Nat.le_refl _)) _),_,rfl,?_⟩;exact al (cs:=[.string ⟨#[97,103,101]⟩]) j rfl (by decide)
theorem te{w2:World}{tmps:Array Value}{v0 v1 v2 v3 v4 v5 v6 X:Value}{b:Nat}{R:Ending->World->Prop}(hb:Blk w2 b 42 #[v0,v1,v2,v3,v4,v5,v6])(h0:tmps[4]?.getD undef=.pointer (some ⟨b,0,none⟩))
  (hX:.agg #[v0,v1,v2,v3,v4,v5,v6]=X) (hR:R (.returned X) w2) :
  bodyPost prog Tryz.f26 R Exit.ret { tmps:=tmps,defers:=[] } w2:=by
 subst hX;have h:w2.cell? ⟨b,0,none⟩=some v0:=hb.cell 0;have g:w2.cell? ⟨b,1,none⟩=some v1:=hb.cell 1;have f:w2.cell? ⟨b,2,none⟩=some v2:=hb.cell 2;have e:w2.cell? ⟨b,3,none⟩=some v3:=hb.cell 3;have d:w2.cell? ⟨b,4,none⟩=some v4:=hb.cell 4;have c:w2.cell? ⟨b,5,none⟩=some v5:=hb.cell 5;have a:w2.cell? ⟨b,6,none⟩=some v6:=hb.cell 6;refine bodyPost_ret (v:=.agg #[v0,v1,v2,v3,v4,v5,v6]) ?_ rfl hR;simp only[results,results26]
 simp[go_sem,h0,h,g,f,e,d,c,a]
theorem iR(a b:Int)(w:World):Calls prog 26 #[.int .i64 a,.int .i64 b] w fun e w'=>Kept [] w w'/\∃ad:Option Addr,e=.returned (.agg #[.int .i64 0,.slice ad 2 2,.int .i64 0,.int .i64 0,.int .i64 0,.int .i64 0,.int .i64 0])/\Row w' 1 (.slice ad 2 2) 2 (ints [a,b]):=by
 obtain⟨W,f⟩:∃W,w.alloc (.cells #[.int .i64 0,.slice none 0 0,.int .i64 0,.int .i64 0,.int .i64 0,.int .i64 0,.int .i64 0] 42)=W:=⟨_,rfl⟩;have h:Blk W w.heap.size 42 #[.int .i64 0,.slice none 0 0,.int .i64 0,.int .i64 0,.int .i64 0,.int .i64 0,.int .i64 0]:=f▸Blk.new _ _ _;have hK:Kept [] w W:=f▸(Kept.refl _ _).alloc _;have c:=h.alloc (.cells #[.int .i64 a,.int .i64 b] 3);have B:(W.alloc (.cells #[.int .i64 a,.int .i64 b] 3)).cell? ⟨w.heap.size,0,none⟩=some (.int .i64 0):=c.cell 0;have A:(W.alloc (.cells #[.int .i64 a,.int .i64 b] 3)).cell? ⟨w.heap.size,1,none⟩=some (.slice none 0 0):=c.cell 1;have z:(W.alloc (.cells #[.int .i64 a,.int .i64 b] 3)).cell? ⟨w.heap.size,2,none⟩=some (.int .i64 0):=c.cell 2;have y:(W.alloc (.cells #[.int .i64 a,.int .i64 b] 3)).cell? ⟨w.heap.size,3,none⟩=some (.int .i64 0):=c.cell 3;have x:(W.alloc (.cells #[.int .i64 a,.int .i64 b] 3)).cell? ⟨w.heap.size,4,none⟩=some (.int .i64 0):=c.cell 4;have v:(W.alloc (.cells #[.int .i64 a,.int .i64 b] 3)).cell? ⟨w.heap.size,5,none⟩=some (.int .i64 0):=c.cell 5;have u:(W.alloc (.cells #[.int .i64 a,.int .i64 b] 3)).cell? ⟨w.heap.size,6,none⟩=some (.int .i64 0):=c.cell 6;have t:=c.frozen 0;have s:=c.frozen 1;have r:=c.frozen 2;have q:=c.frozen 3;have o:=c.frozen 4;have n:=c.frozen 5;have m:=c.frozen 6;have i:=hid f;have k:=hid hK;have g:=hid c;clear f h hK c
 go_enter func26,ntmps26
 go_upto_region 1 with(fail);have hW':=i.out;rw[hW'];clear hW';go_wp2_with fail
 have d:W.heap.size≠w.heap.size:=by
  have l:W.heap.size=w.heap.size+1:=by rw[<-i.out,World.size_alloc]
  omega
 have j:=((((((((Blk.new W 3 #[.int .i64 a,.int .i64 b]).far (p:=⟨w.heap.size,0,none⟩) d (.int .i64 0)).far (p:=⟨w.heap.size,1,none⟩) d (.slice (some ⟨W.heap.size,0,none⟩) 2 2)).far (p:=⟨w.heap.size,2,none⟩) d (.int .i64 0)).far (p:=⟨w.heap.size,3,none⟩) d (.int .i64 0)).far (p:=⟨w.heap.size,4,none⟩) d (.int .i64 0)).far (p:=⟨w.heap.size,5,none⟩) d (.int .i64 0)).far (p:=⟨w.heap.size,6,none⟩) d (.int .i64 0));refine te (((((((g.out.set_ 0 _).set_ 1 _).set_ 2 _).set_ 3 _).set_ 4 _).set_ 5 _).set_ 6 _) rfl rfl ⟨((((((((k.out.alloc _).setCell (Or.inr (Nat.le_refl _)) _).setCell (Or.inr (Nat.le_refl _)) _).setCell (Or.inr (Nat.le_refl _)) _).setCell (Or.inr (Nat.le_refl _)) _).setCell (Or.inr (Nat.le_refl _)) _).setCell (Or.inr (Nat.le_refl _)) _).setCell (Or.inr (Nat.le_refl _)) _),_,rfl,?_⟩;exact al (cs:=[.int .i64 a,.int .i64 b]) j rfl (by decide)
theorem eW(va vb:Value)(a b:List Int)(w:World)(ha:Row w 1 va a.length (ints a))(hb:Row w 1 vb b.length (ints b)) :
  Calls prog 20 #[va,vb] w fun e w'=>e=.returned (.bool (decide (a=b)))/\Kept [] w w':=by
 obtain⟨G,C,rfl,u,_⟩:=ha.form;obtain⟨F,B,rfl,t,_⟩:=hb.form
 by_cases hl:a.length=b.length
 ·have o:((a.length:Int) != (b.length:Int))=false:=by simp;omega
  have s:=hid hl;clear hl
  go_enter func20,ntmps20
  go_wp2_with fail
  go_loopw [5] (fun i wr=>∃k:Nat,k<=a.length/\i=.int .i64 k/\(a=b↔a.drop k=b.drop k)/\Kept [] w wr) (fun i _=>a.length - (intOf i).toNat)
  case atStart=>exact⟨0,Nat.zero_le _,rfl,by simp,Kept.refl _ _⟩
  case round =>
   obtain⟨k,A,rfl,r,d⟩:=hrel;have q:=hid r;clear r
   by_cases hlt:k < a.length
   ·have j:k < b.length:=by have:=s.out;omega
    obtain⟨E,z,rfl,m⟩:=(ha.kept d).at_ (by omega);obtain⟨D,y,rfl,l⟩:=(hb.kept d).at_ (by omega);have x:=m k _ (bu hlt);have v:=l k _ (bu j);have g:a.drop k=a[k]::a.drop (k+1):=List.drop_eq_getElem_cons hlt;have f:b.drop k=b[k]::b.drop (k+1):=List.drop_eq_getElem_cons j
    by_cases he:a[k]=b[k]
    ·have p:(a[k] != b[k])=false:=by simp[he]
     have c:a=b↔a.drop (k+1)=b.drop (k+1):=by rw[q.out,g,f,he];exact⟨fun h=>(List.cons.inj h).2,fun h=>by rw[h]⟩
     have n:=hid c;clear c g f he m l;go_wp2_with fail
     go_quiet (fail)
     go_wp2_with fail
     go_roundw
     case rel=>exact⟨k+1,by omega,by go_num,n.out,d.drewN _⟩
     case measure=>simp[intOf];omega
    ·have p:(a[k] != b[k])=true:=by simp[he]
     have c:¬a=b:=by rw[q.out,g,f];intro h;injection h with h1;exact he h1
     have n:=hid c;clear c g f he m l;go_wp2_with fail
     go_quiet (fail)
     go_wp2_with fail;go_ret;exact⟨by rw[decide_eq_false n.out];rfl,d.drewN _⟩
   ·obtain rfl:k=a.length:=by omega
    have c:a=b:=by rw[q.out,List.drop_length,s.out,List.drop_length]
    have n:=hid c;clear c;go_wp2_with fail;go_ret;exact⟨by rw[decide_eq_true n.out];rfl,d⟩
 ·have o:((a.length:Int) != (b.length:Int))=true:=by simp;omega
  have c:¬a=b:=fun h=>hl (by rw[h]);have n:=hid c;clear c hl
  go_enter func20,ntmps20
  go_wp2_with fail;go_ret;exact⟨by rw[decide_eq_false n.out];rfl,Kept.refl _ _⟩
end Go.Proofs.YtpcmamoomaddoaaGreatDoor
