import Derived.Test.YtpcmamoomaddoaaGreatDoorFea
set_option maxRecDepth 100000
set_option maxHeartbeats 32000000
namespace Go.Proofs.YtpcmamoomaddoaaGreatDoor
open Go.RowKit Go.Maps
open Lib(hid)
/-- the row of a use that is a member's -/
def fixR(nm m:Nat)(b:Bool):List Bool:=(List.replicate nm false).set m b
theorem iH{w:World}{v:Value}{can:List (List Bool)}(h:aj fK 1 w v can):∃(l:List Value),Row w 1 v can.length l/\(∀u∈l,u.oneCell'=true)/\∀(k:Nat) (r:List Bool),can[k]?=some r->∃u,l[k]?=some u/\Row w 1 u r.length (aB r):=by
 obtain⟨d,o,i,n,m⟩:=h
 have one:∀c∈d,∃u,c=[u]:=fun c hc=>by
  have:=i c hc
  match c,this with
  | [u],_=>exact⟨u,rfl⟩
 have e:∀k r,can[k]?=some r->∃u,d.flatten[k]?=some u/\Row w 1 u r.length (aB r):=fun k r g=>by
  obtain⟨c,b,v,rfl,j⟩:=n k r g;have:=cd d 1 k 0 [v] i b (by omega);rw[Nat.mul_one,Nat.add_zero]at this;exact⟨v,this,j⟩
 refine⟨d.flatten,m,fun u hu=>?_,e⟩;obtain⟨k,g⟩:=List.getElem?_of_mem hu;have f:=(List.getElem?_eq_some_iff.1 g).1;rw[dC d 1 i,Nat.mul_one,o]at f;obtain⟨u',b,j⟩:=e k _ (List.getElem?_eq_getElem f);rw[g]at b;injection b with b;subst b;obtain⟨a,c,rfl,_⟩:=j.form
 rfl
theorem jS{w:World}{B:Nat}{e:TypeId}{v:Value}{n:Nat}{l:List Value}(h:w.ownsRow B e 1 v n l){j:Nat}(hj:j < n):∃g c x0,v=.slice (some ⟨g,0,none⟩) n c/\B<=g/\g < w.heap.size/\g∈obl v/\l[j]?=some x0/\w.cell? ⟨g,j,none⟩=some x0/\w.frozen? ⟨g,j,none⟩=false /\
  ∀x:Value,(w.setCell ⟨g,j,none⟩ x).ownsRow B e 1 v n (l.set j x):=by
 have t:l.length=n:=by simpa using h.1
 rcases h.2 with⟨_,u⟩|⟨g,d,a,rfl,m,o,s,r,q,p⟩
 ·omega
 ·have b:a.toList.take n=l:=by simpa using p
  have k:a.size=d:=by simpa using q
  have i:Blk w g e a:=o
  have f:j < l.length:=by omega
  refine⟨g,d,l[j],rfl,m,i.lt,cD rfl,List.getElem?_eq_getElem f,?_,i.frozen j,fun x=>?_⟩
  ·rw[i.cell j,<-List.getElem?_eq_getElem f,<-b,List.getElem?_take,if_pos hj]
   simp
  ·refine⟨by rw[List.length_set];exact h.1,Or.inr ⟨g,d,a.setIfInBounds j x,rfl,m,i.set_ j _,s,r,by simpa using k,?_⟩⟩;rw[Nat.mul_one,Array.toList_setIfInBounds,List.take_set,b]
theorem wZ{W0:World}{kb:Nat}{c:Crw}{can:List (List Bool)}(hr:Rck W0 kb c can){u m:Nat}(hu:u < c.us.length)(hm:m < c.ms.length) :
  Calls Tryz.prog 145 #[.pointer (some ⟨kb,0,none⟩),.int .i64 (u:Int),.int .i64 (m:Int)] W0 fun e w'=>Kept [] W0 w'/\∃kb',e=.returned (.pointer (some ⟨kb',0,none⟩))/\Rck w' kb' c (can.set u (fixR c.ms.length m (canB can u m))):=by
 obtain⟨vq,vm,vu,vh,vc,o,ad,a9,Z,⟨qa,qn,qc,rfl⟩,⟨ha,hn,hc,rfl⟩⟩:=hr.rows;obtain⟨ma,mc,rfl,_,_⟩:=aj.form ad;obtain⟨ua,uc,rfl,_,_⟩:=aj.form a9;obtain⟨ca,cc,rfl,_,d1⟩:=aj.form Z;obtain⟨cl,q,a0,b9⟩:=iH Z;have D:can.length=c.us.length:=hr.len;obtain⟨f,ac⟩:∃n,c.ms.length=n:=⟨_,rfl⟩;obtain⟨j,ab⟩:∃n,c.us.length=n:=⟨_,rfl⟩;have hb:=hr.us.1;have bx:=hr.ms.1;have HR:=hid hr;rw[ac]at hm bx o ⊢;rw[ab]at hu hb D o;rw[D]at o q;have ci:=ml _ j cl W0 q a0 (by omega);have d6:=hid o;have bk:=hid q;have d9:=hid a0;have bl:=hid b9;have a1:=hid ac;have be:=hid ab;have s:=hid D;have cv:=hid ad;have cp:=hid a9;have d8:=hid Z;have k0:∀w',Kept [] W0 w'->w'.cell? ⟨kb,0,none⟩=some (.slice qa qn qc):=Kept.cellOf (o.cell 0);have k1:∀w',Kept [] W0 w'->w'.cell? ⟨kb,1,none⟩=some (.slice ma f mc):=Kept.cellOf (o.cell 1);have k2:∀w',Kept [] W0 w'->w'.cell? ⟨kb,2,none⟩=some (.slice ua j uc):=Kept.cellOf (o.cell 2);have k3:∀w',Kept [] W0 w'->w'.cell? ⟨kb,3,none⟩=some (.slice ha hn hc):=Kept.cellOf (o.cell 3);have k4:∀w',Kept [] W0 w'->w'.cell? ⟨kb,4,none⟩=some (.slice ca j cc):=Kept.cellOf (o.cell 4);have bd:Hid (∀w,Kept [] W0 w->Calls Tryz.prog 190 #[.slice ca j cc] w fun e w'=>∃a c,e=.returned (.slice a j c)/\w'.ownsRow w.heap.size 200 1 (.slice a j c) j cl/\Kept [] w w'):=hid fun w k=>ml _ j cl w (q.kept k) a0 (by omega);clear o q a0 b9 ac ab D ad a9 Z ci hr
 go_enter Tryz.func145,Tryz.ntmps145
 go_upto_region 1 with(fail);refine ar [] (fun w'=>Kept [] W0 w') (by kernel_rfl) (Kept.refl _ _).drew (fun hH=>?_);obtain⟨w1,b0⟩:∃y,W0.drew=y:=⟨_,rfl⟩;rw[b0]at hH ⊢;clear b0;refine ah [] (i:=0) (v:=?tv0a) rfl (by kernel_rfl) (by kernel_rfl) (by kernel_rfl) (by kernel_rfl) (fun _ _ _ h=>h) (Or.inl ⟨by rfl,?ty0a⟩) hH ?tr0a
 case ty0a=>intro w' d;(try dsimp only at d);go_simp;first|done|with_reducible rfl
 (try simp only[Act.put,List.setIfInBounds_toArray,List.set_cons_zero,List.set_cons_succ])
 refine ah [] (i:=1) (v:=?tv1a) rfl (by kernel_rfl) (by kernel_rfl) (by kernel_rfl) (by kernel_rfl) (fun _ _ _ h=>h) (Or.inl ⟨by rfl,?ty1a⟩) hH ?tr1a
 case ty1a=>intro w' d;(try dsimp only at d);go_simp;first|done|with_reducible rfl
 (try simp only[Act.put,List.setIfInBounds_toArray,List.set_cons_zero,List.set_cons_succ])
 refine ah [] (i:=2) (v:=?tv2a) rfl (by kernel_rfl) (by kernel_rfl) (by kernel_rfl) (by kernel_rfl) (fun _ _ _ h=>h) (Or.inl ⟨by rfl,?ty2a⟩) hH ?tr2a
 case ty2a=>intro w' d;(try dsimp only at d);go_simp;first|done|with_reducible rfl
 (try simp only[Act.put,List.setIfInBounds_toArray,List.set_cons_zero,List.set_cons_succ])
 refine ah [] (i:=3) (v:=?tv3a) rfl (by kernel_rfl) (by kernel_rfl) (by kernel_rfl) (by kernel_rfl) (fun _ _ _ h=>h) (Or.inl ⟨by rfl,?ty3a⟩) hH ?tr3a
 case ty3a=>intro w' d;(try dsimp only at d);go_simp;first|done|with_reducible rfl
 (try simp only[Act.put,List.setIfInBounds_toArray,List.set_cons_zero,List.set_cons_succ])
 refine ah [] (i:=4) (v:=?tv4a) rfl (by kernel_rfl) (by kernel_rfl) (by kernel_rfl) (by kernel_rfl) (fun _ _ _ h=>h) (Or.inl ⟨by rfl,?ty4a⟩) hH ?tr4a
 case ty4a=>intro w' d;(try dsimp only at d);go_simp;first|done|with_reducible rfl
 (try simp only[Act.put,List.setIfInBounds_toArray,List.set_cons_zero,List.set_cons_succ])
 refine ah [] (i:=5) (v:=?tv5a) rfl (by kernel_rfl) (by kernel_rfl) (by kernel_rfl) (by kernel_rfl) (fun _ _ _ h=>h) (Or.inl ⟨by rfl,?ty5a⟩) hH ?tr5a
 case ty5a=>intro w' d;(try dsimp only at d);go_simp;first|done|with_reducible rfl
 (try simp only[Act.put,List.setIfInBounds_toArray,List.set_cons_zero,List.set_cons_succ])
 refine ah [] (i:=6) (v:=?tv6a) rfl (by kernel_rfl) (by kernel_rfl) (by kernel_rfl) (by kernel_rfl) (fun _ _ _ h=>h) (Or.inl ⟨by rfl,?ty6a⟩) hH ?tr6a
 case ty6a=>intro w' d;(try dsimp only at d);go_simp;first|done|with_reducible rfl
 (try simp only[Act.put,List.setIfInBounds_toArray,List.set_cons_zero,List.set_cons_succ])
 refine ah [] (i:=7) (v:=?tv7a) rfl (by kernel_rfl) (by kernel_rfl) (by kernel_rfl) (by kernel_rfl) (fun _ _ _ h=>h) (Or.inl ⟨by rfl,?ty7a⟩) hH ?tr7a
 case ty7a=>intro w' d;(try dsimp only at d);go_simp;first|done|with_reducible rfl
 (try simp only[Act.put,List.setIfInBounds_toArray,List.set_cons_zero,List.set_cons_succ])
 refine ah [] (i:=8) (v:=?tv8a) rfl (by kernel_rfl) (by kernel_rfl) (by kernel_rfl) (by kernel_rfl) (fun _ _ _ h=>h) (Or.inl ⟨by rfl,?ty8a⟩) hH ?tr8a
 case ty8a=>intro w' d;(try dsimp only at d);go_simp;first|done|with_reducible rfl
 (try simp only[Act.put,List.setIfInBounds_toArray,List.set_cons_zero,List.set_cons_succ])
 refine ah [] (i:=9) (v:=?tv9a) rfl (by kernel_rfl) (by kernel_rfl) (by kernel_rfl) (by kernel_rfl) (fun _ _ _ h=>h) (Or.inl ⟨by rfl,?ty9a⟩) hH ?tr9a
 case ty9a=>intro w' d;(try dsimp only at d);go_simp;first|done|with_reducible rfl
 (try simp only[Act.put,List.setIfInBounds_toArray,List.set_cons_zero,List.set_cons_succ])
 refine ah [] (i:=10) (v:=?tv10a) rfl (by kernel_rfl) (by kernel_rfl) (by kernel_rfl) (by kernel_rfl) (fun _ _ _ h=>h) (Or.inl ⟨by rfl,?ty10a⟩) hH ?tr10a
 case ty10a=>intro w' d;(try dsimp only at d);go_simp;first|done|with_reducible rfl
 (try simp only[Act.put,List.setIfInBounds_toArray,List.set_cons_zero,List.set_cons_succ])
 refine ah [] (i:=11) (v:=?tv11a) rfl (by kernel_rfl) (by kernel_rfl) (by kernel_rfl) (by kernel_rfl) (fun _ _ _ h=>h) (Or.inl ⟨by rfl,?ty11a⟩) hH ?tr11a
 case ty11a=>intro w' d;(try dsimp only at d);go_simp;first|done|with_reducible rfl
 (try simp only[Act.put,List.setIfInBounds_toArray,List.set_cons_zero,List.set_cons_succ])
 have ap:=hid hH;refine ai (rs:=[12]) (by kernel_rfl) (by simp) ?_;refine ae.cons rfl (fun K hK=>?_) ae.nil;go_simp;have bn:=hid (bd.out w1 hH);go_wp2_with (go_at_call 190;with_reducible refine bn.out.mono ?_);rintro e w2 ⟨na,nc,rfl,N,kk⟩;refine hK.out _ _ (hH.trans kk) (fun hH=>?_);clear hK K bn
 (try simp only[Act.put,List.setIfInBounds_toArray,List.set_cons_zero,List.set_cons_succ])
 refine ah [] (i:=13) (v:=?tv13a) rfl (by kernel_rfl) (by kernel_rfl) (by kernel_rfl) (by kernel_rfl) (fun _ _ _ h=>h) (Or.inl ⟨by rfl,?ty13a⟩) hH ?tr13a
 case ty13a=>intro w' d;(try dsimp only at d);go_simp;first|done|with_reducible rfl
 (try simp only[Act.put,List.setIfInBounds_toArray,List.set_cons_zero,List.set_cons_succ])
 refine ai (rs:=[14]) (by kernel_rfl) (by simp) ?_;refine ae.cons rfl (fun K hK=>?_) ae.nil;go_simp;refine hK.out _ _ (hH.alloc _) (fun hH=>?_);clear hK K
 (try simp only[Act.put,List.setIfInBounds_toArray,List.set_cons_zero,List.set_cons_succ])
 refine ah [] (i:=15) (v:=?tv15a) rfl (by kernel_rfl) (by kernel_rfl) (by kernel_rfl) (by kernel_rfl) (fun _ _ _ h=>h) (Or.inl ⟨by rfl,?ty15a⟩) hH ?tr15a
 case ty15a=>intro w' d;(try dsimp only at d);go_simp;first|done|with_reducible rfl
 (try simp only[Act.put,List.setIfInBounds_toArray,List.set_cons_zero,List.set_cons_succ])
 refine ak (by kernel_rfl) ?_ _;obtain⟨R,X⟩:∃y,w2.alloc (.cells #[.slice qa qn qc,.slice ma f mc,.slice ua j uc,.slice ha hn hc,.slice na j nc] 199)=y:=⟨_,rfl⟩;obtain⟨nb,Y⟩:∃y,w2.heap.size=y:=⟨_,rfl⟩
 have an:Blk R nb 199 #[.slice qa qn qc,.slice ma f mc,.slice ua j uc,.slice ha hn hc,.slice na j nc]:=by rw[<-Y,<-X];exact Blk.new _ _ _
 have a3:W0.heap.size<=nb:=by rw[<-Y];exact(ap.out.trans kk).size
 have t:=ax N (X▸(Kept.refl [] w2).alloc _:Kept [] w2 R) (by simp);rw[X]at hH ⊢;rw[Y];obtain⟨g,gc,x0,af,c9,c8,ag,b8,b7,c6,c4⟩:=jS t hu;injection af with af _ hgc;subst af;subst hgc
 have c3:W0.heap.size<=g:=by have:=ap.out.size;omega
 have bp:=hid an;have d5:=hid a3;have ao:=hid t;have d7:=hid b8;have H3:=hid hH
 have c2:g≠nb:=by
  have:=(aA N g (by first|exact ag|simpa using ag)).2;omega
 -- region 2: a new U
 have j4:∀w',Kept [] R w'->w'.cell? ⟨nb,4,none⟩=some (.slice (some ⟨g,0,none⟩) j nc):=Kept.cellOf (an.cell 4);have l1:∀w',Kept [] R w'->w'.cell? ⟨kb,1,none⟩=some (.slice ma f mc):=Kept.cellOf (k1 _ hH);have g5:∀w',Kept [] R w'->w'.cell? ⟨g,u,none⟩=some x0:=Kept.cellOf b7
 have cz:(u:Int) < (j:Int):=by omega
 clear X Y an t N kk a3 c9 c8 ag b8 b7 c6 c4 hH ap bd;go_upto_region 2 with(fail);refine ar [13] (fun w'=>Kept [] R w') (by kernel_rfl) (Kept.refl _ _).drew (fun hH=>?_);obtain⟨w4,av⟩:∃y,R.drew=y:=⟨_,rfl⟩;rw[av]at hH ⊢;clear av;refine ah [13] (i:=0) (v:=?tv0b) rfl (by kernel_rfl) (by kernel_rfl) (by kernel_rfl) (by kernel_rfl) (fun _ _ _ h=>h) (Or.inl ⟨by rfl,?ty0b⟩) hH ?tr0b
 case ty0b=>intro w' d;(try dsimp only at d);go_simp;first|done|with_reducible rfl
 (try simp only[Act.put,List.setIfInBounds_toArray,List.set_cons_zero,List.set_cons_succ])
 refine ah [13] (i:=1) (v:=?tv1b) rfl (by kernel_rfl) (by kernel_rfl) (by kernel_rfl) (by kernel_rfl) (fun _ _ _ h=>h) (Or.inl ⟨by rfl,?ty1b⟩) hH ?tr1b
 case ty1b=>intro w' d;(try dsimp only at d);go_simp;first|done|with_reducible rfl
 (try simp only[Act.put,List.setIfInBounds_toArray,List.set_cons_zero,List.set_cons_succ])
 refine ah [13] (i:=2) (v:=?tv2b) rfl (by kernel_rfl) (by kernel_rfl) (by kernel_rfl) (by kernel_rfl) (fun _ _ _ h=>h) (Or.inl ⟨by rfl,?ty2b⟩) hH ?tr2b
 case ty2b=>intro w' d;(try dsimp only at d);go_simp;first|done|with_reducible rfl
 (try simp only[Act.put,List.setIfInBounds_toArray,List.set_cons_zero,List.set_cons_succ])
 refine ah [13] (i:=3) (v:=?tv3b) rfl (by kernel_rfl) (by kernel_rfl) (by kernel_rfl) (by kernel_rfl) (fun _ _ _ h=>h) (Or.inl ⟨by rfl,?ty3b⟩) hH ?tr3b
 case ty3b=>intro w' d;(try dsimp only at d);go_simp;first|done|with_reducible rfl
 (try simp only[Act.put,List.setIfInBounds_toArray,List.set_cons_zero,List.set_cons_succ])
 refine ah [13] (i:=4) (v:=?tv4b) rfl (by kernel_rfl) (by kernel_rfl) (by kernel_rfl) (by kernel_rfl) (fun _ _ _ h=>h) (Or.inl ⟨by rfl,?ty4b⟩) hH ?tr4b
 case ty4b=>intro w' d;(try dsimp only at d);go_simp;first|done|with_reducible rfl
 (try simp only[Act.put,List.setIfInBounds_toArray,List.set_cons_zero,List.set_cons_succ])
 refine ah [13] (i:=5) (v:=?tv5b) rfl (by kernel_rfl) (by kernel_rfl) (by kernel_rfl) (by kernel_rfl) (fun _ _ _ h=>h) (Or.inl ⟨by rfl,?ty5b⟩) hH ?tr5b
 case ty5b=>intro w' d;(try dsimp only at d);go_simp;first|done|with_reducible rfl
 (try simp only[Act.put,List.setIfInBounds_toArray,List.set_cons_zero,List.set_cons_succ])
 refine ah [13] (i:=6) (v:=?tv6b) rfl (by kernel_rfl) (by kernel_rfl) (by kernel_rfl) (by kernel_rfl) (fun _ _ _ h=>h) (Or.inl ⟨by rfl,?ty6b⟩) hH ?tr6b
 case ty6b=>intro w' d;(try dsimp only at d);go_simp;first|done|with_reducible rfl
 (try simp only[Act.put,List.setIfInBounds_toArray,List.set_cons_zero,List.set_cons_succ])
 refine ah [13] (i:=7) (v:=?tv7b) rfl (by kernel_rfl) (by kernel_rfl) (by kernel_rfl) (by kernel_rfl) (fun _ _ _ h=>h) (Or.inl ⟨by rfl,?ty7b⟩) hH ?tr7b
 case ty7b=>intro w' d;(try dsimp only at d);go_simp;first|done|with_reducible rfl
 (try simp only[Act.put,List.setIfInBounds_toArray,List.set_cons_zero,List.set_cons_succ])
 refine ah [13] (i:=8) (v:=?tv8b) rfl (by kernel_rfl) (by kernel_rfl) (by kernel_rfl) (by kernel_rfl) (fun _ _ _ h=>h) (Or.inl ⟨by rfl,?ty8b⟩) hH ?tr8b
 case ty8b=>intro w' d;(try dsimp only at d);go_simp;first|done|with_reducible rfl
 (try simp only[Act.put,List.setIfInBounds_toArray,List.set_cons_zero,List.set_cons_succ])
 refine ah [13] (i:=9) (v:=?tv9b) rfl (by kernel_rfl) (by kernel_rfl) (by kernel_rfl) (by kernel_rfl) (fun _ _ _ h=>h) (Or.inl ⟨by rfl,?ty9b⟩) hH ?tr9b
 case ty9b=>intro w' d;(try dsimp only at d);go_simp;first|done|with_reducible rfl
 (try simp only[Act.put,List.setIfInBounds_toArray,List.set_cons_zero,List.set_cons_succ])
 refine ah [13] (i:=10) (v:=?tv10b) rfl (by kernel_rfl) (by kernel_rfl) (by kernel_rfl) (by kernel_rfl) (fun _ _ _ h=>h) (Or.inl ⟨by rfl,?ty10b⟩) hH ?tr10b
 case ty10b=>intro w' d;(try dsimp only at d);go_simp;first|done|with_reducible rfl
 (try simp only[Act.put,List.setIfInBounds_toArray,List.set_cons_zero,List.set_cons_succ])
 have b5:=gN f w4 (by omega);obtain⟨cm,O⟩:∃a:Array Value,(aB (List.replicate f false)).toArray=a:=⟨_,rfl⟩;rw[O]at b5;have bo:=hid O;clear O;have H4:=hid hH;refine ai (rs:=[11]) (by kernel_rfl) (by simp) ?_;refine ae.cons rfl (fun K hK=>?_) ae.nil;go_simp;refine hK.out _ _ (hH.alloc _) (fun hH=>?_);clear hK K b5
 (try simp only[Act.put,List.setIfInBounds_toArray,List.set_cons_zero,List.set_cons_succ])
 refine ah [13] (i:=12) (v:=?tv12b) rfl (by kernel_rfl) (by kernel_rfl) (by kernel_rfl) (by kernel_rfl) (fun _ _ _ h=>h) (Or.inl ⟨by rfl,?ty12b⟩) hH ?tr12b
 case ty12b=>intro w' d;(try dsimp only at d);go_simp;first|done|with_reducible rfl
 (try simp only[Act.put,List.setIfInBounds_toArray,List.set_cons_zero,List.set_cons_succ])
 obtain⟨w5,a8⟩:∃y,w4.alloc (.cells cm 4)=y:=⟨_,rfl⟩;obtain⟨p,L⟩:∃y,w4.heap.size=y:=⟨_,rfl⟩
 have bb:Blk w5 p 4 (aB (List.replicate f false)).toArray:=by rw[<-L,<-a8,bo.out];exact Blk.new _ _ _
 rw[a8]at hH ⊢;rw[L];have cx:=hid bb;have H5:=hid hH
 have d2:R.heap.size<=p:=by rw[<-L];exact H4.out.size
 have c5:=g5 _ hH
 have f5:w5.frozen? ⟨g,u,none⟩=false:=by
  obtain⟨_,_,_,e,_,_,_,_,_,h,_⟩:=jS (ax ao.out hH (by simp)) hu;injection e with e;injection e with e;injection e with e;subst e;exact h
 have d4:=hid L;clear a8 bb L;refine ai (rs:=[13]) (by kernel_rfl) (by simp) ?_;refine ae.last rfl (by kernel_rfl) (fun K hK=>?_);go_simp;refine hK.out _ _ ?_;clear hK K
 (try simp only[Act.put,List.setIfInBounds_toArray,List.set_cons_zero,List.set_cons_succ])
 refine ak (by kernel_rfl) ?_ _;obtain⟨F,J⟩:∃y,w5.setCell ⟨g,u,none⟩ (.slice (some ⟨p,0,none⟩) f f)=y:=⟨_,rfl⟩;have V:Kept [g] w5 F:=J▸(Kept.refl _ _).setCell (Or.inl (by simp)) _;have d3:g < R.heap.size:=(aA ao.out g (cD rfl)).2
 have M:F.ownsRow w1.heap.size 200 1 (.slice (some ⟨g,0,none⟩) j nc) j (cl.set u (.slice (some ⟨p,0,none⟩) f f)):=by
  obtain⟨_,_,_,e,_,_,_,_,_,_,h⟩:=jS (ax ao.out H5.out (by simp)) hu;injection e with e;injection e with e;injection e with e;subst e;exact J▸h _
 have P:Blk F nb 199 #[.slice qa qn qc,.slice ma f mc,.slice ua j uc,.slice ha hn hc,.slice (some ⟨g,0,none⟩) j nc]:=(bp.out.kept H5.out (by simp)).kept V (by simpa using Ne.symm c2);have a6:=cx.out.kept V (by simp;omega);have I:Kept [] W0 F:=(H3.out.trans H5.out).fresh V (by simpa using c3)
 have b6:F.cell? ⟨g,u,none⟩=some (.slice (some ⟨p,0,none⟩) f f):=by rw[<-J];exact World.cell?_setCell_same _ _ _ c5
 obtain⟨cb,co,ba,q⟩:=bk.out.at_ (by omega);subst ba;obtain⟨U,C⟩:∃r,can[u]?=some r:=⟨_,List.getElem?_eq_getElem (by rw[s.out];exact hu)⟩;obtain⟨ru,a2,B⟩:=bl.out u U C
 have b2:U.length=f:=by rw[HR.out.lens U (List.mem_of_getElem? C)];exact a1.out
 rw[b2]at B;obtain⟨ra,rc,rfl,_,_⟩:=B.form;obtain⟨rb,ro,b4,b3⟩:=B.at_ (by omega);subst b4;obtain⟨A,Q⟩:∃b,canB can u m=b:=⟨_,rfl⟩
 have bc:W0.cell? ⟨rb,ro+m,none⟩=some (.bool A):=b3 m _ (by
  rw[<-Q]
  unfold canB tf aB
  rw[C,List.getElem?_map,Option.getD_some,List.getElem?_eq_getElem (by omega)]
  rfl)
 rw[J];have m1:∀w',Kept [] F w'->w'.cell? ⟨nb,4,none⟩=some (.slice (some ⟨g,0,none⟩) j nc):=Kept.cellOf (P.cell 4);have m2:∀w',Kept [] F w'->w'.cell? ⟨g,u,none⟩=some (.slice (some ⟨p,0,none⟩) f f):=Kept.cellOf b6;have m3:∀w',Kept [] F w'->w'.cell? ⟨kb,4,none⟩=some (.slice (some ⟨cb,co,none⟩) j cc):=Kept.cellOf (k4 _ I);have m4:∀w',Kept [] F w'->w'.cell? ⟨cb,co+u,none⟩=some (.slice (some ⟨rb,ro,none⟩) f rc):=Kept.cellOf (Kept.cellOf (q u _ a2) _ I);have m5:∀w',Kept [] F w'->w'.cell? ⟨rb,ro+m,none⟩=some (.bool A):=Kept.cellOf (Kept.cellOf bc _ I)
 have d0:(m:Int) < (f:Int):=by omega
 have H6:=hid I;have cu:=hid M;have cy:=hid P;have cs:=hid a6;have bq:=hid Q;clear J V M P a6 I b6 q a2 B b3 bc Q C b2 hH c5 f5 j4 l1 g5 k0 k1 k2 k3 k4;go_upto_region 3 with(fail);refine ar [19] (fun w'=>Kept [] F w') (by kernel_rfl) (Kept.refl _ _).drew (fun hH=>?_);obtain⟨w7,au⟩:∃y,F.drew=y:=⟨_,rfl⟩;rw[au]at hH ⊢;clear au;refine ah [19] (i:=0) (v:=?tv0c) rfl (by kernel_rfl) (by kernel_rfl) (by kernel_rfl) (by kernel_rfl) (fun _ _ _ h=>h) (Or.inl ⟨by rfl,?ty0c⟩) hH ?tr0c
 case ty0c=>intro w' d;(try dsimp only at d);go_simp;first|done|with_reducible rfl
 (try simp only[Act.put,List.setIfInBounds_toArray,List.set_cons_zero,List.set_cons_succ])
 refine ah [19] (i:=1) (v:=?tv1c) rfl (by kernel_rfl) (by kernel_rfl) (by kernel_rfl) (by kernel_rfl) (fun _ _ _ h=>h) (Or.inl ⟨by rfl,?ty1c⟩) hH ?tr1c
 case ty1c=>intro w' d;(try dsimp only at d);go_simp;first|done|with_reducible rfl
 (try simp only[Act.put,List.setIfInBounds_toArray,List.set_cons_zero,List.set_cons_succ])
 refine ah [19] (i:=2) (v:=?tv2c) rfl (by kernel_rfl) (by kernel_rfl) (by kernel_rfl) (by kernel_rfl) (fun _ _ _ h=>h) (Or.inl ⟨by rfl,?ty2c⟩) hH ?tr2c
 case ty2c=>intro w' d;(try dsimp only at d);go_simp;first|done|with_reducible rfl
 (try simp only[Act.put,List.setIfInBounds_toArray,List.set_cons_zero,List.set_cons_succ])
 refine ah [19] (i:=3) (v:=?tv3c) rfl (by kernel_rfl) (by kernel_rfl) (by kernel_rfl) (by kernel_rfl) (fun _ _ _ h=>h) (Or.inl ⟨by rfl,?ty3c⟩) hH ?tr3c
 case ty3c=>intro w' d;(try dsimp only at d);go_simp;first|done|with_reducible rfl
 (try simp only[Act.put,List.setIfInBounds_toArray,List.set_cons_zero,List.set_cons_succ])
 refine ah [19] (i:=4) (v:=?tv4c) rfl (by kernel_rfl) (by kernel_rfl) (by kernel_rfl) (by kernel_rfl) (fun _ _ _ h=>h) (Or.inl ⟨by rfl,?ty4c⟩) hH ?tr4c
 case ty4c=>intro w' d;(try dsimp only at d);go_simp;first|done|with_reducible rfl
 (try simp only[Act.put,List.setIfInBounds_toArray,List.set_cons_zero,List.set_cons_succ])
 refine ah [19] (i:=5) (v:=?tv5c) rfl (by kernel_rfl) (by kernel_rfl) (by kernel_rfl) (by kernel_rfl) (fun _ _ _ h=>h) (Or.inl ⟨by rfl,?ty5c⟩) hH ?tr5c
 case ty5c=>intro w' d;(try dsimp only at d);go_simp;first|done|with_reducible rfl
 (try simp only[Act.put,List.setIfInBounds_toArray,List.set_cons_zero,List.set_cons_succ])
 refine ah [19] (i:=6) (v:=?tv6c) rfl (by kernel_rfl) (by kernel_rfl) (by kernel_rfl) (by kernel_rfl) (fun _ _ _ h=>h) (Or.inl ⟨by rfl,?ty6c⟩) hH ?tr6c
 case ty6c=>intro w' d;(try dsimp only at d);go_simp;first|done|with_reducible rfl
 (try simp only[Act.put,List.setIfInBounds_toArray,List.set_cons_zero,List.set_cons_succ])
 refine ah [19] (i:=7) (v:=?tv7c) rfl (by kernel_rfl) (by kernel_rfl) (by kernel_rfl) (by kernel_rfl) (fun _ _ _ h=>h) (Or.inl ⟨by rfl,?ty7c⟩) hH ?tr7c
 case ty7c=>intro w' d;(try dsimp only at d);go_simp;first|done|with_reducible rfl
 (try simp only[Act.put,List.setIfInBounds_toArray,List.set_cons_zero,List.set_cons_succ])
 refine ah [19] (i:=8) (v:=?tv8c) rfl (by kernel_rfl) (by kernel_rfl) (by kernel_rfl) (by kernel_rfl) (fun _ _ _ h=>h) (Or.inl ⟨by rfl,?ty8c⟩) hH ?tr8c
 case ty8c=>intro w' d;(try dsimp only at d);go_simp;first|done|with_reducible rfl
 (try simp only[Act.put,List.setIfInBounds_toArray,List.set_cons_zero,List.set_cons_succ])
 refine ah [19] (i:=9) (v:=?tv9c) rfl (by kernel_rfl) (by kernel_rfl) (by kernel_rfl) (by kernel_rfl) (fun _ _ _ h=>h) (Or.inl ⟨by rfl,?ty9c⟩) hH ?tr9c
 case ty9c=>intro w' d;(try dsimp only at d);go_simp;first|done|with_reducible rfl
 (try simp only[Act.put,List.setIfInBounds_toArray,List.set_cons_zero,List.set_cons_succ])
 refine ah [19] (i:=10) (v:=?tv10c) rfl (by kernel_rfl) (by kernel_rfl) (by kernel_rfl) (by kernel_rfl) (fun _ _ _ h=>h) (Or.inl ⟨by rfl,?ty10c⟩) hH ?tr10c
 case ty10c=>intro w' d;(try dsimp only at d);go_simp;first|done|with_reducible rfl
 (try simp only[Act.put,List.setIfInBounds_toArray,List.set_cons_zero,List.set_cons_succ])
 refine ah [19] (i:=11) (v:=?tv11c) rfl (by kernel_rfl) (by kernel_rfl) (by kernel_rfl) (by kernel_rfl) (fun _ _ _ h=>h) (Or.inl ⟨by rfl,?ty11c⟩) hH ?tr11c
 case ty11c=>intro w' d;(try dsimp only at d);go_simp;first|done|with_reducible rfl
 (try simp only[Act.put,List.setIfInBounds_toArray,List.set_cons_zero,List.set_cons_succ])
 refine ah [19] (i:=12) (v:=?tv12c) rfl (by kernel_rfl) (by kernel_rfl) (by kernel_rfl) (by kernel_rfl) (fun _ _ _ h=>h) (Or.inl ⟨by rfl,?ty12c⟩) hH ?tr12c
 case ty12c=>intro w' d;(try dsimp only at d);go_simp;first|done|with_reducible rfl
 (try simp only[Act.put,List.setIfInBounds_toArray,List.set_cons_zero,List.set_cons_succ])
 refine ah [19] (i:=13) (v:=?tv13c) rfl (by kernel_rfl) (by kernel_rfl) (by kernel_rfl) (by kernel_rfl) (fun _ _ _ h=>h) (Or.inl ⟨by rfl,?ty13c⟩) hH ?tr13c
 case ty13c=>intro w' d;(try dsimp only at d);go_simp;first|done|with_reducible rfl
 (try simp only[Act.put,List.setIfInBounds_toArray,List.set_cons_zero,List.set_cons_succ])
 refine ah [19] (i:=14) (v:=?tv14c) rfl (by kernel_rfl) (by kernel_rfl) (by kernel_rfl) (by kernel_rfl) (fun _ _ _ h=>h) (Or.inl ⟨by rfl,?ty14c⟩) hH ?tr14c
 case ty14c=>intro w' d;(try dsimp only at d);go_simp;first|done|with_reducible rfl
 (try simp only[Act.put,List.setIfInBounds_toArray,List.set_cons_zero,List.set_cons_succ])
 refine ah [19] (i:=15) (v:=?tv15c) rfl (by kernel_rfl) (by kernel_rfl) (by kernel_rfl) (by kernel_rfl) (fun _ _ _ h=>h) (Or.inl ⟨by rfl,?ty15c⟩) hH ?tr15c
 case ty15c=>intro w' d;(try dsimp only at d);go_simp;first|done|with_reducible rfl
 (try simp only[Act.put,List.setIfInBounds_toArray,List.set_cons_zero,List.set_cons_succ])
 refine ah [19] (i:=16) (v:=?tv16c) rfl (by kernel_rfl) (by kernel_rfl) (by kernel_rfl) (by kernel_rfl) (fun _ _ _ h=>h) (Or.inl ⟨by rfl,?ty16c⟩) hH ?tr16c
 case ty16c=>intro w' d;(try dsimp only at d);go_simp;first|done|with_reducible rfl
 (try simp only[Act.put,List.setIfInBounds_toArray,List.set_cons_zero,List.set_cons_succ])
 refine ah [19] (i:=17) (v:=?tv17c) rfl (by kernel_rfl) (by kernel_rfl) (by kernel_rfl) (by kernel_rfl) (fun _ _ _ h=>h) (Or.inl ⟨by rfl,?ty17c⟩) hH ?tr17c
 case ty17c=>intro w' d;(try dsimp only at d);go_simp;first|done|with_reducible rfl
 (try simp only[Act.put,List.setIfInBounds_toArray,List.set_cons_zero,List.set_cons_succ])
 refine ah [19] (i:=18) (v:=?tv18c) rfl (by kernel_rfl) (by kernel_rfl) (by kernel_rfl) (by kernel_rfl) (fun _ _ _ h=>h) (Or.inl ⟨by rfl,?ty18c⟩) hH ?tr18c
 case ty18c=>intro w' d;(try dsimp only at d);go_simp;first|done|with_reducible rfl
 (try simp only[Act.put,List.setIfInBounds_toArray,List.set_cons_zero,List.set_cons_succ])
 have E:=cs.out.kept hH (by simp)
 have c7:w7.cell? ⟨p,m,none⟩=some (.bool false):=by
  rw[E.cell m]
  simp[aB,hm]
 have f7:=E.frozen m;have cq:=hid E;have H7:=hid hH;clear E;refine ai (rs:=[19]) (by kernel_rfl) (by simp) ?_;refine ae.last rfl (by kernel_rfl) (fun K hK=>?_);go_simp;refine hK.out _ _ ?_;clear hK K
 (try simp only[Act.put,List.setIfInBounds_toArray,List.set_cons_zero,List.set_cons_succ])
 refine ak (by kernel_rfl) ?_ _;go_wp2_with fail;go_ret;obtain⟨w8,aq⟩:∃y,w7.setCell ⟨p,m,none⟩ (.bool A)=y:=⟨_,rfl⟩;have a7:Kept [p] w7 w8:=aq▸(Kept.refl _ _).setCell (Or.inl (by simp)) _;have a5:=cq.out.set_ m (.bool A);rw[aq]at a5 ⊢
 have b1:W0.heap.size<=p:=by have:=H3.out.size;omega
 have G:Kept [] W0 w8:=(H6.out.trans H7.out).fresh a7 (by simpa using b1)
 have bv:nb≠p:=by have:=bp.out.lt;omega
 have c1:g≠p:=by omega
 have bt:=ax (ax cu.out H7.out (by simp)) a7 (by
  intro z hz;have:=dr hz;injection this with this;subst this
  simpa using c1)
 refine⟨G,nb,rfl,⟨⟨_,_,_,_,_,(cy.out.kept H7.out (by simp)).kept a7 (by simpa using bv),?_,?_,?_,⟨_,_,_,rfl⟩,⟨_,_,_,rfl⟩⟩,?_,?_,HR.out.us,HR.out.ms⟩⟩
 ·have:=aj.kept (w':=w8) cv.out (fun _ _ h=>MbR.kept h G) G
  rwa [a1.out]at this
 ·have:=aj.kept (w':=w8) cp.out (fun _ _ h=>h) G
  rwa [be.out]at this
 ·have aa:=Row.of_own bt (by omega)
  have a4:cl.length=j:=by have:=bk.out.1;simpa using this
  refine⟨(cl.set u (.slice (some ⟨p,0,none⟩) f f)).map fun x=>[x],by simp[a4,s.out],fun c hc=>?_,fun k r hk=>?_,?_⟩
  ·obtain⟨x,_,rfl⟩:=List.mem_map.1 hc
   rfl
  ·by_cases e:k=u
   ·subst e
    have c0:k < can.length:=by rw[s.out];exact hu
    rw[List.getElem?_set_self c0]at hk;injection hk with hk;subst hk;refine⟨[.slice (some ⟨p,0,none⟩) f f],by simp[a4,hu],_,rfl,?_⟩
    have hl:(fixR f m A).length=f:=by simp[fixR]
    rw[bq.out,hl];refine al (T:=4) ?_ (by simp[aB,hl]) (by omega)
    rwa [show(aB (List.replicate f false)).toArray.setIfInBounds m (.bool A)=(aB (fixR f m A)).toArray by rw[List.setIfInBounds_toArray];simp[aB,fixR,List.map_set]]at a5
   ·rw[List.getElem?_set_ne (Ne.symm e)]at hk;obtain⟨x,bs,br⟩:=bl.out k r hk;refine⟨[x],by rw[List.getElem?_map,List.getElem?_set_ne (Ne.symm e),bs];rfl,x,rfl,br.kept G⟩
  ·rw[List.length_set,s.out]
   have hf:((cl.set u (.slice (some ⟨p,0,none⟩) f f)).map fun x=>[x]).flatten=cl.set u (.slice (some ⟨p,0,none⟩) f f):=by
    generalize cl.set u (.slice (some ⟨p,0,none⟩) f f)=l
    induction l with
    |nil=>rfl
    |cons a l ih=>simp[ih]
   rw[hf];exact aa
 ·rw[List.length_set];exact s.out.trans be.out.symm
 ·intro l hl;rw[a1.out]
  rcases List.mem_or_eq_of_mem_set hl with h|rfl
  ·rw[HR.out.lens l h];exact a1.out
  ·simp[fixR]
open Classical
/-- there is an assignment -/
def xL(c:Crw)(can:List (List Bool)):Prop:=∃h,Feas (mtOf c can h) c.us.length
/-- a member is possible for a use -/
def PosC(c:Crw)(can:List (List Bool))(u m:Nat):Prop:=canB can u m=true/\xL c (can.set u (fixR c.ms.length m true))
noncomputable def posL (c:Crw) (can:List (List Bool)) (u k:Nat):List Int:=((List.range k).filter fun m=>decide (PosC c can u m)).map fun m:Nat=>(m:Int)
section
variable {c:Crw} {can:List (List Bool)} {u k:Nat}
theorem uF(h:PosC c can u k):posL c can u (k+1)=posL c can u k++[(k:Int)]:=by simp[posL,List.range_succ,h]
theorem re(h:¬PosC c can u k):posL c can u (k+1)=posL c can u k:=by simp[posL,List.range_succ,h]
theorem jP:(posL c can u k).length<=k:=by
 unfold posL
 rw[List.length_map];exact Nat.le_trans (List.length_filter_le _ _) (by simp)
end
theorem Rck.kept{W0 w':World}{kb:Nat}{c:Crw}{can:List (List Bool)}(h:Rck W0 kb c can)(k:Kept [] W0 w'):Rck w' kb c can:=by
 obtain⟨vq,vm,vu,vh,vc,hkb,hms,hus,hcr,h1,h2⟩:=h.rows;refine⟨⟨vq,vm,vu,vh,vc,hkb.kept k (by simp),aj.kept (w':=w') hms (fun _ _ h=>MbR.kept h k) k,aj.kept (w':=w') hus (fun _ _ h=>h) k,aj.kept (w':=w') hcr (fun _ _ h=>?_) k,h1,h2⟩,h.len,h.lens,h.us,h.ms⟩;obtain⟨v,rfl,h⟩:=h;exact⟨v,rfl,h.kept k⟩
theorem qG{W0:World}{kb:Nat}{c:Crw}{can:List (List Bool)}(hr:Rck W0 kb c can) :
  Calls Tryz.prog 146 #[.pointer (some ⟨kb,0,none⟩)] W0 fun e w'=>Kept [] W0 w'/\∃b,e=.returned (.bool b)/\(b=true↔xL c can) :=
 (mY hr).mono fun _ _ ⟨h1,b,h2,h3⟩=>⟨h1,b,h2,fun h=>⟨hr.lens,h3.1 h⟩,fun⟨_,h⟩=>h3.2 h⟩
theorem mL{W0:World}{kb:Nat}{c:Crw}{can:List (List Bool)}(hr:Rck W0 kb c can){u:Nat}(hu:u < c.us.length) :
  Calls Tryz.prog 103 #[.pointer (some ⟨kb,0,none⟩),.int .i64 (u:Int)] W0 fun e w'=>Kept [] W0 w'/\∃v,e=.returned v/\w'.ownsRow W0.heap.size 3 1 v (posL c can u c.ms.length).length (ints (posL c can u c.ms.length)):=by
 obtain⟨vq,vm,vu,vh,vc,B,V,U,C,⟨qa,qn,qc,rfl⟩,⟨ha,hn,hc,rfl⟩⟩:=hr.rows;obtain⟨ca,cc,rfl,_,ac⟩:=aj.form C;obtain⟨cl,D,a0,M⟩:=iH C;have f:can.length=c.us.length:=hr.len;obtain⟨x,p⟩:∃n,c.ms.length=n:=⟨_,rfl⟩;obtain⟨nu,I⟩:∃n,c.us.length=n:=⟨_,rfl⟩;have hb:=hr.us.1;have Y:=hr.ms.1;have HR:=hid hr;have HU:=hid hu;rw[p]at Y ⊢;rw[I]at hu hb f;rw[f]at B D;obtain⟨cb,co,N,l⟩:=D.at_ (by omega);subst N;obtain⟨w,d⟩:∃r,can[u]?=some r:=⟨_,List.getElem?_eq_getElem (by rw[f];exact hu)⟩;obtain⟨ru,t,a⟩:=M u w d
 have y:w.length=x:=by rw[hr.lens w (List.mem_of_getElem? d)];exact p
 rw[y]at a;obtain⟨ra,rc,rfl,_,_⟩:=a.form;have k4:W0.cell? ⟨kb,4,none⟩=some (.slice (some ⟨cb,co,none⟩) nu cc):=B.cell 4;have k5:W0.cell? ⟨cb,co+u,none⟩=some (.slice ra x rc):=l u _ t
 have ab:(u:Int) < (nu:Int):=by omega
 have a2:=hid a;have P:=hid d;have a3:=hid y;have a6:=hid p;clear B D a0 M p I f V U C hr l t a d y
 go_enter Tryz.func103,Tryz.ntmps103
 go_wp2_with fail
 go_loopw [4,15] (fun v i wr=>∃j:Nat,j<=x/\i=.int .i64 (j:Int)/\Kept [] W0 wr/\wr.ownsRow W0.heap.size 3 1 v (posL c can u j).length (ints (posL c can u j))) (fun _ i _=>x - (intOf i).toNat)
 case atStart=>exact⟨0,Nat.zero_le _,rfl,Kept.refl _ _,by simpa [posL,ints]using World.ownsRow_nil W0 W0.heap.size 3 1⟩
 case round =>
  obtain⟨j,hj,rfl,q,k⟩:=hrel;obtain⟨oa,oc,rfl,_⟩:=cT k;have E:=hid q;have s:=hid k
  by_cases hlt:j < x
  ·have hlt':(j:Int) < (x:Int):=by omega
   obtain⟨rb,ro,rfl,G⟩:=a2.out.at_ (by omega);obtain⟨O,m⟩:∃b,canB can u j=b:=⟨_,rfl⟩
   have m5:wr.cell? ⟨rb,ro+j,none⟩=some (.bool O):=Kept.cellOf (G j _ (by
    rw[<-m]
    unfold canB tf aB
    rw[P.out,List.getElem?_map,Option.getD_some,List.getElem?_eq_getElem (by have:=a3.out;omega)]
    rfl)) _ q
   have X:j < c.ms.length:=by rw[a6.out];exact hlt
   have a8:=hid (wZ (HR.out.kept q) HU.out X);have a4:Hid ((posL c can u j).length<=j):=hid jP;have o:=hid m;clear q k G m
   cases O with
   |false =>
    go_wp2_with fail
    go_roundw
    case rel =>
     refine⟨j+1,by omega,by go_num,E.out,?_⟩;rw[re (fun h=>by have:=h.1;rw[o.out]at this;cases this)];exact s.out
    case measure=>simp[intOf];omega
   |true =>
    go_wp2_with (go_at_call 145;with_reducible refine a8.out.mono ?_);rintro e w2 ⟨k2,ad,rfl,A⟩;have af:=hid A;have aa:=hid (qG A);have K2:=hid k2;clear A k2;go_wp2_with (go_at_call 146;with_reducible refine aa.out.mono ?_);rintro e T ⟨k3,b,rfl,L⟩;have a9:=hid L;have K3:=hid k3;clear L k3;have F:=hid ((E.out.trans K2.out).trans K3.out);have R:=hid (ax s.out (K2.out.trans K3.out) (by simp));have a1:=F.out.size
    have Q:Hid (b=true↔PosC c can u j):=hid (by
     rw[a9.out,o.out]
     exact⟨fun h=>⟨o.out,h⟩,fun h=>h.2⟩)
    cases b with
    |false =>
     go_wp2_with fail
     go_roundw
     case rel =>
      refine⟨j+1,by omega,by go_num,F.out,?_⟩;rw[re (fun h=>by have:=Q.out.2 h;cases this)];exact R.out
     case measure=>simp[intOf];omega
    |true =>
     go_upto_region 5 with(fail);go_wp2_with (at_builtin;refine bE rfl _ _ rfl W0.heap.size (.slice oa (posL c can u j).length oc) (posL c can u j).length (posL c can u j) rfl (ax R.out (S:=[]) ((Kept.refl [] T).alloc _) (by simp)) _ 1 [(j:Int)] rfl (Row.lit T [(j:Int)] (by simp)) (by have:=a4.out;omega) (by rw[World.size_alloc];omega) ?_;intro a' c' w6 g J Z;have a5:=hid g;have a7:=hid J;clear g J Z)
     go_roundw
     case rel =>
      have hk:Kept (obl (.slice oa (posL c can u j).length oc)) T w6:=((Kept.refl [] T).alloc (.cells (ints [(j:Int)]).toArray 3) |>.mono (fun _ _ h=>by simp at h)).trans a7.out;refine⟨j+1,by omega,by go_num,F.out.fresh hk (fun z hz=>(aA s.out z hz).1),?_⟩;rw[uF (Q.out.1 (by simp)),List.length_append,List.length_singleton];exact a5.out
     case measure=>simp[intOf];omega
  ·obtain rfl:j=x:=by omega
   go_wp2_with fail;go_ret;exact⟨E.out,_,rfl,s.out⟩
end Go.Proofs.YtpcmamoomaddoaaGreatDoor
