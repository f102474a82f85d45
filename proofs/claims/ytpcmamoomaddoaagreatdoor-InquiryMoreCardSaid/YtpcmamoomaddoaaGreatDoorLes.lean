import Derived.Test.YtpcmamoomaddoaaGreatDoorPsb
set_option maxRecDepth 100000
set_option maxHeartbeats 32000000
namespace Go.Proofs.YtpcmamoomaddoaaGreatDoor
open Go.RowKit Go.Maps Go.ChangeMaps
open Go.Proofs.Tryz
open Lib(hid)
theorem dy{c:Crw}{can:List (List Bool)}{u k:Nat}{x:Int}:x∈posL c can u k↔∃m:Nat,m < k/\PosC c can u m/\x=(m:Int):=by
 unfold posL
 rw[List.mem_map]
 constructor
 ·rintro⟨m,hm,rfl⟩;rw[List.mem_filter,List.mem_range]at hm;exact⟨m,hm.1,by simpa using hm.2,rfl⟩
 ·rintro⟨m,h1,h2,rfl⟩;exact⟨m,by rw[List.mem_filter,List.mem_range];exact⟨h1,by simpa using h2⟩,rfl⟩
def dY(ns:List Int)(x:Int):Int:=(ns[x.toNat]?).getD 0
/-- the numbers of the holders that are possible -/
noncomputable def posN (c:Crw) (ns:List Int) (u:Nat):List Int:=(posL c (canOf c) u c.ms.length).map (dY ns)
theorem jq{B:Nat}{w:World}{cs:List Value}{c:Crw}{vn:Value}{ns:List Int}(h:CrR w cs c)(hcr:cX c=true)(hms:∀m∈c.ms,(∀b∈m.binds,b.1.length<=10000000)/\m.binds.length<=100000)(hE:EnvB B w){u:Nat}(hu:u < c.us.length)
  (hn:Row w 1 vn ns.length (ints ns)) (hnl:ns.length=c.ms.length) :
  Calls prog 23 #[.agg cs.toArray,vn,.int .i64 (u:Int)] w fun e w'=>Kept [] w w'/\∃v,e=.returned v/\w'.ownsRow w.heap.size 3 1 v (posN c ns u).length (ints (posN c ns u)):=by
 have p:∀w',Kept [] w w'->Calls prog 60 #[.agg cs.toArray,.int .i64 (u:Int)] w' fun e w''=>Kept [] w' w''/\∃v,e=.returned v/\w''.ownsRow w'.heap.size 3 1 v (posL c (canOf c) u c.ms.length).length (ints (posL c (canOf c) u c.ms.length)):=fun w' k=>im (CrR.kept h k) hcr hms (hE.kept0 k) hu;have a2:=(fg hcr).2.1;obtain⟨vq,vm,vu,rfl,hq,hm,C⟩:=h;obtain⟨Z,Y,rfl,_,_⟩:=aj.form hq;obtain⟨ma,mc,rfl,_,_⟩:=aj.form hm;obtain⟨X,V,rfl,_,_⟩:=aj.form C;obtain⟨na,nc,rfl,_,O⟩:=hn.form
 unfold posN
 have f:∀x∈posL c (canOf c) u c.ms.length,0<=x/\x < (ns.length:Int):=fun x t=>by
  obtain⟨m,h1,_,rfl⟩:=dy.1 t;omega
 have Q:(posL c (canOf c) u c.ms.length).length<=64:=Nat.le_trans jP a2;obtain⟨P,hP⟩:∃P,posL c (canOf c) u c.ms.length=P:=⟨_,rfl⟩;rw[hP]at p f Q ⊢;obtain⟨nn,M⟩:∃n,ns.length=n:=⟨_,rfl⟩;rw[M]at hn f O ⊢;obtain⟨nq,J⟩:∃n,c.qs.length=n:=⟨_,rfl⟩;obtain⟨nm,N⟩:∃n,c.ms.length=n:=⟨_,rfl⟩;obtain⟨nu,G⟩:∃n,c.us.length=n:=⟨_,rfl⟩;rw[J,N,G]at p ⊢
 have I:∀k:Nat,k < nn->ns[k]?=some (dY ns (k:Int)):=fun k hk=>by
  unfold dY
  rw[Int.toNat_natCast,List.getElem?_eq_getElem (by omega)]
  rfl
 obtain⟨W,hW⟩:∃W,w.alloc (.cells #[.slice Z nq Y,.slice ma nm mc,.slice X nu V] 67)=W:=⟨_,rfl⟩;have s:Kept [] w W:=hW▸(Kept.refl _ _).alloc _;have q:Blk W w.heap.size 67 #[.slice Z nq Y,.slice ma nm mc,.slice X nu V]:=hW▸Blk.new _ _ _;have aa:=hid s;have HW:=hid hW;have C1:=hid (p W s);have HN:=hid hn;have a9:=hid f;have a8:=hid I;have z0:W.cell? ⟨w.heap.size,0,none⟩=some (.slice Z nq Y):=q.cell 0;have z1:W.cell? ⟨w.heap.size,1,none⟩=some (.slice ma nm mc):=q.cell 1;have z2:W.cell? ⟨w.heap.size,2,none⟩=some (.slice X nu V):=q.cell 2;clear p hW s q hms hE hcr J N G hq hm C hP hn f I M hnl hu
 show Calls _ _ #[.agg #[.slice Z nq Y,.slice ma nm mc,.slice X nu V],_,_] _ _
 go_enter func23,ntmps23
 go_upto_region 1 with(fail);have hW':=HW.out;rw[hW'];clear hW'
 go_wp2_with (first
  |(go_at_call 60;(with_reducible refine C1.out.mono ?_);rintro e A ⟨k1,v1,rfl,r⟩;have K1:=hid (aa.out.trans k1);have a6:=hid r;obtain⟨pa,pc,rfl,_⟩:=cT r;clear k1 r)
  |go_in)
 go_loopw [7,9] (fun v i wr=>∃j:Nat,j<=P.length/\i=.int .i64 (j:Int)/\Kept [] A wr/\wr.ownsRow A.heap.size 3 1 v ((P.take j).map (dY ns)).length (ints ((P.take j).map (dY ns)))) (fun _ i _=>P.length - (intOf i).toNat)
 case atStart=>exact⟨0,Nat.zero_le _,rfl,Kept.refl _ _,by simpa [ints]using World.ownsRow_nil A A.heap.size 3 1⟩
 case round =>
  obtain⟨j,hj,rfl,g,d⟩:=hrel;obtain⟨oa,oc,rfl,_⟩:=cT d;have U:=hid g;have o:=hid d
  by_cases hlt:j < P.length
  ·have hlt':(j:Int) < (P.length:Int):=by omega
   obtain⟨x,t⟩:∃x,P[j]?=some x:=⟨_,List.getElem?_eq_getElem hlt⟩;have a1:=a9.out x (List.mem_of_getElem? t);obtain⟨m,rfl⟩:∃m:Nat,x=(m:Int):=⟨x.toNat,by omega⟩;have E:=(Row.of_own a6.out (by omega)).kept g;obtain⟨bb,a0,rfl,hc⟩:=E.at_ (by omega);have y0:wr.cell? ⟨bb,a0+j,none⟩=some (.int .i64 (m:Int)):=hc j _ (by simp[ints,t]);have ac:(m:Int) < (nn:Int):=a1.2;obtain⟨nb,no,rfl,T⟩:=(HN.out.kept (K1.out.trans g)).at_ (by omega);have y1:wr.cell? ⟨nb,no+m,none⟩=some (.int .i64 (dY ns (m:Int))):=T m _ (by simp[ints,a8.out m (by omega)])
   have D:P.take (j+1)=P.take j++[(m:Int)]:=by rw[List.take_succ_eq_append_getElem hlt,(List.getElem?_eq_some_iff.1 t).2]
   obtain⟨y,hy⟩:∃y,dY ns (m:Int)=y:=⟨_,rfl⟩;rw[hy]at y1;obtain⟨L,hL⟩:∃L,(P.take j).map (dY ns)=L:=⟨_,rfl⟩;rw[hL]at o ⊢
   have ad:L.length<=64:=by rw[<-hL,List.length_map,List.length_take];omega
   have F:(P.take (j+1)).map (dY ns)=L++[y]:=by rw[D,List.map_append,hL];simp[hy]
   have a7:=hid F;have a4:=g.size;clear t E hc T D hy hL F g d
   go_wp2_with (first
    |(at_builtin;refine bE rfl _ _ rfl A.heap.size (.slice oa L.length oc) L.length L rfl (ax o.out (S:=[]) ((Kept.refl [] wr).alloc _) (by simp)) _ 1 [y] rfl (Row.lit wr [y] (by simp)) (by omega) (by rw[World.size_alloc];omega) ?_;intro a' c' w6 l R a3;have a5:=hid l;have ab:=hid R;clear l R a3)
    |go_in)
   go_roundw
   case rel =>
    have hk:Kept (obl (.slice oa L.length oc)) wr w6:=((Kept.refl [] wr).alloc (.cells (ints [y]).toArray 3) |>.mono (fun _ _ h=>by simp at h)).trans ab.out;refine⟨j+1,by omega,by go_num,U.out.fresh hk (fun z hz=>(aA o.out z hz).1),?_⟩;rw[a7.out,List.length_append,List.length_singleton];exact a5.out
   case measure=>simp[intOf];omega
  ·obtain rfl:P.length=j:=by omega
   rw[List.take_length]at o ⊢;clear g d;go_wp2_with fail;go_ret;exact⟨K1.out.trans U.out,_,rfl,nZ o.out K1.out.size⟩
/-- all of a list are of another one -/
def subB(a b:List Int):Bool:=a.all fun x=>b.any fun y=>decide (x=y)
theorem bP{w:World}{va vb:Value}{a b:List Int}(ha:Row w 1 va a.length (ints a))(hb:Row w 1 vb b.length (ints b)) :
  Calls prog 24 #[va,vb] w fun e w'=>e=.returned (.bool (subB a b))/\Kept [] w w':=by
 obtain⟨Y,X,rfl,E,_⟩:=ha.form;obtain⟨V,U,rfl,D,_⟩:=hb.form;obtain⟨R,v⟩:∃R,subB a b=R:=⟨_,rfl⟩;rw[v];have C:=hid v;have O:=hid ha;have N:=hid hb;clear ha hb v
 go_enter func24,ntmps24
 go_wp2_with fail
 go_loopw [5] (fun i wr=>∃j:Nat,j<=a.length/\i=.int .i64 (j:Int)/\Kept [] w wr/\∀k x,k < j->a[k]?=some x->(b.any fun y=>decide (x=y))=true) (fun i _=>a.length - (intOf i).toNat)
 case atStart=>exact⟨0,Nat.zero_le _,rfl,Kept.refl _ _,fun k x n=>absurd n (by omega)⟩
 case round =>
  obtain⟨j,Q,rfl,m,g⟩:=hrel;have q:=hid m;have r:=hid g;clear g m
  by_cases hlt:j < a.length
  ·have hlt':(j:Int) < (a.length:Int):=by omega
   obtain⟨x,l⟩:∃x,a[j]?=some x:=⟨_,List.getElem?_eq_getElem hlt⟩;obtain⟨L,J,rfl,p⟩:=O.out.at_ (by omega);have t:w.cell? ⟨L,J+j,none⟩=some (.int .i64 x):=p j _ (by simp[ints,l]);have M:=hid (Kept.cellOf t);have B:=hid l;clear p l t;go_wp2_with fail
   go_loopw [6,7] (fun f k wi=>∃i:Nat,i<=b.length/\k=.int .i64 (i:Int)/\f=.bool ((b.take i).any fun y=>decide (x=y))/\Kept [] w wi) (fun _ k _=>b.length - (intOf k).toNat)
   case atStart=>exact⟨0,Nat.zero_le _,rfl,by simp,q.out⟩
   case round =>
    obtain⟨i,T,rfl,rfl,c⟩:=hrel;obtain⟨F,A⟩:∃F,((b.take i).any fun y=>decide (x=y))=F:=⟨_,rfl⟩;rw[A];have s:=hid A;have d:=hid c;clear A
    by_cases hli:i < b.length
    ·have hli':(i:Int) < (b.length:Int):=by omega
     obtain⟨y,u⟩:∃y,b[i]?=some y:=⟨_,List.getElem?_eq_getElem hli⟩;obtain⟨I,G,rfl,o⟩:=N.out.at_ (by omega);have P:wr.cell? ⟨I,G+i,none⟩=some (.int .i64 y):=Kept.cellOf (o i _ (by simp[ints,u])) _ c;have t:=M.out _ c
     have h:Hid (((b.take (i+1)).any fun y=>decide (x=y))=(F ||decide (x=y))):=hid (by
      rw[List.take_succ_eq_append_getElem hli,List.any_append,s.out,(List.getElem?_eq_some_iff.1 u).2]
      simp)
     clear o u c;go_upto_region 8 with(fail)
     cases F with
     |true =>
      go_quiet (fail)
      go_wp2_with fail
      go_roundw
      case rel=>exact⟨i+1,by omega,by go_num,by rw[h.out];simp,d.out.drewN _⟩
      case measure=>simp[intOf];omega
     |false =>
      by_cases hxy:x=y
      ·subst hxy
       go_quiet (fail)
       go_wp2_with fail
       go_roundw
       case rel=>exact⟨i+1,by omega,by go_num,by rw[h.out];simp,d.out.drewN _⟩
       case measure=>simp[intOf];omega
      ·have hxy':(x==y)=false:=by simpa using hxy
       go_quiet (fail)
       go_wp2_with fail
       go_roundw
       case rel=>exact⟨i+1,by omega,by go_num,by rw[h.out];simp[hxy],d.out.drewN _⟩
       case measure=>simp[intOf];omega
    ·obtain rfl:b.length=i:=by omega
     rw[List.take_length]at s;clear c
     cases F with
     |true =>
      go_wp2_with fail
      go_roundw
      case rel =>
       refine⟨j+1,by omega,by go_num,d.out,fun k z n hz=>?_⟩
       by_cases e:k=j
       ·subst e;rw[B.out]at hz;injection hz with hz;rw[<-hz];exact s.out
       ·exact r.out k z (by omega) hz
      case measure=>simp[intOf];omega
     |false =>
      go_wp2_with fail;go_ret;refine⟨?_,d.out⟩;rw[<-C.out,show subB a b=false from List.all_eq_false.2 ⟨x,List.mem_of_getElem? B.out,by rw[s.out];simp⟩]
      rfl
  ·obtain rfl:a.length=j:=by omega
   go_wp2_with fail;go_ret;refine⟨?_,q.out⟩
   rw[<-C.out,show subB a b=true from List.all_eq_true.2 fun x l=>by
    obtain⟨k,n⟩:=List.getElem?_of_mem l
    exact r.out k x (List.getElem?_eq_some_iff.1 n).1 n]
   rfl
end Go.Proofs.YtpcmamoomaddoaaGreatDoor
namespace Go.Proofs.YtpcmamoomaddoaaGreatDoor
open Go.RowKit
theorem fy{c:Crw}{ns:List Int}{u:Nat}(h:cX c=true):(posN c ns u).length<=64:=by
 unfold posN
 rw[List.length_map];exact Nat.le_trans jP (fg h).2.1
/-- what an account is that there is -/
structure AccOk (is:List Iss) (ss:List Sgt) (c:Crw) (ns:List Int):Prop where
 uses:c.us.length=ss.length
 nums:ns.length=c.ms.length
 valid:cX c=true
 mems:∀m∈c.ms,(∀b∈m.binds,b.1.length<=10000000)/\m.binds.length<=100000
theorem ef{ks:List Pss}{log:List Int}{is:List Iss}{ss:List Sgt}{c:Crw}{ns:List Int}(h:accountB ks log is ss=.ok (c,ns))(hl:is.length<=1000):AccOk is ss c ns:=by
 have hct:=qI (fun x _=>rd x.q x.most) h;have hfw:=pq h;exact⟨hct.uses,hct.nums,hct.valid,fun m hm=>⟨fun b hb=>by have:=gk ((hfw m hm).1 b hb);omega,by have:=(hfw m hm).2;omega⟩⟩
theorem dx{B:Nat}{w:World}{cs:List Value}{c:Crw}{vn:Value}{ns:List Int}{is:List Iss}{ss:List Sgt}(h:CrR w cs c)(ho:AccOk is ss c ns)(hE:EnvB B w)(hn:Row w 1 vn ns.length (ints ns)) :
  ∀w',Kept [] w w'->∀u,u < ss.length->Calls Tryz.prog 23 #[.agg cs.toArray,vn,.int .i64 (u:Int)] w' fun e w''=>Kept [] w' w''/\∃v,e=.returned v/\w''.ownsRow w'.heap.size 3 1 v (posN c ns u).length (ints (posN c ns u)) :=
 fun w' k u hu=>jq (h.kept k) ho.valid ho.mems (hE.kept0 k) (by rw[ho.uses];exact hu) (hn.kept k) ho.nums
end Go.Proofs.YtpcmamoomaddoaaGreatDoor
namespace Go.Proofs.YtpcmamoomaddoaaGreatDoor
theorem Feas.mono{M M':Mt}{n n':Nat}(h:Feas M n)(φ:Nat->Nat)(hn:n'<=n)(hinj:∀m k,m < M.nm->k < M.nm->φ m=φ k->m=k)(hcan:∀u m,u < n'->M.can u m=true->M'.can u (φ m)=true)
  (hwin:∀u,u < n'->M'.win u=M.win u) (hcap:∀m w,m < M.nm->M.cap m w<=M'.cap (φ m) w):Feas M' n':=by
 obtain⟨a,f,i⟩:=h;refine⟨fun u=>φ (a u),fun u c=>hcan u _ c (f u (by omega)),fun m' w=>?_⟩
 by_cases hex:∃u,u < n'/\φ (a u)=m'
 ·obtain⟨e,g,rfl⟩:=hex;have d:=M.low e _ (f e (by omega));refine Nat.le_trans ?_ (Nat.le_trans (i (a e) w) (hcap (a e) w d));rw[<-List.countP_eq_length_filter,<-List.countP_eq_length_filter];refine Nat.le_trans (List.countP_mono_left fun u c b=>?_) (List.Sublist.countP_le (List.range_sublist.2 hn));have hu':=List.mem_range.1 c;simp only[Bool.and_eq_true,decide_eq_true_eq]at b ⊢;exact⟨hinj _ _ (M.low u _ (f u (by omega))) d b.1,by rw[<-hwin u hu'];exact b.2⟩
 ·have:(List.range n').filter (fun u=>decide (φ (a u)=m')&&decide (M'.win u=w))=[]:=by
   rw[List.filter_eq_nil_iff];intro u c b;simp only[Bool.and_eq_true,decide_eq_true_eq]at b;exact hex ⟨u,List.mem_range.1 c,b.1⟩
  rw[this];exact Nat.zero_le _
theorem gz{can:List (List Bool)}{u nm m k:Nat}(hu:u < can.length)(hm:m < nm):canB (can.set u (fixR nm m true)) u k=decide (k=m):=by
 unfold canB
 rw[List.getElem?_set_self hu,Option.getD_some]
 unfold fixR
 rw[mG (by simpa using hm)]
 have:tf (List.replicate nm false) k=false:=by
  unfold tf
  rw[List.getElem?_replicate]
  split <;> rfl
 rw[this,Bool.or_false]
theorem oW{can:List (List Bool)}{u x k:Nat}{r:List Bool}(h:x≠u):canB (can.set u r) x k=canB can x k:=by
 unfold canB
 rw[List.getElem?_set_ne (Ne.symm h)]
theorem PosC.mono{c c':Crw}{can can':List (List Bool)}{u m:Nat}(h:PosC c can u m)(φ:Nat->Nat)(hlen:can.length=c.us.length)(hlen':can'.length=c'.us.length)(hlens':∀l∈can',l.length=c'.ms.length)(hn:c'.us.length<=c.us.length)(hu:u < c'.us.length)(hm:m < c.ms.length)
  (hφ:∀k,k < c.ms.length->φ k < c'.ms.length) (hinj:∀a b,a < c.ms.length->b < c.ms.length->φ a=φ b->a=b)
  (hcan:∀x k,x < c'.us.length->canB can x k=true->canB can' x (φ k)=true) (hwin:∀x,x < c'.us.length->winB c' x=winB c x) (hcap:∀k w,k < c.ms.length->capB c k w<=capB c' (φ k) w):PosC c' can' u (φ m):=by
 obtain⟨g,d,f⟩:=h;refine⟨hcan u m hu g,fun l d=>?_,f.mono φ hn hinj (fun x k hx hk=>?_) hwin hcap⟩
 ·rcases List.mem_or_eq_of_mem_set d with h|rfl
  ·exact hlens' l h
  ·simp[fixR]
 ·show canB (can'.set u (fixR c'.ms.length (φ m) true)) x (φ k)=true
  have hk':canB (can.set u (fixR c.ms.length m true)) x k=true:=hk
  by_cases e:x=u
  ·subst e;rw[gz (by omega) hm]at hk';rw[gz (by omega) (hφ m hm)];simp at hk'
   simp[hk']
  ·rw[oW e]at hk' ⊢;exact hcan x k hx hk'
theorem je(x:Int):∀(zs:List Int) (i:Nat),0<=Lib.idxFrom zs x i->∃k:Nat,Lib.idxFrom zs x i=((i+k:Nat):Int)/\zs[k]?=some x
 | [],i,h=>by simp[Lib.idxFrom]at h
 |z::zs,i,h=>by
  rw[Lib.idxFrom]at h ⊢
  by_cases e:z=x
  ·rw[if_pos e];exact⟨0,rfl,by rw[e];rfl⟩
  ·rw[if_neg e]at h ⊢;obtain⟨k,h1,h2⟩:=je x zs (i+1) h;exact⟨k+1,by rw[h1];congr 1;omega,h2⟩
theorem fZ{zs:List Int}{x:Int}(h:0<=Lib.idxOf zs x):zs[(Lib.idxOf zs x).toNat]?=some x:=by
 obtain⟨k,h1,h2⟩:=je x zs 0 h
 unfold Lib.idxOf
 rw[h1,Int.toNat_natCast,Nat.zero_add];exact h2
/-- what a sight adds: one use -/
theorem jM{ks:List Pss}{log nums:List Int}{q q':List Pd}{u u':List Sn}{x:Sgt}(h:sightB ks log nums (q,u) x=.ok (q',u')) :
  ∃s:Sn,u'=u++[s]/\s.hold=Lib.idxOf nums x.holder/\(x.holder≠0->0<=Lib.idxOf nums x.holder):=by
 unfold sightB at h
 split at h
 ·cases h
 ·split at h
  ·cases h
  ·split at h
   ·cases h
   ·split at h
    ·cases h
    ·split at h
     ·cases h
     ·split at h
      ·cases h
      ·next hh =>
       have b:x.holder≠0->0<=Lib.idxOf nums x.holder:=fun h0=>by
        rcases Int.lt_or_le (Lib.idxOf nums x.holder) 0 with a|a
        ·exact absurd ⟨h0,a⟩ hh
        ·exact a
       split at h
       ·cases h
       ·split at h
        ·injection h with h;injection h with a h2;exact⟨_,h2.symm,rfl,b⟩
        ·split at h
         ·cases h
         ·injection h with h;injection h with a h2;exact⟨_,h2.symm,rfl,b⟩
theorem dU{ks:List Pss}{log nums:List Int}{ss:List Sgt}{q:List Pd}{u:List Sn}(h:aF (sightB ks log nums) ([],[]) ss=.ok (q,u)) :
  u.length=ss.length/\∀(k:Nat) (x:Sgt),ss[k]?=some x->∃s:Sn,u[k]?=some s/\s.hold=Lib.idxOf nums x.holder/\(x.holder≠0->0<=Lib.idxOf nums x.holder):=by
 have a:=dN (P:=fun j (t:List Pd × List Sn)=>t.2.length=j/\∀k x,k < j->ss[k]?=some x->∃s:Sn,t.2[k]?=some s/\s.hold=Lib.idxOf nums x.holder/\(x.holder≠0->0<=Lib.idxOf nums x.holder)) (l:=ss) (fun j t x v hP hx hf=>by
  obtain⟨o,b⟩:=t;obtain⟨n,m⟩:=v;obtain⟨s,rfl,f,d⟩:=jM hf;refine⟨by simp[hP.1],fun k y hk hy=>?_⟩
  by_cases e:k=j
  ·subst e;rw[hx]at hy;injection hy with hy;subst hy;have c:b.length=k:=hP.1;exact⟨s,by show(b++[s])[k]?=some s;rw[List.getElem?_append_right (by omega),c,Nat.sub_self];rfl,f,d⟩
  ·obtain⟨s',i,g⟩:=hP.2 k y (by omega) hy;have c:b.length=j:=hP.1
   exact⟨s',by show(b++[s])[k]?=some s';rw[List.getElem?_append_left (by omega)];exact i,g⟩) ⟨rfl,fun k x hk=>absurd hk (by omega)⟩ h
 exact⟨a.1,fun k x hx=>a.2 k x (List.getElem?_eq_some_iff.1 hx).1 hx⟩
theorem ed{c:Crw}{u:Nat}{x:Sn}(h:c.us[u]?=some x){k:Nat}(hk:k < c.ms.length):canB (canOf c) u k=fI (holdsOf c) c x k:=by
 unfold canB canOf tf
 rw[List.getElem?_map,h]
 show((fH (holdsOf c) c x)[k]?).getD false=_
 unfold fH
 rw[List.getElem?_map,List.getElem?_range hk]
 rfl
/-- an opened sight's only candidate is its holder -/
theorem nT{ks:List Pss}{log:List Int}{is:List Iss}{ss:List Sgt}{c:Crw}{ns:List Int}(h:accountB ks log is ss=.ok (c,ns)){i:Nat}{x:Sgt}(hx:ss[i]?=some x)(h0:x.holder≠0):subB (posN c ns i) [x.holder]=true:=by
 unfold accountB at h
 split at h
 ·cases h
 ·split at h
  ·cases h
  ·next P hP =>
   split at h
   ·cases h
   ·next q u hu =>
    injection h with h;injection h with h1 h2;subst h1;subst h2;obtain⟨s,n,l,f⟩:=(dU hu).2 i x hx;have f:=f h0
    unfold subB posN
    rw[List.all_eq_true];intro y j;obtain⟨z,g,rfl⟩:=List.mem_map.1 j;obtain⟨m,d,b,rfl⟩:=dy.1 g;have a:=b.1;rw[ed n d]at a
    unfold fI at a
    simp only[Bool.and_eq_true,Bool.or_eq_true,decide_eq_true_eq]at a;have k:s.hold=(m:Int):=a.2.resolve_left (by omega);have:=fZ f;rw[<-l,k]at this
    have e:dY (aL P) (m:Int)=x.holder:=by unfold dY;rw[this];rfl
    rw[e]
    simp
def iB(nums:List Int)(h:Int)(s:Sn):Sn:=⟨s.q,s.win,s.asof,Lib.idxOf nums h⟩
def cM(x:Sgt)(h:Int):Sgt:=⟨x.q,x.most,x.passes,x.rev,x.links,h⟩
theorem nM{ks:List Pss}{log nums:List Int}{q q':List Pd}{u u' v:List Sn}{x:Sgt}(h:sightB ks log nums (q,u) x=.ok (q',v)){h':Int}(hh:h'=0\/h'=x.holder)(hl:u'.length=u.length) :
  ∃s:Sn,v=u++[s]/\s.hold=Lib.idxOf nums x.holder/\sightB ks log nums (q,u') (cM x h')=.ok (q',u'++[iB nums h' s]):=by
 obtain⟨d,g,f,b,j,a⟩:=x
 show ∃s:Sn,v=u++[s]/\s.hold=Lib.idxOf nums a/\sightB ks log nums (q,u') ⟨d,g,f,b,j,h'⟩=.ok (q',u'++[iB nums h' s])
 unfold sightB at h ⊢
 dsimp only at h hh ⊢
 cases hp:predF d g with
 |error e=>rw[hp]at h;cases h
 |ok p =>
  rw[hp]at h
  dsimp only at h ⊢
  cases hps:f with
  |nil=>rw[hps]at h;cases h
  |cons t rest =>
   rw[hps]at h
   dsimp only at h ⊢
   by_cases c1:rest≠[]\/eI j=true
   ·rw[if_pos c1]at h;cases h
   ·rw[if_neg c1]at h ⊢
    cases hk:ks.findIdx? (ig t)with
    |none=>rw[hk]at h;cases h
    |some key =>
     rw[hk]at h
     dsimp only at h ⊢
     by_cases c2:fq log b=true
     ·rw[if_pos c2]at h;cases h
     ·rw[if_neg c2]at h ⊢
      by_cases c3:a≠0/\Lib.idxOf nums a < 0
      ·rw[if_pos c3]at h;cases h
      ·rw[if_neg c3]at h
       have c3':¬(h'≠0/\Lib.idxOf nums h' < 0):=fun c=>by
        rcases hh with e|e
        ·exact c.1 e
        ·rw[e]at c;exact c3 c
       rw[if_neg c3']
       by_cases c4:4096<=u.length
       ·rw[if_pos c4]at h;cases h
       ·rw[if_neg c4]at h;rw[if_neg (by omega)]
        cases hf:q.findIdx? (cC p)with
        |some i =>
         rw[hf]at h
         dsimp only at h ⊢
         injection h with h;injection h with h1 h2;subst h1;exact⟨_,h2.symm,rfl,rfl⟩
        |none =>
         rw[hf]at h
         dsimp only at h ⊢
         by_cases c5:128<=q.length
         ·rw[if_pos c5]at h;cases h
         ·rw[if_neg c5]at h ⊢;injection h with h;injection h with h1 h2;subst h1;exact⟨_,h2.symm,rfl,rfl⟩
/-- pointwise: each sight of the second list is that of the first, opened as before or not at all -/
def iV:List Sgt->List Sgt->Prop
 | [],[]=>True
 |x::l,y::l'=>(∃h',(h'=0\/h'=x.holder)/\y=cM x h')/\iV l l'
 |_,_=>False
theorem iY{ks:List Pss}{log nums:List Int}:∀(ss ss':List Sgt) (q q0:List Pd) (u u0 u0':List Sn),iV ss ss'->aF (sightB ks log nums) (q0,u0) ss=.ok (q,u)->u0'.length=u0.length ->
  ∃a a':List Sn,u=u0++a/\aF (sightB ks log nums) (q0,u0') ss'=.ok (q,u0'++a')/\a.length=ss.length/\a'.length=a.length/\∀(k:Nat) (s:Sn),a[k]?=some s->∃x':Sgt,ss'[k]?=some x'/\a'[k]?=some (iB nums x'.holder s)
 | [],[],q,q0,u,u0,u0',_,h,_=>by
  rw[aF]at h;injection h with h;injection h with h1 h2;subst h1;subst h2;exact⟨[],[],by simp,by rw[aF];simp,rfl,rfl,by simp⟩
 |x::l,y::l',q,q0,u,u0,u0',hl,h,hlen=>by
  obtain⟨⟨h',hh,rfl⟩,hl⟩:=hl;rw[aF]at h
  cases hs:sightB ks log nums (q0,u0) x with
  |error e=>rw[hs]at h;cases h
  |ok t =>
   rw[hs]at h;obtain⟨q1,v⟩:=t;obtain⟨s,rfl,_,h2⟩:=nM hs hh hlen;obtain⟨a,a',rfl,g2,g3,g4,g5⟩:=iY l l' q q1 u (u0++[s]) (u0'++[iB nums h' s]) hl h (by simp[hlen]);refine⟨s::a,iB nums h' s::a',by simp,?_,by simp[g3],by simp[g4],fun k z hz=>?_⟩
   ·rw[aF,h2]
    dsimp only
    rw[g2]
    simp
   ·cases k with
    |zero =>
     simp at hz;subst hz;exact⟨_,rfl,rfl⟩
    |succ k=>exact g5 k z (by simpa using hz)
 | [],_::_,_,_,_,_,_,hl,_,_=>by cases hl
 |_::_,[],_,_,_,_,_,hl,_,_=>by cases hl
theorem ny{ks:List Pss}{log:List Int}{is:List Iss}{ss ss':List Sgt}{c:Crw}{ns:List Int}(h:accountB ks log is ss=.ok (c,ns))(hl:iV ss ss') :
  ∃d:Crw,accountB ks log is ss'=.ok (d,ns)/\d.qs=c.qs/\d.ms=c.ms/\d.us.length=c.us.length/\c.us.length=ss.length/\∀(k:Nat) (s:Sn),c.us[k]?=some s->∃x':Sgt,ss'[k]?=some x'/\d.us[k]?=some (iB ns x'.holder s):=by
 unfold accountB at h ⊢
 by_cases c1:dI ks=false\/logB log=false
 ·rw[if_pos c1]at h;cases h
 ·rw[if_neg c1]at h ⊢
  cases hP:aF (addB ks) [] is with
  |error e=>rw[hP]at h;cases h
  |ok P =>
   rw[hP]at h
   dsimp only at h ⊢
   cases hu:aF (sightB ks log (aL P)) ([],[]) ss with
   |error e=>rw[hu]at h;cases h
   |ok t =>
    rw[hu]at h;obtain⟨q,u⟩:=t;injection h with h;injection h with h1 h2;subst h1;subst h2;obtain⟨a,a',rfl,i,g,f,b⟩:=iY ss ss' q [] u [] [] hl hu rfl;rw[i];exact⟨⟨q,membersB log P,[]++a'⟩,rfl,rfl,rfl,by simp[f],by simp[g],fun k s hs=>b k s (by simpa using hs)⟩
theorem dO(c:Crw):(canOf c).length=c.us.length:=by simp[canOf]
theorem dl(c:Crw):∀l∈canOf c,l.length=c.ms.length:=fun l hl=>by
 unfold canOf at hl
 obtain⟨x,_,rfl⟩:=List.mem_map.1 hl;exact iT _ _ _
theorem sq{c d:Crw}{ns:List Int}(e1:d.qs=c.qs)(e2:d.ms=c.ms)(e3:d.us.length=c.us.length)
  (hu:∀(k:Nat) (s:Sn),c.us[k]?=some s->∃s':Sn,d.us[k]?=some s'/\s'.q=s.q/\s'.win=s.win/\s'.asof=s.asof/\(s'.hold=-1\/s'.hold=s.hold)) {u:Nat} (hlt:u < c.us.length):subB (posN c ns u) (posN d ns u)=true:=by
 have hH:holdsOf d=holdsOf c:=by unfold holdsOf;rw[e1,e2]
 unfold subB posN
 rw[List.all_eq_true];intro y p;obtain⟨z,o,rfl⟩:=List.mem_map.1 p;obtain⟨m,f,j,rfl⟩:=dy.1 o
 have r:PosC d (canOf d) u m:=j.mono (fun k=>k) (dO c) (dO d) (dl d) (by omega) (by omega) f (fun k hk=>by rw[e2];exact hk) (fun a b _ _ h=>h) (fun x k hx hk=>by
   obtain⟨s,e⟩:∃s,c.us[x]?=some s:=⟨_,List.getElem?_eq_getElem (by omega)⟩;obtain⟨s',l,A,n,v,t⟩:=hu x s e
   have i:k < c.ms.length:=by
    rcases Nat.lt_or_ge k c.ms.length with h|h
    ·exact h
    ·have:=(mtOf c (canOf c) (dl c)).low x k hk;exact this
   rw[ed e i]at hk;rw[ed l (by rw[e2];exact i)]
   unfold fI at hk ⊢
   rw[hH,e2,A,v];simp only[Bool.and_eq_true,Bool.or_eq_true,decide_eq_true_eq]at hk ⊢;refine⟨hk.1,?_⟩
   rcases t with g|g
   ·exact Or.inl g
   ·rw[g];exact hk.2) (fun x hx=>by
   obtain⟨s,e⟩:∃s,c.us[x]?=some s:=⟨_,List.getElem?_eq_getElem (by omega)⟩;obtain⟨s',l,_,n,_⟩:=hu x s e
   unfold winB
   rw[e,l]
   simp[n]) (fun k w _=>by unfold capB;rw[e2];exact Nat.le_refl _)
 rw[List.any_eq_true];exact⟨_,List.mem_map.2 ⟨(m:Int),dy.2 ⟨m,by rw[e2];exact f,r,rfl⟩,rfl⟩,by simp⟩
theorem iL{ks:List Pss}{log:List Int}{is:List Iss}{ss:List Sgt}{c:Crw}{ns:List Int}(h:accountB ks log is ss=.ok (c,ns)):Lib.idxOf ns 0=-1/\∃(P:List Cz) (q:List Pd) (u:List Sn),ns=aL P/\c=⟨q,membersB log P,u⟩/\aF (sightB ks log (aL P)) ([],[]) ss=.ok (q,u):=by
 unfold accountB at h
 split at h
 ·cases h
 ·split at h
  ·cases h
  ·next P hP =>
   split at h
   ·cases h
   ·next q u hu =>
    injection h with h;injection h with a b;subst a;subst b;refine⟨?_,P,q,u,rfl,rfl,hu⟩;have e:=(fc (aL P) 0).1
    rcases Int.lt_or_le (Lib.idxOf (aL P) 0) 0 with a|a
    ·omega
    ·have b:=List.mem_of_getElem? (fZ a);obtain⟨z,d,f⟩:=List.mem_map.1 ((bi P).mem_iff.1 b);have:=(bX hP).pos z d;omega
theorem od{ks:List Pss}{log:List Int}{is:List Iss}{ss ss':List Sgt}{c:Crw}{ns:List Int}(h:accountB ks log is ss=.ok (c,ns))(hl:iV ss ss')(hf:∀(k:Nat) (x x':Sgt),ss[k]?=some x->ss'[k]?=some x'->x'.holder=0\/x'.holder=x.holder) :
  ∃d:Crw,accountB ks log is ss'=.ok (d,ns)/\c.us.length=ss.length/\d.us.length=ss.length/\∀u,u < ss.length->subB (posN c ns u) (posN d ns u)=true:=by
 obtain⟨d,m,v,t,g,f,r⟩:=ny h hl;obtain⟨n,P,q,u,rfl,rfl,l⟩:=iL h;refine⟨d,m,f,g.trans f,fun i hi=>sq v t g (fun k s hs=>?_) (by rw[f];exact hi)⟩;obtain⟨x',p,o⟩:=r k s hs
 have a:k < ss.length:=by rw[<-f];exact(List.getElem?_eq_some_iff.1 hs).1
 obtain⟨w,b,j,_⟩:=(dU l).2 k _ (List.getElem?_eq_getElem a);rw[show u[k]?=some s from hs]at b;injection b with b;subst b;refine⟨_,o,rfl,rfl,rfl,?_⟩
 rcases hf k _ x' (List.getElem?_eq_getElem a) p with e|e
 ·refine Or.inl ?_
  show Lib.idxOf (aL P) x'.holder=-1
  rw[e];exact n
 ·refine Or.inr ?_
  show Lib.idxOf (aL P) x'.holder=s.hold
  rw[e,j]
theorem jb:∀ss:List Sgt,iV ss ss
 | []=>trivial
 |x::l=>⟨⟨x.holder,Or.inr rfl,rfl⟩,jb l⟩
theorem ki:∀(ss:List Sgt) (n:Nat) (x:Sgt),ss[n]?=some x->iV ss (ss.set n (cM x 0))
 | [],_,_,h=>by simp at h
 |y::l,0,x,h=>by
  simp at h;subst h;exact⟨⟨0,Or.inl rfl,rfl⟩,jb l⟩
 |y::l,n+1,x,h=>⟨⟨y.holder,Or.inr rfl,rfl⟩,ki l n x (by simpa using h)⟩
/-- a sight that is opened no longer -/
theorem qe{ks:List Pss}{log:List Int}{is:List Iss}{ss:List Sgt}{c:Crw}{ns:List Int}(h:accountB ks log is ss=.ok (c,ns)){n:Nat}{x:Sgt}(hx:ss[n]?=some x) :
  ∃d:Crw,accountB ks log is (ss.set n (cM x 0))=.ok (d,ns)/\c.us.length=ss.length/\d.us.length=ss.length/\∀u,u < ss.length->subB (posN c ns u) (posN d ns u)=true :=
 od h (ki ss n x hx) fun k y y' hy hy'=>by
  by_cases e:n=k
  ·subst e;rw[List.getElem?_set_self (List.getElem?_eq_some_iff.1 hx).1]at hy';injection hy' with hy';subst hy';exact Or.inl rfl
  ·rw[List.getElem?_set_ne e,hy]at hy';injection hy' with hy';subst hy';exact Or.inr rfl
theorem iZ{α:Type}(m:Nat):∀(vs:List (List α)) (k j:Nat) (c:List α) (x:α),(∀c∈vs,c.length=m)->vs[k]?=some c->j < m->vs.flatten.set (k*m+j) x=(vs.set k (c.set j x)).flatten
 | [],_,_,_,_,_,h,_=>by simp at h
 |a::vs,0,j,c,x,hm,h,hj=>by
  simp at h;subst h;have:=hm a (by simp);rw[List.flatten_cons,List.set_cons_zero,List.flatten_cons,List.set_append_left _ _ (by omega)]
  simp
 |a::vs,k+1,j,c,x,hm,h,hj=>by
  have ha:=hm a (by simp);rw[List.flatten_cons,List.set_cons_succ,List.flatten_cons,List.set_append_right _ _ (by rw[ha,Nat.succ_mul];omega),<-iZ m vs k j c x (fun c hc=>hm c (by simp[hc])) (by simpa using h) hj]
  congr 2
  rw[ha,Nat.succ_mul];omega
/-- a cell of a row of one's own -/
theorem sD{w:World}{B:Nat}{e:TypeId}{m:Nat}{v:Value}{n:Nat}{l:List Value}(h:w.ownsRow B e m v n l){j:Nat}(hj:j < n*m):∃g c x0,v=.slice (some ⟨g,0,none⟩) n c/\B<=g/\g < w.heap.size/\g∈obl v/\l[j]?=some x0/\w.cell? ⟨g,j,none⟩=some x0/\w.frozen? ⟨g,j,none⟩=false /\
  ∀x:Value,(w.setCell ⟨g,j,none⟩ x).ownsRow B e m v n (l.set j x):=by
 have p:l.length=n*m:=h.1
 rcases h.2 with⟨_,u⟩|⟨g,b,a,rfl,k,q,t,s,r,o⟩
 ·subst u;simp at p;omega
 ·have i:a.size=b*m:=r;have f:Blk w g e a:=q
  have d:j < l.length:=by omega
  refine⟨g,b,l[j],rfl,k,f.lt,cD rfl,List.getElem?_eq_getElem d,?_,f.frozen j,fun x=>?_⟩
  ·rw[f.cell j,<-List.getElem?_eq_getElem d,<-o,List.getElem?_take,if_pos hj]
   simp
  ·refine⟨by rw[List.length_set];exact h.1,Or.inr ⟨g,b,a.setIfInBounds j x,rfl,k,f.set_ j _,t,s,by simpa using i,?_⟩⟩;rw[Array.toList_setIfInBounds,List.take_set,o]
/-- the sights without the opening of one -/
theorem uS{w0 w:World}{B:Nat}{e:TypeId}{v:Value}{vs:List (List Value)}{ss:List Sgt}(hv:vs.length=ss.length)(hc:∀c∈vs,c.length=18)(hR:∀(k:Nat) a,ss[k]?=some a->∃c,vs[k]?=some c/\SgtR w0 c a)(hown:w.ownsRow B e 18 v ss.length vs.flatten)(hB:w0.heap.size<=B)(hk:Kept [] w0 w){n:Nat}{x:Sgt}(hx:ss[n]?=some x)(hl:ss.length<=1000) :
  ∃g c,v=.slice (some ⟨g,0,none⟩) ss.length c/\B<=g/\w.frozen? ⟨g,n*18+17,none⟩=false/\w.cell? ⟨g,n*18+17,none⟩=some (.int .i64 x.holder)/\Kept [] w0 (w.setCell ⟨g,n*18+17,none⟩ (.int .i64 0))/\aj SgtR 18 (w.setCell ⟨g,n*18+17,none⟩ (.int .i64 0)) v (ss.set n (cM x 0)):=by
 have T:n < ss.length:=(List.getElem?_eq_some_iff.1 hx).1;obtain⟨c,l,p⟩:=hR n x hx;obtain⟨g,s,N,rfl,Z,h2,h3,Y,X,V,U⟩:=sD hown (j:=n*18+17) (by omega);have r:=cd vs 18 n 17 c hc l (by decide);rw[Y]at r;have i:Kept [] w0 (w.setCell ⟨g,n*18+17,none⟩ (.int .i64 0)):=hk.setCell (Or.inr (by show w0.heap.size<=g;omega)) _;have b:=U (.int .i64 0);rw[iZ 18 vs n 17 c _ hc l (by decide)]at b
 have q:N=.int .i64 x.holder:=by
  obtain⟨m,u,t,M,z,L,J,I,y,G,F,E,D,C,A,rfl,_⟩:=p;simp at r;exact r
 subst q;refine⟨g,s,rfl,Z,V,X,i,?_⟩;have f:(ss.set n (cM x 0)).length=ss.length:=List.length_set;refine aj.of_own (by rw[f];exact b) (by rw[List.length_set,f,hv]) (fun d hd=>?_) (fun k a ha=>?_) (by rw[f];omega)
 ·rcases List.mem_or_eq_of_mem_set hd with h|rfl
  ·exact hc d h
  ·rw[List.length_set];exact hc c (List.mem_of_getElem? l)
 ·by_cases e1:n=k
  ·subst e1;rw[List.getElem?_set_self T]at ha;injection ha with ha;subst ha;refine⟨_,by rw[List.getElem?_set_self (by omega)],?_⟩;have o:=SgtR.kept p i;obtain⟨m,u,t,M,z,L,J,I,y,G,F,E,D,C,A,rfl,R,Q,P,O⟩:=o;exact⟨m,u,t,M,z,L,J,I,y,G,F,E,D,C,A,rfl,R,Q,P,O⟩
  ·rw[List.getElem?_set_ne e1]at ha ⊢;obtain⟨d,d1,d2⟩:=hR k a ha;exact⟨d,d1,SgtR.kept d2 i⟩
theorem iK{w:World}{c:List Value}{x:Sgt}(h:SgtR w c x):∀u∈c,u.oneCell'=true:=by
 obtain⟨ver,vp,vr,da,qu,ju,k0,k1,vl,k3,k4,k5,k6,k7,k8,rfl,q2,q3,q4,s0,s1,s3,s4,s5,s6,s7,s8⟩:=h;obtain⟨a1,c1,rfl,_,_⟩:=aj.form q2;obtain⟨a2,c2,rfl,_,_⟩:=q3.form;obtain⟨a3,c3,rfl,_,_⟩:=aj.form q4;obtain⟨_,_,_,rfl⟩:=s0;obtain⟨_,_,_,rfl⟩:=s1;obtain⟨_,_,_,rfl⟩:=s3;obtain⟨_,_,_,rfl⟩:=s4;obtain⟨_,_,_,rfl⟩:=s5;obtain⟨_,_,_,rfl⟩:=s6;obtain⟨_,_,_,rfl⟩:=s7;obtain⟨_,_,_,rfl⟩:=s8;intro u hu;simp only[List.mem_cons,List.not_mem_nil,or_false]at hu
 rcases hu with rfl|rfl|rfl|rfl|rfl|rfl|rfl|rfl|rfl|rfl|rfl|rfl|rfl|rfl|rfl|rfl|rfl|rfl <;> rfl
theorem lJ{w:World}{c:List Value}{x:Iss}(h:IssR w c x):∀u∈c,u.oneCell'=true:=by
 obtain⟨v,o1,o2,o3,o4,o5,rfl,h⟩:=h;obtain⟨a,cc,rfl,_,_⟩:=h.form;intro u hu;simp only[List.mem_cons,List.not_mem_nil,or_false]at hu
 rcases hu with rfl|rfl|rfl|rfl|rfl|rfl|rfl <;> rfl
theorem mP{α:Type}{R:World->List Value->α->Prop}{w:World}{l:List α}{vs:List (List Value)}(hv:vs.length=l.length)(hR:∀(k:Nat) a,l[k]?=some a->∃c,vs[k]?=some c/\R w c a)(h1:∀c a,R w c a->∀u∈c,u.oneCell'=true):∀u∈vs.flatten,u.oneCell'=true:=by
 intro u hu;obtain⟨c,hc,hu⟩:=List.mem_flatten.1 hu;obtain⟨k,hk⟩:=List.getElem?_of_mem hc;have hkl:=(List.getElem?_eq_some_iff.1 hk).1;obtain⟨d,e1,e2⟩:=hR k _ (List.getElem?_eq_getElem (by omega));rw[hk]at e1;injection e1 with e1;subst e1;exact h1 _ _ e2 u hu
theorem dM(w:World)(T:TypeId)(n:Nat):(w.alloc (.cells #[] T)).ownsRow w.heap.size T n (.slice (some ⟨w.heap.size,0,none⟩) 0 0) 0 [] := ⟨by simp,.inr ⟨w.heap.size,0,#[],rfl,Nat.le_refl _,heap_alloc_new w _,Nat.le_refl _,by simp[maxLen],by simp,by simp⟩⟩
theorem aD{P:Program}{w:World}{ops:Array Oper}{o:Oper}{a:Act}{K:Act->World->Prop}{Q:Exit->Act->World->Prop}{E:Prop}(hgd:o.guard=none)(s x:Operand)(t:TypeId)
  (ho:o.op=.call { callee:=.builtin .append,args:=#[s,x],argTypes:=#[t,t] })
  (base:Nat) (e:TypeId) (i:TypeInfo) (z:Value) (size bytes:Nat) (ht:P.underlying t=some (.slice e)) (hi:P.info? e=some i) (hz:i.zero=some z)
  (hsize:i.size=size) (hby:i.bytes=bytes) (hzs:z.cells.size=size) (hsz:0 < size)
  (v:Value) (n:Nat) (xs:List Value) (hs:a.eval s=v) (hown:w.ownsRow base e size v n xs)
  (u:Value) (m:Nat) (news:List Value) (hx:a.eval x=u) (hrow:Row w size u m news) (h1:∀u∈news,u.oneCell'=true)
  (h63:n+m<=maxLen) (hbytes:(n+m)*bytes<=140737488355328) (hbase:base<=w.heap.size)
  (h:∀a' c' w',w'.ownsRow base e size (.slice a' (n+m) c') (n+m) (xs++news)->Kept (obl v) w w'->(∀k∈obl (.slice a' (n+m) c'),k∈obl v\/k=w.heap.size)->K (a.put o.dst (.slice a' (n+m) c')) w') :
  if Region.wanted o (yielded ops a.tmps)=true then Oper.wp P o a w K Q else E:=by
 rw[if_pos (by simp[Region.wanted,hgd])];exact bL s x t ho base e i z size bytes ht hi hz hsize hby hzs hsz v n xs hs hown u m news hx hrow h1 h63 hbytes hbase h
/-- a list fJ into a row of one's own, and made longer by one -/
theorem fJ{α:Type}{R:World->List Value->α->Prop}{m:Nat}{W w:World}{B:Nat}{e:TypeId}{v:Value}{l:List α}{vs:List (List Value)}{c:List Value}{x:α}(hv:vs.length=l.length)(hc:∀c∈vs,c.length=m)(hR:∀(k:Nat) a,l[k]?=some a->∃c,vs[k]?=some c/\R W c a)
  (hcm:c.length=m) (hx:R W c x) (hk:∀c a,R W c a->R w c a) (hown:w.ownsRow B e m v (l.length+1) (vs.flatten++c)) (hl:l.length+1<=9223372036854775807):aj R m w v (l++[x]):=by
 have f:(l++[x]).length=l.length+1:=by simp
 refine aj.of_own (vs:=vs++[c]) (by rw[f,List.flatten_append];simpa using hown) (by simp[hv]) (fun d hd=>?_) (fun k a ha=>?_) (by rw[f];exact hl)
 ·rcases List.mem_append.1 hd with h|h
  ·exact hc d h
  ·rw[List.mem_singleton.1 h];exact hcm
 ·rcases Nat.lt_or_ge k l.length with h|h
  ·rw[List.getElem?_append_left h]at ha;obtain⟨d,i,g⟩:=hR k a ha;exact⟨d,by rw[List.getElem?_append_left (by omega)];exact i,hk d a g⟩
  ·have b:=(List.getElem?_eq_some_iff.1 ha).1;rw[f]at b
   obtain rfl:k=l.length:=by omega
   rw[List.getElem?_append_right (by omega),Nat.sub_self]at ha;simp at ha;subst ha;exact⟨c,by rw[List.getElem?_append_right (by omega),hv,Nat.sub_self];rfl,hk c _ hx⟩
theorem rj:(Tryz.prog.info? 61).map (fun i=>(i.zero,i.size,i.bytes))=some (some (.agg #[.int .i64 0,.string ⟨#[]⟩,.slice none 0 0,.int .i64 0,.slice none 0 0,.int .i64 0,.int .i64 0,.int .i64 0,.slice none 0 0,.slice none 0 0,.slice none 0 0,.slice none 0 0,.slice none 0 0,.slice none 0 0,.slice none 0 0,.slice none 0 0,.slice none 0 0,.int .i64 0]),18,328):=by kernel_rfl
theorem wU:(Tryz.prog.info? 42).map (fun i=>(i.zero,i.size,i.bytes))=some (some (.agg #[.int .i64 0,.slice none 0 0,.int .i64 0,.int .i64 0,.int .i64 0,.int .i64 0,.int .i64 0]),7,72):=by kernel_rfl
end Go.Proofs.YtpcmamoomaddoaaGreatDoor
