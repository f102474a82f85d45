import Derived.Test.YtpcmamoomaddoaaGreatDoorFwa
set_option maxRecDepth 100000
set_option maxHeartbeats 32000000
namespace Go.Proofs.YtpcmamoomaddoaaGreatDoor
open Go.RowKit
open Go.Proofs.Tryz
open Lib(hid)
theorem ti(l:List Int)(n:Nat):ints (l.take n)=(ints l).take n:=by simp[ints]
theorem mZ{w:World}{v1 v2:Value}{l1 l2:List Int}{n1 n2:Nat}(h1:Row w 1 v1 n1 (ints l1))(h2:Row w 1 v2 n2 (ints l2)) :
  Calls prog 91 #[v1,v2] w fun e w'=>e=.returned (.bool (decide (l1=l2)))/\∃q,w'=w.drewN q:=by
 have n:l1.length=n1:=by have:=h1.1;simpa [ints]using this
 have m:l2.length=n2:=by have:=h2.1;simpa [ints]using this
 obtain⟨f,b,rfl,i,_⟩:=h1.form;obtain⟨d,a,rfl,c,_⟩:=h2.form
 by_cases hz:n1=0
 ·subst hz;have:=List.eq_nil_of_length_eq_zero n;subst this;refine(Tryz.slices_Equal_int_empty f d b n2 a w c).mono ?_;rintro e w' ⟨rfl,rfl⟩;exact⟨by rw[<-m,rE],0,rfl⟩
 ·by_cases hne:n1=n2
  ·obtain⟨p,h,rfl,l⟩:=h1.at_ (by omega);obtain⟨o,g,rfl,k⟩:=h2.at_ (by omega)
   have:=Tryz.slices_Equal_int p h n1 b o g n2 a l1 l2 w (by omega) (by omega) i c
    (fun j hj=>by
     rw[l j _ (bu hj)]
     simp[List.getD_eq_getElem?_getD,hj])
    (fun j hj=>by
     rw[k j _ (bu hj)]
     simp[List.getD_eq_getElem?_getD,hj])
   refine this.mono ?_;rintro e w' ⟨rfl,q,rfl⟩;refine⟨?_,q,rfl⟩
   congr 2
   rw[List.take_of_length_le (by omega),List.take_of_length_le (by omega),Bool.eq_iff_iff]
   simp
  ·refine(Tryz.slices_Equal_int_lens f d n1 b n2 a w hne).mono ?_;rintro e w' ⟨rfl,rfl⟩;exact⟨by rw[oN (by omega)],0,rfl⟩
theorem aU.err{q:Bs}{most c:Int}(h:aU q most (.error c)):c≠0:=by
 unfold aU at h
 split at h
 ·next h1=>injection h with h;rw[h];exact h1
 ·split at h
  ·injection h with h;rw[h];decide
  ·obtain⟨ns,_,h⟩:=h
   unfold jO at h
   split at h
   ·cases h
   ·split at h
    ·cases h
    ·injection h with h;rw[h];decide
def SgtE(B5:Nat)(gc:Nat)(vm:Value)(e:Ending)(w':World):Except Int (List Pd × List Sn)->Prop
 | .error c=>e=.returned (.int .i64 c)/\c≠0
 | .ok (q',u')=>e=.returned (.int .i64 0)/\∃vq' vu',CrG B5 w' gc vm q' u' vq' vu'
theorem sj{w:World}{q:Bs}{most:Int}{e:Ending}{w':World}(h:PrdE w q most e w') :
  ∃(k:Int) (l r:Bs) (c:Int) (va:Option Addr) (vn vc:Nat) (code:Int),e=.returned (.tuple #[.agg #[.int .i64 k,.string ⟨l.toArray⟩,.string ⟨r.toArray⟩,.int .i64 c,.slice va vn vc],.int .i64 code])/\Kept [] w w' /\
   ((code≠0/\predF q most=.error code)\/(code=0/\∃p,predF q most=.ok p/\aw (List.range w.heap.size) (fun w=>PdR w [.int .i64 k,.string ⟨l.toArray⟩,.string ⟨r.toArray⟩,.int .i64 c,.slice va vn vc] p) w')):=by
 obtain⟨k,r,b,d⟩:=h;have f:=b.eq
 cases r with
 |error c =>
  exact⟨0,[],[],0,none,0,0,c,d,k,Or.inl ⟨b.err,f⟩⟩
 |ok p =>
  obtain⟨u,rfl,a⟩:=d;have s:=a.get;obtain⟨m,i,g,o,j⟩:=p;obtain⟨t,n,rfl,_⟩:=s.rows;exact⟨m,i,g,o,_,_,_,0,rfl,k,Or.inr ⟨rfl,_,f,a⟩⟩
theorem yo:(prog.info? 84).map (fun i=>(i.zero,i.size,i.bytes))=some (some (.agg #[.int .i64 0,.int .i64 0,.int .i64 0,.int .i64 0]),4,32):=by kernel_rfl
theorem sd{B B5:Nat}{w:World}{gc:Nat}{vm vk vl vn:Value}{ks:List Pss}{log nums:List Int}{qs:List Pd}{us:List Sn}{vq vu:Value}{cs:List Value}{x:Sgt}
  (hE:EnvB B w) (hC:CrG B5 w gc vm qs us vq vu) (hks:aj PssR 4 w vk ks) (hlog:Row w 1 vl log.length (ints log)) (hnums:Row w 1 vn nums.length (ints nums)) (hx:SgtR w cs x)
  (hlq:qs.length<=1000000) (hlu:us.length<=1000000) (hql:x.q.length<=100000000) :
  Calls prog 42 #[.pointer (some ⟨gc,0,none⟩),vk,vl,vn,.agg cs.toArray] w fun e w'=>Kept (gc::(obl vq++obl vu)) w w'/\SgtE B5 gc vm e w' (sightB ks log nums (qs,us) x):=by
 obtain⟨i0,hi,f8,f7,f5⟩:=info_parts yo;obtain⟨R,d⟩:∃R,sightB ks log nums (qs,us) x=R:=⟨_,rfl⟩;rw[d]
 unfold sightB at d
 obtain⟨T,vp,vr,da,qu,ju,k0,k1,gt,k3,k4,k5,k6,k7,k8,rfl,a6,a5,aa,_⟩:=hx;obtain⟨pa,pc,rfl,b5,_⟩:=a6.form;obtain⟨ra,rc,rfl,b4,_⟩:=a5.form;obtain⟨la,lc,rfl,b6,_⟩:=aj.form aa;obtain⟨h6,h5,rfl,_,_⟩:=hks.form;obtain⟨q,C,ps,a0,U,j⟩:=x
 dsimp only at a6 a5 aa d b5 b4 b6 hql ⊢
 obtain⟨ga,b9,rfl,d7,g0⟩:=hlog.form;obtain⟨N,M,rfl⟩:=dp hC.u (by decide);obtain⟨A,bn⟩:∃n,us.length=n:=⟨_,rfl⟩;obtain⟨pn,bp⟩:∃n,ps.length=n:=⟨_,rfl⟩;obtain⟨F,bo⟩:∃n,a0.length=n:=⟨_,rfl⟩;obtain⟨ln,a9⟩:∃n,U.length=n:=⟨_,rfl⟩;obtain⟨gn,c4⟩:∃n,log.length=n:=⟨_,rfl⟩;obtain⟨kn,bs⟩:∃n,ks.length=n:=⟨_,rfl⟩;rw[bp]at a6 b5 ⊢;rw[bo]at a5 b4 d ⊢;rw[a9]at aa b6 ⊢;rw[c4]at hlog d7 g0 ⊢;rw[bs]at hks ⊢;rw[bn]at hC hlu d ⊢;obtain⟨W,hW⟩:∃W,w.alloc (.cells #[.int .i64 T,.string ⟨q.toArray⟩,.slice pa pn pc,.int .i64 C,.slice ra F rc,.int .i64 da,.int .i64 qu,.int .i64 ju,k0,k1,.slice la ln lc,k3,k4,k5,k6,k7,k8,.int .i64 j] 61)=W:=⟨_,rfl⟩;have kW:Kept [] w W:=hW▸(Kept.refl _ _).alloc _;have O:Blk W w.heap.size 61 #[.int .i64 T,.string ⟨q.toArray⟩,.slice pa pn pc,.int .i64 C,.slice ra F rc,.int .i64 da,.int .i64 qu,.int .i64 ju,k0,k1,.slice la ln lc,k3,k4,k5,k6,k7,k8,.int .i64 j]:=hW▸Blk.new _ _ _;have V:=go q C (.int .i64 T) (.slice pa pn pc) (.slice ra F rc) (.int .i64 da) (.int .i64 qu) (.int .i64 ju) hql (hE.kept0 kW);obtain⟨m,aq⟩:∃b,w.heap.size=b:=⟨_,rfl⟩;rw[aq]at O;have cb:=hid aq;have CP:=hid V;have HC:=hid (hC.kept kW);have g7:=hid (hks.kept (fun _ _ h=>PssR.kept h kW) kW);have e6:=hid (hlog.kept kW);have bd:=hid (hnums.kept kW);have g6:=hid (a6.kept (fun _ _ h=>PssR.kept h kW) kW);have g5:=hid (a5.kept kW);have e7:=hid (aj.kept (w':=W) aa (fun _ _ h=>h) kW)
 have HW:=hid hW;have HK:=hid kW;have HB:=hid O;have D:=hid d;have e4:=hid bp;have e0:=hid bo;have b0:=hid a9;have eh:=hid c4;have hf:=hid bs;have ds:=hid bn
 have ca:Hid (∀z∈gc::(obl vq++obl (.slice N A M)),z < m):=hid (fun z o=>by
  rw[<-aq]
  rcases List.mem_cons.1 o with rfl|o
  ·exact hC.blk.lt
  ·rcases List.mem_append.1 o with h|h
   ·exact(hC.q.ge z h).2
   ·exact(aA hC.u z h).2)
 have y0:W.cell? ⟨m,0,none⟩=some (.int .i64 T):=O.cell 0;have y1:W.cell? ⟨m,1,none⟩=some (.string ⟨q.toArray⟩):=O.cell 1;have y2:W.cell? ⟨m,2,none⟩=some (.slice pa pn pc):=O.cell 2;have y3:W.cell? ⟨m,3,none⟩=some (.int .i64 C):=O.cell 3;have y4:W.cell? ⟨m,4,none⟩=some (.slice ra F rc):=O.cell 4;have y5:W.cell? ⟨m,5,none⟩=some (.int .i64 da):=O.cell 5;have y6:W.cell? ⟨m,6,none⟩=some (.int .i64 qu):=O.cell 6;have y7:W.cell? ⟨m,7,none⟩=some (.int .i64 ju):=O.cell 7;have y8:W.cell? ⟨m,8,none⟩=some (k0):=O.cell 8;have y9:W.cell? ⟨m,9,none⟩=some (k1):=O.cell 9;have cx:W.cell? ⟨m,10,none⟩=some (.slice la ln lc):=O.cell 10;have cv:W.cell? ⟨m,11,none⟩=some (k3):=O.cell 11;have cu:W.cell? ⟨m,12,none⟩=some (k4):=O.cell 12;have cq:W.cell? ⟨m,13,none⟩=some (k5):=O.cell 13;have co:W.cell? ⟨m,14,none⟩=some (k6):=O.cell 14;have cm:W.cell? ⟨m,15,none⟩=some (k7):=O.cell 15;have ci:W.cell? ⟨m,16,none⟩=some (k8):=O.cell 16;have cc:W.cell? ⟨m,17,none⟩=some (.int .i64 j):=O.cell 17;clear V hE hC hks hlog hnums a6 a5 aa hW kW O d bp bo a9 c4 bs bn aq hql
 show Calls _ _ #[_,_,_,_,.agg #[.int .i64 T,.string ⟨q.toArray⟩,.slice pa pn pc,.int .i64 C,.slice ra F rc,.int .i64 da,.int .i64 qu,.int .i64 ju,k0,k1,.slice la ln lc,k3,k4,k5,k6,k7,k8,.int .i64 j]] _ _
 go_enter func42,ntmps42
 go_upto_region 1 with(fail);have hW':=HW.out;rw[hW',cb.out];clear hW';go_upto_region 2 with(go_at_call 14;refine CP.out.mono ?_;intro e w5 d3;obtain⟨c0,c1,c2,c3,ac,dn,dc,gs,rfl,k5,f⟩:=sj d3;have ek:=hid f;have e9:=hid k5;clear d3 f k5);obtain⟨G,ab⟩:∃y,w5.alloc (.cells #[.int .i64 c0,.string ⟨c1.toArray⟩,.string ⟨c2.toArray⟩,.int .i64 c3,.slice ac dn dc] 46)=y:=⟨_,rfl⟩;have an:Kept [] w5 G:=ab▸(Kept.refl _ _).alloc _;have X:Blk G w5.heap.size 46 #[.int .i64 c0,.string ⟨c1.toArray⟩,.string ⟨c2.toArray⟩,.int .i64 c3,.slice ac dn dc]:=ab▸Blk.new _ _ _;obtain⟨bq,av⟩:∃b,w5.heap.size=b:=⟨_,rfl⟩;rw[av]at X;rw[ab,av];have g:=hid (e9.out.trans an);have be:=hid an;have el:=hid X
 rcases ek.out with⟨g3,ap⟩|⟨rfl,p,ap,a2⟩
 ·have d:=D.out;rw[ap]at d
  simp only at d
  subst d;clear D an X ab av;go_wp2_with fail;go_ret;exact⟨((HK.out.trans g.out).mono (fun _ _ h=>by simp at h)),rfl,g3⟩
 have d:=D.out;rw[ap]at d
 simp only at d
 clear D ek an ab;have du:=hid a2;have D:=hid d;clear a2 d ap;have s0:∀w',Kept [] G w'->w'.cell? ⟨m,0,none⟩=some (.int .i64 T):=Kept.cellOf (Kept.cellOf y0 _ g.out);have s1:∀w',Kept [] G w'->w'.cell? ⟨m,1,none⟩=some (.string ⟨q.toArray⟩):=Kept.cellOf (Kept.cellOf y1 _ g.out);have s2:∀w',Kept [] G w'->w'.cell? ⟨m,2,none⟩=some (.slice pa pn pc):=Kept.cellOf (Kept.cellOf y2 _ g.out);have s3:∀w',Kept [] G w'->w'.cell? ⟨m,3,none⟩=some (.int .i64 C):=Kept.cellOf (Kept.cellOf y3 _ g.out);have s4:∀w',Kept [] G w'->w'.cell? ⟨m,4,none⟩=some (.slice ra F rc):=Kept.cellOf (Kept.cellOf y4 _ g.out);have s5:∀w',Kept [] G w'->w'.cell? ⟨m,5,none⟩=some (.int .i64 da):=Kept.cellOf (Kept.cellOf y5 _ g.out);have s6:∀w',Kept [] G w'->w'.cell? ⟨m,6,none⟩=some (.int .i64 qu):=Kept.cellOf (Kept.cellOf y6 _ g.out);have s7:∀w',Kept [] G w'->w'.cell? ⟨m,7,none⟩=some (.int .i64 ju):=Kept.cellOf (Kept.cellOf y7 _ g.out);have s8:∀w',Kept [] G w'->w'.cell? ⟨m,8,none⟩=some (k0):=Kept.cellOf (Kept.cellOf y8 _ g.out);have s9:∀w',Kept [] G w'->w'.cell? ⟨m,9,none⟩=some (k1):=Kept.cellOf (Kept.cellOf y9 _ g.out);have f2:∀w',Kept [] G w'->w'.cell? ⟨m,10,none⟩=some (.slice la ln lc):=Kept.cellOf (Kept.cellOf cx _ g.out);have f1:∀w',Kept [] G w'->w'.cell? ⟨m,11,none⟩=some (k3):=Kept.cellOf (Kept.cellOf cv _ g.out);have f0:∀w',Kept [] G w'->w'.cell? ⟨m,12,none⟩=some (k4):=Kept.cellOf (Kept.cellOf cu _ g.out);have ey:∀w',Kept [] G w'->w'.cell? ⟨m,13,none⟩=some (k5):=Kept.cellOf (Kept.cellOf cq _ g.out)
 have ex:∀w',Kept [] G w'->w'.cell? ⟨m,14,none⟩=some (k6):=Kept.cellOf (Kept.cellOf co _ g.out);have ev:∀w',Kept [] G w'->w'.cell? ⟨m,15,none⟩=some (k7):=Kept.cellOf (Kept.cellOf cm _ g.out);have es:∀w',Kept [] G w'->w'.cell? ⟨m,16,none⟩=some (k8):=Kept.cellOf (Kept.cellOf ci _ g.out);have cy:∀w',Kept [] G w'->w'.cell? ⟨m,17,none⟩=some (.int .i64 j):=Kept.cellOf (Kept.cellOf cc _ g.out);clear y0 y1 y2 y3 y4 y5 y6 y7 y8 y9 cx cv cu cq co cm ci cc;go_upto_region 4 with(fail);refine ar [] (fun w'=>Kept [] G w') (by kernel_rfl) (Kept.refl _ _).drew (fun hH=>?_);refine ah [] (i:=0) (v:=?tv0e) rfl (by kernel_rfl) (by kernel_rfl) (by kernel_rfl) (by kernel_rfl) (fun _ _ _ h=>h) (Or.inl ⟨by rfl,?ty0e⟩) hH ?tr0e
 case ty0e=>intro w' c;(try dsimp only at c);go_simp;first|done|with_reducible rfl
 (try simp only[Act.put,List.setIfInBounds_toArray,List.set_cons_zero,List.set_cons_succ])
 refine ah [] (i:=1) (v:=?tv1e) rfl (by kernel_rfl) (by kernel_rfl) (by kernel_rfl) (by kernel_rfl) (fun _ _ _ h=>h) (Or.inl ⟨by rfl,?ty1e⟩) hH ?tr1e
 case ty1e=>intro w' c;(try dsimp only at c);go_simp;first|done|with_reducible rfl
 (try simp only[Act.put,List.setIfInBounds_toArray,List.set_cons_zero,List.set_cons_succ])
 refine ah [] (i:=2) (v:=?tv2e) rfl (by kernel_rfl) (by kernel_rfl) (by kernel_rfl) (by kernel_rfl) (fun _ _ _ h=>h) (Or.inl ⟨by rfl,?ty2e⟩) hH ?tr2e
 case ty2e=>intro w' c;(try dsimp only at c);go_simp;first|done|with_reducible rfl
 (try simp only[Act.put,List.setIfInBounds_toArray,List.set_cons_zero,List.set_cons_succ])
 refine ah [] (i:=3) (v:=?tv3e) rfl (by kernel_rfl) (by kernel_rfl) (by kernel_rfl) (by kernel_rfl) (fun _ _ _ h=>h) (Or.inl ⟨by rfl,?ty3e⟩) hH ?tr3e
 case ty3e=>intro w' c;(try dsimp only at c);go_simp;first|done|with_reducible rfl
 (try simp only[Act.put,List.setIfInBounds_toArray,List.set_cons_zero,List.set_cons_succ])
 refine ah [] (i:=4) (v:=?tv4e) rfl (by kernel_rfl) (by kernel_rfl) (by kernel_rfl) (by kernel_rfl) (fun _ _ _ h=>h) (Or.inl ⟨by rfl,?ty4e⟩) hH ?tr4e
 case ty4e=>intro w' c;(try dsimp only at c);go_simp;first|done|with_reducible rfl
 (try simp only[Act.put,List.setIfInBounds_toArray,List.set_cons_zero,List.set_cons_succ])
 refine ai (rs:=[5]) (by kernel_rfl) (by simp) ?_;refine ae.cons rfl (fun K hK=>?_) ae.nil;go_simp;refine hK.out _ _ (hH.alloc _) (fun hH=>?_);clear hK K
 (try simp only[Act.put,List.setIfInBounds_toArray,List.set_cons_zero,List.set_cons_succ])
 refine ai (rs:=[6]) (by kernel_rfl) (by simp) ?_;refine ae.cons rfl (fun K hK=>?_) ae.nil;go_simp;refine hK.out _ _ (((Kept.refl _ _).alloc _).drew) (fun hH=>?_);clear hK K
 (try simp only[Act.put,List.setIfInBounds_toArray,List.set_cons_zero,List.set_cons_succ])
 refine ah [] (i:=7) (v:=?tv7e) rfl (by kernel_rfl) (by kernel_rfl) (by kernel_rfl) (by kernel_rfl) (fun _ _ _ h=>h) (Or.inl ⟨by rfl,?ty7e⟩) hH ?tr7e
 case ty7e=>intro w' c;(try dsimp only at c);go_simp;first|done|with_reducible rfl
 (try simp only[Act.put,List.setIfInBounds_toArray,List.set_cons_zero,List.set_cons_succ])
 refine ak (by kernel_rfl) ?_ _;obtain⟨W7,c6⟩:∃y,(G.alloc (.cells #[.int .i64 T,.string ⟨q.toArray⟩,.slice pa pn pc,.int .i64 C,.slice ra F rc,.int .i64 da,.int .i64 qu,.int .i64 ju] 50)).drew=y:=⟨_,rfl⟩;have J:Blk W7 G.heap.size 50 #[.int .i64 T,.string ⟨q.toArray⟩,.slice pa pn pc,.int .i64 C,.slice ra F rc,.int .i64 da,.int .i64 qu,.int .i64 ju]:=c6▸(Blk.new _ _ _).drew;obtain⟨bt,au⟩:∃b,G.heap.size=b:=⟨_,rfl⟩;rw[au]at J;rw[c6]at hH ⊢;rw[au]
 have gr:m<=bt:=by rw[<-au,<-cb.out];exact Nat.le_trans HK.out.size g.out.size
 have s:=hid (g.out.trans hH);have eq:=hid J;have e3:=hid (el.out.kept hH (by simp));have bb:=hid (du.out.step (be.out.trans hH) (fun z o=>by simp at o) (fun z o=>Or.inl o));have a4:W7.cell? ⟨m,17,none⟩=some (.int .i64 j):=cy _ hH;have t0:W7.cell? ⟨bt,0,none⟩=some (.int .i64 T):=J.cell 0;have t1:W7.cell? ⟨bt,1,none⟩=some (.string ⟨q.toArray⟩):=J.cell 1;have t2:W7.cell? ⟨bt,2,none⟩=some (.slice pa pn pc):=J.cell 2;have t3:W7.cell? ⟨bt,3,none⟩=some (.int .i64 C):=J.cell 3;have t4:W7.cell? ⟨bt,4,none⟩=some (.slice ra F rc):=J.cell 4;have t5:W7.cell? ⟨bt,5,none⟩=some (.int .i64 da):=J.cell 5;have t6:W7.cell? ⟨bt,6,none⟩=some (.int .i64 qu):=J.cell 6;have t7:W7.cell? ⟨bt,7,none⟩=some (.int .i64 ju):=J.cell 7;clear J hH c6 au s0 s1 s2 s3 s4 s5 s6 s7 s8 s9 f2 f1 f0 ey ex ev es cy el du be e9 X av
 by_cases hp1:pn=1
 case neg =>
  have hp1':(pn:Int)≠1:=by omega
  have d:=D.out
  have:R=.error 2:=by
   rw[<-d]
   cases ps with
   |nil=>rfl
   |cons t rest =>
    cases rest with
    |nil=>exact absurd e4.out.symm hp1
    |cons _ _=>simp
  subst this;go_wp2_with fail;go_ret;exact⟨((HK.out.trans s.out).mono (fun _ _ h=>by simp at h)),rfl,by decide⟩
 case pos =>
 subst hp1;obtain⟨t,rfl⟩:=List.length_eq_one_iff.1 e4.out;have d:=D.out;simp only[ne_eq,not_true_eq_false,false_or]at d;have D:=hid d;clear d;go_upto_region 5 with(fail)
 go_cut [53] (fun v wx=>v=.bool (eI U)/\wx=W7)
 case first =>
  cases U with
  |nil =>
   have fv:ln=0:=b0.out.symm;subst fv;go_wp2_with fail
   go_meet
   exact⟨rfl,rfl⟩
  |cons a l =>
   cases l with
   |nil =>
    have fs:ln=1:=b0.out.symm;subst fs;obtain⟨lb,lo,rfl,fn⟩:=e7.out.at_ (by simp);obtain⟨cl,gp,⟨xa,xc,rfl,h8⟩,g1⟩:=fn 0 a rfl;have l0:=Kept.cellOf (g1 0 _ (by decide) rfl) _ s.out;simp only[Nat.zero_mul,Nat.add_zero]at l0;go_wp2_with fail
    go_meet
    refine⟨?_,rfl⟩;simp only[eI]
   |cons b l =>
    have hc:(1:Int) < (ln:Int):=by have:=b0.out;simp at this;omega
    go_wp2_with fail
    go_meet
    exact⟨rfl,rfl⟩
 case rest =>
 obtain⟨hv,hw⟩:=hcut;subst hv;have hw:=hw.symm;subst hw
 cases hlb:eI U with
 |true =>
  have d:=D.out;rw[hlb,if_pos rfl]at d;subst d;go_wp2_with fail;go_ret;exact⟨((HK.out.trans s.out).mono (fun _ _ h=>by simp at h)),rfl,by decide⟩
 |false =>
 have d:=D.out;rw[hlb,if_neg (by simp)]at d;have D:=hid d;clear d hlb e7 b0;obtain⟨pb,po,rfl,d4⟩:=g6.out.at_ (by simp);obtain⟨cp,gm,b7,V⟩:=d4 0 t rfl;have br:=mU (w:=W7) ((g7.out).kept (fun _ _ h=>PssR.kept h s.out) s.out) (PssR.kept b7 s.out);obtain⟨ta,tg,rfl,d1,d0⟩:=b7;obtain⟨ta',tc',rfl,_,_⟩:=d1.form;obtain⟨tg',h3,rfl,_,_⟩:=d0.form;obtain⟨h4,b2⟩:∃n,t.attrs.length=n:=⟨_,rfl⟩;obtain⟨gx,b1⟩:∃n,t.guests.length=n:=⟨_,rfl⟩;rw[b2,b1]at br;rw[b2,b1]at V;have l0:=Kept.cellOf (V 0 _ (by decide) rfl) _ s.out;have l1:=Kept.cellOf (V 1 _ (by decide) rfl) _ s.out;have l2:=Kept.cellOf (V 2 _ (by decide) rfl) _ s.out;have l3:=Kept.cellOf (V 3 _ (by decide) rfl) _ s.out;simp only[Nat.zero_mul,Nat.add_zero,Nat.zero_add]at l0 l1 l2 l3;have a3:=hid br;clear br V d4 d1 d0;have bc:=hid ((g5.out.kept s.out))
 cases hfk:ks.findIdx? (ig t)with
 |none =>
  have d:=D.out;rw[hfk]at d a3
  simp only at d
  subst d;simp only[idxV]at a3;clear D;go_upto_region 8 with(go_at_call 90;refine a3.out.mono ?_;rintro e w8 ⟨rfl,E⟩;have z17':=Kept.cellOf a4 _ E);go_wp2_with (go_at_call 86;refine(gP (bd.out.kept (s.out.trans E)) j).mono ?_;rintro e w9 ⟨rfl,rfl⟩);go_ret;exact⟨((HK.out.trans (s.out.trans E)).mono (fun _ _ h=>by simp at h)),rfl,by decide⟩
 |some key =>
 have d:=D.out;rw[hfk]at d a3
 simp only at d
 have D:=hid d;simp only[idxV]at a3;clear d hfk
 have gl:(0:Int)<=(key:Int):=by omega
 go_upto_region 8 with(go_at_call 90;refine a3.out.mono ?_;rintro e w8 ⟨rfl,E⟩;have z17':=Kept.cellOf a4 _ E);obtain⟨ix,bv⟩:∃x,Lib.idxOf nums j=x:=⟨_,rfl⟩;have c8:=gP (bd.out.kept (s.out.trans E)) j;rw[bv]at c8;have g9:=hid c8;have d:=D.out;rw[bv]at d;have D:=hid d;have e8:=hid (s.out.trans E);have t4':=Kept.cellOf t4 _ E;have e2:=hid (e3.out.kept E (by simp));have ba:=hid (bb.out.step E (fun z o=>by simp at o) (fun z o=>Or.inl o));have ad:=hid (bc.out.kept E);have ag:=hid (e6.out.kept e8.out);have en:=hid (eq.out.kept E (by simp));clear d c8 bv E t0 t1 t2 t3 t4 t5 t6 t7 a4 e3 bb bc eq l0 l1 l2 l3;go_upto_region 9 with(go_at_call 86;refine g9.out.mono ?_;rintro e w9 ⟨rfl,h9⟩;have h9:=h9.symm;subst h9);go_upto_region 11 with(fail)
 go_cut [67] (fun v wx=>v=.bool (fq log a0)/\Kept [] w8 wx)
 case first =>
  by_cases hgt:gn < F
  ·have hgt':(gn:Int) < (F:Int):=by omega
   have hs:fq log a0=true:=by unfold fq;rw[eh.out,e0.out,decide_eq_true hgt];rfl
   go_quiet (fail)
   go_wp2_with fail
   go_meet
   exact⟨by rw[hs],(Kept.refl _ _).drewN _⟩
  ·have hgt':decide ((gn:Int) < (F:Int))=false:=by simp;omega
   have hs:fq log a0=!decide (a0=log.take F):=by unfold fq;rw[eh.out,e0.out,decide_eq_false hgt];rfl
   have hb:F<=b9:=by omega
   have d8:∀n,Calls prog 91 #[.slice ra F rc,.slice ga F b9] (w8.drewN n) fun e w'=>e=.returned (.bool (decide (a0=log.take F)))/\∃q,w'=(w8.drewN n).drewN q:=fun n=>by
    have h2:=Row.front (ag.out.kept ((Kept.refl [] w8).drewN n)) (show F<=gn by omega);exact mZ (ad.out.kept ((Kept.refl [] w8).drewN n)) (by rw[ti];exact h2)
   have gb:=hid d8;clear d8
   go_quiet (first|(go_at_call 91;refine Calls.quiet_of (gb.out _)))
   go_wp2_with fail
   go_meet
   exact⟨by rw[hs],(Kept.refl _ _).drewN _⟩
 case rest =>
 obtain⟨hv,kx⟩:=hcut;subst hv;have a4:=Kept.cellOf z17' _ kx;have P:=hid (e8.out.trans kx);have Z:=hid (e2.out.kept kx (by simp));have c9:=hid (ba.out.step kx (fun z o=>by simp at o) (fun z o=>Or.inl o));have er:=hid (en.out.kept kx (by simp));clear kx e2 ba en t4' z17' ad ag
 cases a2:fq log a0 with
 |true =>
  have d:=D.out;rw[a2,if_pos rfl]at d;subst d;go_wp2_with fail;go_ret;exact⟨((HK.out.trans P.out).mono (fun _ _ h=>by simp at h)),rfl,by decide⟩
 |false =>
 have d:=D.out;rw[a2,if_neg (by simp)]at d;clear D;have D:=hid d;clear d a2;go_upto_region 13 with(fail)
 go_cut [85] (fun v wx=>v=.bool (decide (¬j=0/\ix < 0))/\wx=wc)
 case first =>
  by_cases h0:j=0
  ·have hd:decide (j=0)=true:=by simpa using h0
   go_wp2_with fail
   go_meet
   exact⟨by simp[h0],rfl⟩
  ·by_cases h1:ix < 0
   ·go_wp2_with fail
    go_meet
    exact⟨by simp[h0,h1],rfl⟩
   ·go_wp2_with fail
    go_meet
    exact⟨by simp[h1],rfl⟩
 case rest =>
 obtain⟨hv,hw⟩:=hcut;subst hv;have hw:=hw.symm;subst hw
 by_cases hbad:¬j=0/\ix < 0
 ·have d:=D.out;rw[if_pos hbad]at d;subst d;have hd:=decide_eq_true hbad;rw[hd];go_wp2_with fail;go_ret;exact⟨((HK.out.trans P.out).mono (fun _ _ h=>by simp at h)),rfl,by decide⟩
 have d:=D.out;rw[if_neg hbad]at d;clear D;have D:=hid d;have hd:=decide_eq_false hbad;rw[hd];clear d hbad hd;have bk:=hid (HC.out.kept P.out);have g2:wc.cell? ⟨gc,2,none⟩=some (.slice N A M):=bk.out.blk.cell 2
 by_cases hfull:4096<=A
 ·have d:=D.out;rw[if_pos hfull]at d;subst d
  have hfull':(4096:Int)<=(A:Int):=by omega
  go_wp2_with fail;go_ret;exact⟨((HK.out.trans P.out).mono (fun _ _ h=>by simp at h)),rfl,by decide⟩
 have hfull':¬(4096:Int)<=(A:Int):=by omega
 have d:=D.out;rw[if_neg hfull]at d;clear D;have b3:aw (gc::(obl vq++obl (.slice N A M))) (fun w=>PdR w [.int .i64 c0,.string ⟨c1.toArray⟩,.string ⟨c2.toArray⟩,.int .i64 c3,.slice ac dn dc] p) wc:=c9.out.less (fun z o=>Or.inl (List.mem_range.2 (by have:=ca.out z o;have:=HK.out.size;have:=cb.out;omega)));have d2:=mJ bk.out b3 hlq
 have f:(R=.error 6/\∀e w',QstR B5 gc vm qs us vq (.slice N A M) p e w'->e=.returned (.tuple #[.int .i64 0,.bool false])) \/
   (∃(qi:Nat) (qs':List Pd),R=.ok (qs',us++[⟨qi,key,F,ix⟩])/\∀e w',QstR B5 gc vm qs us vq (.slice N A M) p e w'->e=.returned (.tuple #[.int .i64 (qi:Int),.bool true])/\∃vq',CrG B5 w' gc vm qs' us vq' (.slice N A M)):=by
  unfold QstR
  cases hfq:qs.findIdx? (cC p)with
  |some i =>
   rw[hfq]at d;exact Or.inr ⟨i,qs,d.symm,fun e w' h=>⟨h.1,vq,h.2⟩⟩
  |none =>
   rw[hfq]at d
   simp only at d
   by_cases h128:128<=qs.length
   ·rw[if_pos h128]at d;exact Or.inl ⟨d.symm,fun e w' h=>by simp only[if_pos h128]at h;exact h⟩
   ·rw[if_neg h128]at d;exact Or.inr ⟨qs.length,_,d.symm,fun e w' h=>by simp only[if_neg h128]at h;exact h⟩
 have e1:=hid d2;clear d d2 b3;obtain⟨Q,hQ⟩:∃Q,QstR B5 gc vm qs us vq (.slice N A M) p=Q:=⟨_,rfl⟩;rw[hQ]at f
 have af:Hid (Calls prog 92 #[.pointer (some ⟨gc,0,none⟩),.agg #[.int .i64 c0,.string ⟨c1.toArray⟩,.string ⟨c2.toArray⟩,.int .i64 c3,.slice ac dn dc]] wc fun e w'=>Kept (gc::obl vq) wc w'/\Q e w'):=by rw[<-hQ];exact e1
 have q0:wc.cell? ⟨bq,0,none⟩=some (.int .i64 c0):=Z.out.cell 0;have q1:wc.cell? ⟨bq,1,none⟩=some (.string ⟨c1.toArray⟩):=Z.out.cell 1;have q2:wc.cell? ⟨bq,2,none⟩=some (.string ⟨c2.toArray⟩):=Z.out.cell 2;have q3:wc.cell? ⟨bq,3,none⟩=some (.int .i64 c3):=Z.out.cell 3;have q4:wc.cell? ⟨bq,4,none⟩=some (.slice ac dn dc):=Z.out.cell 4;clear hQ e1
 rcases f with⟨rfl,f⟩|⟨qi,qs',rfl,f⟩
 ·have Y:=hid f;clear f;go_wp2_with (go_at_call 92;refine af.out.mono ?_;rintro e I ⟨kq,c7⟩;have he:=Y.out _ _ c7;subst he);go_ret
  exact⟨((HK.out.trans P.out).mono (fun _ _ h=>by simp at h)).trans (kq.mono (fun z _ h=>by
   rcases List.mem_cons.1 h with h|h
   ·exact List.mem_cons.2 (Or.inl h)
   ·exact List.mem_cons_of_mem _ (List.mem_append_left _ h))),rfl,by decide⟩
 have Y:=hid f;clear f;go_upto_region 20 with(go_at_call 92;refine af.out.mono ?_;rintro e I ⟨kq,c7⟩;obtain⟨rfl,vq',L⟩:=Y.out _ _ c7)
 have f4:bt∉gc::obl vq:=fun hm=>by
  have:bt < m:=ca.out bt (by
   rcases List.mem_cons.1 hm with h|h
   ·exact List.mem_cons.2 (Or.inl h)
   ·exact List.mem_cons_of_mem _ (List.mem_append_left _ h))
  omega
 have b8:=er.out.kept kq f4
 have f3:bt∉obl (.slice N A M):=fun hm=>by
  have:=ca.out bt (List.mem_cons_of_mem _ (List.mem_append_right _ hm));omega
 have cz:gc∉obl (.slice N A M):=fun hm=>by have:=(aA L.u gc hm).1;have:=L.low.1;omega
 have s4:∀w',Kept (obl (.slice N A M)) I w'->w'.cell? ⟨bt,4,none⟩=some (.slice ra F rc):=fun w' k=>(b8.kept k f3).cell 4;have s2:∀w',Kept (obl (.slice N A M)) I w'->w'.cell? ⟨gc,2,none⟩=some (.slice N A M):=fun w' k=>(L.blk.kept k cz).cell 2;have a8:=L.u;rw[ds.out]at a8;have r:=hid L;have e5:=hid a8;have eg:=hid kq;have c5:B5<=I.heap.size:=L.low.2;clear L a8 kq b8 g2 q0 q1 q2 q3 q4 a4 Y af;refine ar [16] (fun w'=>Kept (obl (.slice N A M)) I w') (by kernel_rfl) (Kept.refl _ _).drew (fun hH=>?_);obtain⟨w8',a1⟩:∃y,I.drew=y:=⟨_,rfl⟩;have f9:w8'.ownsRow B5 84 4 (.slice N A M) A (snsC us):=a1▸ax e5.out (S:=[]) (Kept.refl [] I).drew (by simp);have g4:Blk w8' gc 67 #[vq',vm,.slice N A M]:=a1▸r.out.blk.drew;have ha:B5<=w8'.heap.size:=a1▸c5;have h7:I.heap.size<=w8'.heap.size:=a1▸Nat.le_refl _;rw[a1]at hH ⊢;clear a1;refine ah [16] (i:=0) (v:=?tv0z) rfl (by kernel_rfl) (by kernel_rfl) (by kernel_rfl) (by kernel_rfl) (fun _ _ _ h=>h) (Or.inl ⟨by rfl,?ty0z⟩) hH ?tr0z
 case ty0z=>intro w' c;(try dsimp only at c);go_simp;first|done|with_reducible rfl
 (try simp only[Act.put,List.setIfInBounds_toArray,List.set_cons_zero,List.set_cons_succ])
 refine ah [16] (i:=1) (v:=?tv1z) rfl (by kernel_rfl) (by kernel_rfl) (by kernel_rfl) (by kernel_rfl) (fun _ _ _ h=>h) (Or.inl ⟨by rfl,?ty1z⟩) hH ?tr1z
 case ty1z=>intro w' c;(try dsimp only at c);go_simp;first|done|with_reducible rfl
 (try simp only[Act.put,List.setIfInBounds_toArray,List.set_cons_zero,List.set_cons_succ])
 refine ah [16] (i:=2) (v:=?tv2z) rfl (by kernel_rfl) (by kernel_rfl) (by kernel_rfl) (by kernel_rfl) (fun _ _ _ h=>h) (Or.inl ⟨by rfl,?ty2z⟩) hH ?tr2z
 case ty2z=>intro w' c;(try dsimp only at c);go_simp;first|done|with_reducible rfl
 (try simp only[Act.put,List.setIfInBounds_toArray,List.set_cons_zero,List.set_cons_succ])
 refine ah [16] (i:=3) (v:=?tv3z) rfl (by kernel_rfl) (by kernel_rfl) (by kernel_rfl) (by kernel_rfl) (fun _ _ _ h=>h) (Or.inl ⟨by rfl,?ty3z⟩) hH ?tr3z
 case ty3z=>intro w' c;(try dsimp only at c);go_simp;first|done|with_reducible rfl
 (try simp only[Act.put,List.setIfInBounds_toArray,List.set_cons_zero,List.set_cons_succ])
 refine ah [16] (i:=4) (v:=?tv4z) rfl (by kernel_rfl) (by kernel_rfl) (by kernel_rfl) (by kernel_rfl) (fun _ _ _ h=>h) (Or.inl ⟨by rfl,?ty4z⟩) hH ?tr4z
 case ty4z=>intro w' c;(try dsimp only at c);go_simp;first|done|with_reducible rfl
 (try simp only[Act.put,List.setIfInBounds_toArray,List.set_cons_zero,List.set_cons_succ])
 refine ah [16] (i:=5) (v:=?tv5z) rfl (by kernel_rfl) (by kernel_rfl) (by kernel_rfl) (by kernel_rfl) (fun _ _ _ h=>h) (Or.inl ⟨by rfl,?ty5z⟩) hH ?tr5z
 case ty5z=>intro w' c;(try dsimp only at c);go_simp;first|done|with_reducible rfl
 (try simp only[Act.put,List.setIfInBounds_toArray,List.set_cons_zero,List.set_cons_succ])
 refine ah [16] (i:=6) (v:=?tv6z) rfl (by kernel_rfl) (by kernel_rfl) (by kernel_rfl) (by kernel_rfl) (fun _ _ _ h=>h) (Or.inl ⟨by rfl,?ty6z⟩) hH ?tr6z
 case ty6z=>intro w' c;(try dsimp only at c);go_simp;first|done|with_reducible rfl
 (try simp only[Act.put,List.setIfInBounds_toArray,List.set_cons_zero,List.set_cons_succ])
 refine ah [16] (i:=7) (v:=?tv7z) rfl (by kernel_rfl) (by kernel_rfl) (by kernel_rfl) (by kernel_rfl) (fun _ _ _ h=>h) (Or.inl ⟨by rfl,?ty7z⟩) hH ?tr7z
 case ty7z=>intro w' c;(try dsimp only at c);go_simp;first|done|with_reducible rfl
 (try simp only[Act.put,List.setIfInBounds_toArray,List.set_cons_zero,List.set_cons_succ])
 refine ah [16] (i:=8) (v:=?tv8z) rfl (by kernel_rfl) (by kernel_rfl) (by kernel_rfl) (by kernel_rfl) (fun _ _ _ h=>h) (Or.inl ⟨by rfl,?ty8z⟩) hH ?tr8z
 case ty8z=>intro w' c;(try dsimp only at c);go_simp;first|done|with_reducible rfl
 (try simp only[Act.put,List.setIfInBounds_toArray,List.set_cons_zero,List.set_cons_succ])
 refine ah [16] (i:=9) (v:=?tv9z) rfl (by kernel_rfl) (by kernel_rfl) (by kernel_rfl) (by kernel_rfl) (fun _ _ _ h=>h) (Or.inl ⟨by rfl,?ty9z⟩) hH ?tr9z
 case ty9z=>intro w' c;(try dsimp only at c);go_simp;first|done|with_reducible rfl
 (try simp only[Act.put,List.setIfInBounds_toArray,List.set_cons_zero,List.set_cons_succ])
 refine ah [16] (i:=10) (v:=?tv10z) rfl (by kernel_rfl) (by kernel_rfl) (by kernel_rfl) (by kernel_rfl) (fun _ _ _ h=>h) (Or.inl ⟨by rfl,?ty10z⟩) hH ?tr10z
 case ty10z=>intro w' c;(try dsimp only at c);go_simp;first|done|with_reducible rfl
 (try simp only[Act.put,List.setIfInBounds_toArray,List.set_cons_zero,List.set_cons_succ])
 refine ah [16] (i:=11) (v:=?tv11z) rfl (by kernel_rfl) (by kernel_rfl) (by kernel_rfl) (by kernel_rfl) (fun _ _ _ h=>h) (Or.inl ⟨by rfl,?ty11z⟩) hH ?tr11z
 case ty11z=>intro w' c;(try dsimp only at c);go_simp;first|done|with_reducible rfl
 (try simp only[Act.put,List.setIfInBounds_toArray,List.set_cons_zero,List.set_cons_succ])
 refine ai (rs:=[12]) (by kernel_rfl) (by simp) ?_;refine ae.cons rfl (fun K hK=>?_) ae.nil;go_simp;refine hK.out _ _ (hH.alloc _) (fun hH=>?_);clear hK K
 (try simp only[Act.put,List.setIfInBounds_toArray,List.set_cons_zero,List.set_cons_succ])
 refine ai (rs:=[13]) (by kernel_rfl) (by simp) ?_;refine ae.cons rfl (fun K hK=>?_) ae.nil;refine fh rfl 121 rfl _ _ 65 rfl B5 84 i0 _ 4 32 underlying65 hi f8 f7 f5 rfl (by decide) (.slice N A M) A (snsC us) rfl (ax f9 (S:=[]) ((Kept.refl [] w8').alloc _) (by simp)) _ 1 [.int .i64 (qi:Int),.int .i64 (key:Int),.int .i64 (F:Int),.int .i64 ix] rfl (al (cs:=[.int .i64 (qi:Int),.int .i64 (key:Int),.int .i64 (F:Int),.int .i64 ix]) (Blk.new _ _ _) rfl (by decide)) (by simp[Value.oneCell']) (by unfold maxLen;omega) (by omega) (by rw[World.size_alloc];omega) ?_;intro a' c' w6 a7 d6 fr;have X:=(g4.alloc (.cells #[.int .i64 (qi:Int),.int .i64 (key:Int),.int .i64 (F:Int),.int .i64 ix] 84)).kept d6 cz;have m6:w6.cell? ⟨gc,2,none⟩=some (.slice N A M):=X.cell 2;have f6:=X.frozen 2;have dm:Kept (obl (.slice N A M)) I w6:=hH.trans d6;refine hK.out _ _ dm (fun hH=>?_);clear hK K
 (try simp only[Act.put,List.setIfInBounds_toArray,List.set_cons_zero,List.set_cons_succ])
 refine ah [15,16] (i:=14) (v:=?tv14y) rfl (by kernel_rfl) (by kernel_rfl) (by kernel_rfl) (by kernel_rfl) (fun _ _ _ h=>h) (Or.inl ⟨by rfl,?ty14y⟩) hH ?tr14y
 case ty14y=>intro w' c;(try dsimp only at c);go_simp;first|done|with_reducible rfl
 (try simp only[Act.put,List.setIfInBounds_toArray,List.set_cons_zero,List.set_cons_succ])
 refine ah [16] (i:=15) (v:=?tv15y) rfl (by kernel_rfl) (by kernel_rfl) (by kernel_rfl) (by kernel_rfl) (fun _ _ _ h=>h) (Or.inl ⟨by rfl,?ty15y⟩) hH ?tr15y
 case ty15y=>intro w' c;(try dsimp only at c);go_simp;first|done|with_reducible rfl
 (try simp only[Act.put,List.setIfInBounds_toArray,List.set_cons_zero,List.set_cons_succ])
 refine ai (rs:=[16]) (by kernel_rfl) (by simp) ?_;refine ae.last rfl (by kernel_rfl) (fun K hK=>?_);go_simp;refine hK.out _ _ ?_;clear hK K
 (try simp only[Act.put,List.setIfInBounds_toArray,List.set_cons_zero,List.set_cons_succ])
 refine ak (by kernel_rfl) ?_ _;go_wp2_with fail;obtain⟨w9,ao⟩:∃y,w6.setCell ⟨gc,2,none⟩ (.slice a' (A+1) c')=y:=⟨_,rfl⟩;rw[ao];have bl:Kept [gc] w6 w9:=ao▸(Kept.refl _ _).setCell (Or.inl (by simp)) _;have kf:Kept (gc::obl (.slice N A M)) I w9:=(dm.mono (fun _ _ h=>List.mem_cons_of_mem _ h)).trans (bl.mono (fun _ _ h=>by rw[List.mem_singleton]at h;rw[h];exact List.mem_cons_self))
 have hlu':∀k∈obl (.slice a' (A+1) c'),k∈obl (.slice N A M)\/I.heap.size<=k:=fun k hk=>by
  rcases fr k hk with h|h
  ·exact Or.inl h
  ·rw[World.size_alloc]at h;exact Or.inr (by omega)
 have d5:=ax a7 bl (fun z o hm=>by rw[List.mem_singleton]at hm;have:=(aA a7 z o).1;have:=r.out.low.1;omega);have d9:Blk w9 gc 67 #[vq',vm,.slice a' (A+1) c']:=ao▸X.set_ 2 _
 have dq:CrG B5 w9 gc vm qs' (us++[⟨qi,key,F,ix⟩]) vq' (.slice a' (A+1) c'):=by
  have fz:∀z∈obl vq',z∉gc::obl (.slice N A M):=fun z o hm=>by
   rcases List.mem_cons.1 hm with rfl|hm
   ·have:=(r.out.q.ge z o).1;have:=r.out.low.1;omega
   ·exact r.out.dis z o hm
  refine⟨d9,r.out.q.step kf fz (fun z o _=>?_) (fun z o=>?_),?_,fun z o hm=>?_,r.out.low.1,Nat.le_trans r.out.low.2 kf.size⟩
  ·rcases List.mem_cons.1 o with rfl|o
   ·exact List.mem_cons_self
   ·exact List.mem_cons_of_mem _ (List.mem_append_right _ o)
  ·rcases List.mem_cons.1 o with rfl|o
   ·exact Or.inl List.mem_cons_self
   ·rcases List.mem_append.1 o with o|o
    ·exact Or.inl (List.mem_cons_of_mem _ (List.mem_append_left _ o))
    ·rcases hlu' z o with h|h
     ·exact Or.inl (List.mem_cons_of_mem _ (List.mem_append_right _ h))
     ·exact Or.inr h
  ·rw[List.length_append,ds.out,List.length_singleton];rw[show snsC (us++[(⟨qi,key,F,ix⟩:Sn)])=snsC us++[.int .i64 (qi:Int),.int .i64 (key:Int),.int .i64 (F:Int),.int .i64 ix]by simp[snsC]];exact d5
  ·rcases hlu' z hm with h|h
   ·exact r.out.dis z o h
   ·have:=(r.out.q.ge z o).2;omega
 have gf:=hid dq;have g8:=hid kf;clear dq kf bl ao d5 d9 X m6 f6;go_ret;refine⟨?_,rfl,_,_,gf.out⟩;refine(((HK.out.trans P.out).mono (fun _ _ h=>by simp at h)).trans (eg.out.mono (fun z _ h=>?_))).trans (g8.out.mono (fun z _ h=>?_))
 ·rcases List.mem_cons.1 h with h|h
  ·exact List.mem_cons.2 (Or.inl h)
  ·exact List.mem_cons_of_mem _ (List.mem_append_left _ h)
 ·rcases List.mem_cons.1 h with h|h
  ·exact List.mem_cons.2 (Or.inl h)
  ·exact List.mem_cons_of_mem _ (List.mem_append_right _ h)
end Go.Proofs.YtpcmamoomaddoaaGreatDoor
